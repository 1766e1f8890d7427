/- Walks, as the kit's print writes them, run with stubs of my own and mended: TU. -/
import Derived.Test.YtnhbfbgflgplcaaQTU0
import Derived.Test.YtnhbfbgflgplcaaQTR0
import Derived.Test.YtnhbfbgflgplcaaQTR4
import Derived.Test.YtnhbfbgflgplcaaQTR5
namespace Go.Proofs.Ytnhbfbgflgplcaa.QTU
open Go.Proofs.Ytnhbfbgflgplcaa.QTR
open Go.Proofs.YtnhbfbgflgplcaaW Go.Proofs.YtnhbfbgflgplcaaW.Zip
open Go.RowKit Go.Proofs.YtnhbfbgflgplcaaW.PrintWords Go.Proofs.YtnhbfbgflgplcaaW.PrintLast Go.Proofs.YtnhbfbgflgplcaaW.PrintMore
attribute [local go_sem] max2_int min2_int max_two min_two max_three min_three max_four min_four   -- for this text's walks alone
set_option linter.unusedVariables false
set_option linter.unusedSimpArgs false

/-! ### impl_BelowOf: function 25 -/
mutual
def impl_BelowOf.j0 : Nat → Int → Bool → List (S52) → Int → Option (List Int)
  | 0, _, _, _, _ => none
  | k + 1, x1, x17, x255000, x255001 => if x17 = true then (some ([] : List Int)) else (impl_BelowOf.l0 k x1 ([] : List Int) x255000 (x255000.length : Int) 0 x255000 x255001)
def impl_BelowOf.l0 : Nat → Int → List Int → List (S52) → Int → Int → List (S52) → Int → Option (List Int)
  | 0, _, _, _, _, _, _, _ => none
  | k + 1, x1, x5, x19, x20, x21, x255000, x255001 => if x21 < x20 then (if 0 ≤ x21 then (if x21 < (x19.length : Int) then (impl_BelowOf.l1 k x1 x5 x19 x20 x21 x255000 x255001 ((rd_T52 x19 x21).f0) ((rd_T52 x19 x21).f1) ((rd_T52 x19 x21).f2) ((rd_T52 x19 x21).f3) ((rd_T52 x19 x21).f4) ((rd_T52 x19 x21).f5) ((rd_T52 x19 x21).f6) ((rd_T52 x19 x21).f7) ((rd_T52 x19 x21).f8) ((rd_T52 x19 x21).f0) ((rd_T52 x19 x21).f1) ((rd_T52 x19 x21).f2) ((rd_T52 x19 x21).f3) ((rd_T52 x19 x21).f4) ((rd_T52 x19 x21).f5) ((rd_T52 x19 x21).f6) ((rd_T52 x19 x21).f7) ((rd_T52 x19 x21).f8)) else (none)) else (none)) else (some x5)
def impl_BelowOf.l1 : Nat → Int → List Int → List (S52) → Int → Int → List (S52) → Int → Int → Int → ByteArray → Bool → Int → Int → Int → List (S64) → Int → Int → Int → ByteArray → Bool → Int → Int → Int → List (S64) → Int → Option (List Int)
  | 0, _, _, _, _, _, _, _, _, _, _, _, _, _, _, _, _, _, _, _, _, _, _, _, _, _ => none
  | k + 1, x1, x5, x19, x20, x21, x255000, x255001, x259000, x259001, x259002, x259003, x259004, x259005, x259006, x259007, x259008, x260000, x260001, x260002, x260003, x260004, x260005, x260006, x260007, x260008 => if x260000 = x1 then (if x5.length < 17592186044416 then (impl_BelowOf.l0 k x1 (x5 ++ [x259000]) x19 x20 (wrap64 (x21 + 1)) x255000 x255001) else (none)) else (if x260000 = 1 then (impl_BelowOf.l0 k x1 x5 x19 x20 (wrap64 (x21 + 1)) x255000 x255001) else ((impl_nodeAt.f k x255000 x255001 x260001).bind fun t263 => (if 0 ≤ t263 then (if t263 < (x255000.length : Int) then (impl_BelowOf.l1 k x1 x5 x19 x20 x21 x255000 x255001 x259000 x259001 x259002 x259003 x259004 x259005 x259006 x259007 x259008 ((rd_T52 x255000 t263).f0) ((rd_T52 x255000 t263).f1) ((rd_T52 x255000 t263).f2) ((rd_T52 x255000 t263).f3) ((rd_T52 x255000 t263).f4) ((rd_T52 x255000 t263).f5) ((rd_T52 x255000 t263).f6) ((rd_T52 x255000 t263).f7) ((rd_T52 x255000 t263).f8)) else (none)) else (none))))
end
def impl_BelowOf.f (k : Nat) (l0_0 : List (S52)) (a0_1 : Int) (a1 : Int) : Option (List Int) := (impl_TreeOk.f k l0_0 a0_1).bind fun t255 => (if t255 = true then ((impl_nodeAt.f k l0_0 a0_1 a1).bind fun t256 => (impl_BelowOf.j0 k a1 (decide (t256 < 0)) l0_0 a0_1)) else (impl_BelowOf.j0 k a1 true l0_0 a0_1))
theorem impl_BelowOf.mono_l : ∀ k, (∀ y0 y1 y2 y3, LeO (impl_BelowOf.j0 k y0 y1 y2 y3) (impl_BelowOf.j0 (k + 1) y0 y1 y2 y3)) ∧ (∀ y0 y1 y2 y3 y4 y5 y6, LeO (impl_BelowOf.l0 k y0 y1 y2 y3 y4 y5 y6) (impl_BelowOf.l0 (k + 1) y0 y1 y2 y3 y4 y5 y6)) ∧ (∀ y0 y1 y2 y3 y4 y5 y6 y7 y8 y9 y10 y11 y12 y13 y14 y15 y16 y17 y18 y19 y20 y21 y22 y23 y24, LeO (impl_BelowOf.l1 k y0 y1 y2 y3 y4 y5 y6 y7 y8 y9 y10 y11 y12 y13 y14 y15 y16 y17 y18 y19 y20 y21 y22 y23 y24) (impl_BelowOf.l1 (k + 1) y0 y1 y2 y3 y4 y5 y6 y7 y8 y9 y10 y11 y12 y13 y14 y15 y16 y17 y18 y19 y20 y21 y22 y23 y24))
  | 0 => ⟨fun _ _ _ _ r h => by simp [impl_BelowOf.j0] at h, fun _ _ _ _ _ _ _ r h => by simp [impl_BelowOf.l0] at h, fun _ _ _ _ _ _ _ _ _ _ _ _ _ _ _ _ _ _ _ _ _ _ _ _ _ r h => by simp [impl_BelowOf.l1] at h⟩
  | k + 1 => by
    obtain ⟨ih0, ih1, ih2⟩ := impl_BelowOf.mono_l k
    refine ⟨?_, ?_, ?_⟩
    · intro y0 y1 y2 y3
      unfold impl_BelowOf.j0
      repeat' first
      | (with_reducible exact ih0 _ _ _ _)
      | (with_reducible exact ih1 _ _ _ _ _ _ _)
      | (with_reducible exact ih2 _ _ _ _ _ _ _ _ _ _ _ _ _ _ _ _ _ _ _ _ _ _ _ _ _)
      | (with_reducible exact impl_TreeOk.mono _ _ _)
      | (with_reducible exact impl_nodeAt.mono _ _ _ _)
      | (with_reducible exact LeO.refl _)
      | (with_reducible exact LeO.none _)
      | (with_reducible refine LeO.ite ?_ ?_)
      | (with_reducible refine LeO.bind ?_ (fun _ => ?_))
      | exact ih0 _ _ _ _
      | exact ih1 _ _ _ _ _ _ _
      | exact ih2 _ _ _ _ _ _ _ _ _ _ _ _ _ _ _ _ _ _ _ _ _ _ _ _ _
      | exact impl_TreeOk.mono _ _ _
      | exact impl_nodeAt.mono _ _ _ _
      | exact LeO.none _
      | refine LeO.ite ?_ ?_
      | refine LeO.bind ?_ (fun _ => ?_)
    · intro y0 y1 y2 y3 y4 y5 y6
      unfold impl_BelowOf.l0
      repeat' first
      | (with_reducible exact ih0 _ _ _ _)
      | (with_reducible exact ih1 _ _ _ _ _ _ _)
      | (with_reducible exact ih2 _ _ _ _ _ _ _ _ _ _ _ _ _ _ _ _ _ _ _ _ _ _ _ _ _)
      | (with_reducible exact impl_TreeOk.mono _ _ _)
      | (with_reducible exact impl_nodeAt.mono _ _ _ _)
      | (with_reducible exact LeO.refl _)
      | (with_reducible exact LeO.none _)
      | (with_reducible refine LeO.ite ?_ ?_)
      | (with_reducible refine LeO.bind ?_ (fun _ => ?_))
      | exact ih0 _ _ _ _
      | exact ih1 _ _ _ _ _ _ _
      | exact ih2 _ _ _ _ _ _ _ _ _ _ _ _ _ _ _ _ _ _ _ _ _ _ _ _ _
      | exact impl_TreeOk.mono _ _ _
      | exact impl_nodeAt.mono _ _ _ _
      | exact LeO.none _
      | refine LeO.ite ?_ ?_
      | refine LeO.bind ?_ (fun _ => ?_)
    · intro y0 y1 y2 y3 y4 y5 y6 y7 y8 y9 y10 y11 y12 y13 y14 y15 y16 y17 y18 y19 y20 y21 y22 y23 y24
      unfold impl_BelowOf.l1
      repeat' first
      | (with_reducible exact ih0 _ _ _ _)
      | (with_reducible exact ih1 _ _ _ _ _ _ _)
      | (with_reducible exact ih2 _ _ _ _ _ _ _ _ _ _ _ _ _ _ _ _ _ _ _ _ _ _ _ _ _)
      | (with_reducible exact impl_TreeOk.mono _ _ _)
      | (with_reducible exact impl_nodeAt.mono _ _ _ _)
      | (with_reducible exact LeO.refl _)
      | (with_reducible exact LeO.none _)
      | (with_reducible refine LeO.ite ?_ ?_)
      | (with_reducible refine LeO.bind ?_ (fun _ => ?_))
      | exact ih0 _ _ _ _
      | exact ih1 _ _ _ _ _ _ _
      | exact ih2 _ _ _ _ _ _ _ _ _ _ _ _ _ _ _ _ _ _ _ _ _ _ _ _ _
      | exact impl_TreeOk.mono _ _ _
      | exact impl_nodeAt.mono _ _ _ _
      | exact LeO.none _
      | refine LeO.ite ?_ ?_
      | refine LeO.bind ?_ (fun _ => ?_)
theorem impl_BelowOf.mono : ∀ a0 a1 a2 k, LeO (impl_BelowOf.f k a0 a1 a2) (impl_BelowOf.f (k + 1) a0 a1 a2) := by
  intro a0 a1 a2 k
  obtain ⟨ih0, ih1, ih2⟩ := impl_BelowOf.mono_l k
  unfold impl_BelowOf.f
  repeat' first
      | (with_reducible exact ih0 _ _ _ _)
      | (with_reducible exact ih1 _ _ _ _ _ _ _)
      | (with_reducible exact ih2 _ _ _ _ _ _ _ _ _ _ _ _ _ _ _ _ _ _ _ _ _ _ _ _ _)
      | (with_reducible exact impl_TreeOk.mono _ _ _)
      | (with_reducible exact impl_nodeAt.mono _ _ _ _)
      | (with_reducible exact LeO.refl _)
      | (with_reducible exact LeO.none _)
      | (with_reducible refine LeO.ite ?_ ?_)
      | (with_reducible refine LeO.bind ?_ (fun _ => ?_))
      | exact ih0 _ _ _ _
      | exact ih1 _ _ _ _ _ _ _
      | exact ih2 _ _ _ _ _ _ _ _ _ _ _ _ _ _ _ _ _ _ _ _ _ _ _ _ _
      | exact impl_TreeOk.mono _ _ _
      | exact impl_nodeAt.mono _ _ _ _
      | exact LeO.none _
      | refine LeO.ite ?_ ?_
      | refine LeO.bind ?_ (fun _ => ?_)
def impl_BelowOf.T9 : Bool × List (List Nat × List Nat) := (true, [([], []), ([0], [0]), ([], []), ([], []), ([3], [3]), ([2, 4], [2, 4]), ([1, 5], [1, 5]), ([6], [6]), ([7, 5, 0, 1, 2, 3, 4, 5, 6, 7], [7])])
def impl_BelowOf.B9 : List Nat := [0, 1, 0, 0, 8, 28, 63, 127, 255]
theorem impl_BelowOf.tab9 : rtab .any (opsOf Try.f25 9) = impl_BelowOf.T9 := by kernel_rfl
theorem impl_BelowOf.bits9 : waitsOk impl_BelowOf.T9.2 impl_BelowOf.B9 = true := by kernel_rfl
set_option maxHeartbeats 8000000 in
set_option maxRecDepth 100000 in
theorem impl_BelowOf.calls (k : Nat) (A0_0 : Option Addr) (c0_0 : Nat) (l0_0 : List (S52)) (a0_1 : Int) (a1 : Int) (r : List Int) (w : World) (hr0_0 : Kd.C k52 w A0_0 l0_0.length l0_0) (hc0_0 : l0_0.length ≤ c0_0) (h : impl_BelowOf.f k l0_0 a0_1 a1 = some r) :
    Calls Try.prog 25 #[.agg #[.slice A0_0 l0_0.length c0_0, .int .i64 a0_1], .int .i64 a1] w fun e w' => ∃ v0_ : Value, e = .returned (v0_) ∧ Kd.R (Kd.int .i64) 3 w' w.heap.size (fun _ => True) v0_ r ∧ Below w.heap.size w w' := by
  have hu29 := Try.underlying29
  have hu52 := Try.underlying52
  have HR0_0 := Aside0.mk hr0_0
  have HC0_0 := Aside0.mk hc0_0
  clear hr0_0 hc0_0
  have HB := Aside0.mk (Below.refl w.heap.size w)
  have H : ((impl_TreeOk.f k l0_0 a0_1).bind fun t255 => (if t255 = true then ((impl_nodeAt.f k l0_0 a0_1 a1).bind fun t256 => (impl_BelowOf.j0 k a1 (decide (t256 < 0)) l0_0 a0_1)) else (impl_BelowOf.j0 k a1 true l0_0 a0_1))) = some r := h
  clear h
  have HC3 := Aside0.mk H
  clear H
  go_enter Try.func25, Try.ntmps25
  go_upto_region 1 with (first | ((with_reducible refine gate_dst (N := 2) rfl ?_); refine box_event ?hg (N := 2) ?hd (cs := #[.slice A0_0 l0_0.length c0_0, .int .i64 a0_1]) (t := 29) ?hr ?_; (case hd => rfl); (case hg => rfl); (case hr => first | (go_simp; done) | (go_simp; rfl)); intro gb254 hg w4 hbox hb; have n0_ := Aside0.mk (below_step (pl0 HB.out) hb); have n1_ := Aside0.mk (hbox); have n2_ := Aside0.mk ((by rw [hg]; exact (below_size (pl0 HB.out)) : w.heap.size ≤ gb254)); have n3_ := Aside0.mk ((by rw [hg]; exact (below_size (pl0 HB.out)) : w.heap.size ≤ gb254)); clear HB; have HB := n0_; have BK254 := n1_; have GW254 := n2_; have GE254 := n3_; clear n0_ n1_ n2_ n3_; clear hb hbox hg))
  (try simp only [Act.put, List.setIfInBounds_toArray, List.set_cons_zero, List.set_cons_succ])
  go_cut [17] (fun v17 wc => ∃ (kq : Nat) (x17_2 : Bool), v17 = .bool x17_2 ∧ Aside0 (impl_BelowOf.j0 kq a1 x17_2 l0_0 a0_1 = some r) ∧ Aside0 (kq ≤ k) ∧ Aside0 (wc.heap[gb254]? = some (.cells #[(.slice A0_0 l0_0.length c0_0), .int .i64 a0_1] 29 (0, 0))) ∧ Aside0 (Below w.heap.size w wc))
  case first =>
   have H := HC3.out
   clear HC3
   replace H := Option.bind_eq_some_iff.mp H
   obtain ⟨t255, A50, H⟩ := H
   replace H : (if t255 = true then ((impl_nodeAt.f k l0_0 a0_1 a1).bind fun t256 => (impl_BelowOf.j0 k a1 (decide (t256 < 0)) l0_0 a0_1)) else (impl_BelowOf.j0 k a1 true l0_0 a0_1)) = some r := H
   have A5 := Aside0.mk A50
   clear A50
   by_cases c6 : t255 = true
   ·subst c6
    have H1 : ((impl_nodeAt.f k l0_0 a0_1 a1).bind fun t256 => (impl_BelowOf.j0 k a1 (decide (t256 < 0)) l0_0 a0_1)) = some r := by rw [if_pos rfl] at H; exact H
    clear H
    have H := H1
    clear H1
    replace H := Option.bind_eq_some_iff.mp H
    obtain ⟨t256, A70, H⟩ := H
    replace H : (impl_BelowOf.j0 k a1 (decide (t256 < 0)) l0_0 a0_1) = some r := H
    have A7 := Aside0.mk A70
    clear A70
    have H' := Aside0.mk H
    clear H
    obtain ⟨hcz8_0, hcz8_1, hfz8_0, hfz8_1⟩ := z2 BK254.out
    go_wp2_with (first | ((with_reducible refine gate_callee (f := 14) rfl ?_); refine goesL_ (some 10) rfl rfl Try.func14 (by kernel_rfl) rfl #[.agg #[.slice A0_0 l0_0.length c0_0, .int .i64 a0_1]] rfl (by (try simp only [List.map_toArray, List.map_cons, List.map_nil]); first | done | rfl | (simp only [List.length_drop, List.length_take]; rfl)) ?_; (with_reducible refine (impl_TreeOk.calls k _ _ l0_0 a0_1 true _ ?side1 ?side2 A5.out).mono ?_); (case side1 => exact pc (Kd.C_below HR0_0.out HB.out)); (case side2 => exact HC0_0.out); rintro e w9 ⟨rfl, hb⟩; refine ⟨_, rfl, ?_⟩; have n0_ := Aside0.mk (pb BK254.out hb); have n1_ := Aside0.mk (below_step (pl1 HB.out GE254.out) hb); clear BK254; clear HB; have BK254 := n0_; have HB := n1_; clear n0_ n1_; (try clear hb); (try clear hb2); (try clear hk); (try clear hi); have hcz10_0 : w9.cell? ⟨gb254, 0, none⟩ = some (.slice A0_0 l0_0.length c0_0) := (blk_cell BK254.out 0).trans rfl; have hcz10_1 : w9.cell? ⟨gb254, 1, none⟩ = some (.int .i64 a0_1) := (blk_cell BK254.out 1).trans rfl; have hfz10_0 := blk_frozen BK254.out 0; have hfz10_1 := blk_frozen BK254.out 1) | (go_at_call 49; (with_reducible refine (impl_nodeAt.calls k _ _ l0_0 a0_1 a1 t256 _ ?side1 ?side2 A7.out).mono ?_); (case side1 => exact pc (Kd.C_below HR0_0.out HB.out)); (case side2 => exact HC0_0.out); rintro e w11 ⟨rfl, hb⟩; have n0_ := Aside0.mk (pb BK254.out hb); have n1_ := Aside0.mk (below_step (pl1 HB.out GE254.out) hb); clear BK254; clear HB; have BK254 := n0_; have HB := n1_; clear n0_ n1_; (try clear hb); (try clear hb2); (try clear hk); (try clear hi)))
    go_meet
    case rel => exact ⟨_, (decide (t256 < 0)), eqa, H', ⟨by first | omega | exact Nat.le_refl _⟩, ⟨pk BK254.out⟩, ⟨pl1 HB.out GE254.out⟩⟩
   ·replace c6 := Bool.eq_false_iff.mpr c6
    subst c6
    have H1 : (impl_BelowOf.j0 k a1 true l0_0 a0_1) = some r := by rw [if_neg (show ¬ (false = true) by decide)] at H; exact H
    clear H
    have H := H1
    clear H1
    have H' := Aside0.mk H
    clear H
    obtain ⟨hcz12_0, hcz12_1, hfz12_0, hfz12_1⟩ := z2 BK254.out
    go_wp2_with (first | ((with_reducible refine gate_callee (f := 14) rfl ?_); refine goesL_ (some 10) rfl rfl Try.func14 (by kernel_rfl) rfl #[.agg #[.slice A0_0 l0_0.length c0_0, .int .i64 a0_1]] rfl (by (try simp only [List.map_toArray, List.map_cons, List.map_nil]); first | done | rfl | (simp only [List.length_drop, List.length_take]; rfl)) ?_; (with_reducible refine (impl_TreeOk.calls k _ _ l0_0 a0_1 false _ ?side1 ?side2 A5.out).mono ?_); (case side1 => exact pc (Kd.C_below HR0_0.out HB.out)); (case side2 => exact HC0_0.out); rintro e w13 ⟨rfl, hb⟩; refine ⟨_, rfl, ?_⟩; have n0_ := Aside0.mk (pb BK254.out hb); have n1_ := Aside0.mk (below_step (pl1 HB.out GE254.out) hb); clear BK254; clear HB; have BK254 := n0_; have HB := n1_; clear n0_ n1_; (try clear hb); (try clear hb2); (try clear hk); (try clear hi)))
    go_meet
    case rel => exact ⟨_, (true), eqa, H', ⟨by first | omega | exact Nat.le_refl _⟩, ⟨pk BK254.out⟩, ⟨pl1 HB.out GE254.out⟩⟩
  case rest =>
   clear HC3
   obtain ⟨kq, x17_2, rfl, HA, HJ2, BK254, HB⟩ := hcut
   cases kq with
   | zero => exact absurd HA.out (by simp [impl_BelowOf.j0])
   | succ kj2 =>
    have H := HA.out
    clear HA
    simp only [impl_BelowOf.j0] at H
    by_cases c14 : x17_2 = true
    ·subst c14
     have H1 : (some ([] : List Int)) = some r := by rw [if_pos rfl] at H; exact H
     clear H
     have H := H1
     clear H1
     obtain rfl := Option.some.inj H
     go_wp2
     go_ret
     exact ⟨_, by first | rfl | (simp [errW_none, errW_some] <;> rfl) | (simp [*, errW_none, errW_some] <;> rfl), by first | exact Kd.R_nil _ _ _ _ _ | exact Kd.N_nil _ _ _ _ _ | exact Kd.V_nil _ _ _ _ _ | exact Kd.Q_nil _ _ _ _ _ | exact Kd.S_nil _ _ _ _ _, by repeat (first | (with_reducible first | exact HB.out | apply below_alloc | apply pw_below_drewN | apply below_drew1 | refine below_set ?_ GE254.out) | exact HB.out)⟩
    ·replace c14 := Bool.eq_false_iff.mpr c14
     subst c14
     have H1 : (impl_BelowOf.l0 kj2 a1 ([] : List Int) l0_0 (l0_0.length : Int) 0 l0_0 a0_1) = some r := by rw [if_neg (show ¬ (false = true) by decide)] at H; exact H
     clear H
     have H := H1
     clear H1
     have H' := Aside0.mk H
     clear H
     obtain ⟨hcz15_0, hcz15_1, hfz15_0, hfz15_1⟩ := z2 BK254.out
     go_wp2
     go_loopg [5, 21] kj2 (fun kq v5 v21 w' => ∃ (x5_2 : List Int) (x21_2 : Int), v21 = .int .i64 x21_2 ∧ Aside0 (impl_BelowOf.l0 kq a1 x5_2 l0_0 (l0_0.length : Int) x21_2 l0_0 a0_1 = some r) ∧ Aside0 (kq ≤ kj2) ∧ Aside0 (Kd.R (Kd.int .i64) 3 w' w.heap.size (fun _ => True) v5 x5_2) ∧ Aside0 (w'.heap[gb254]? = some (.cells #[(.slice A0_0 l0_0.length c0_0), .int .i64 a0_1] 29 (0, 0))) ∧ Aside0 (Below w.heap.size w w'))
     case atStart => exact ⟨(([] : List Int)), (0), eqa, H', ⟨Nat.le_refl _⟩, ⟨by first | exact Kd.R_nil _ _ _ _ _ | exact Kd.N_nil _ _ _ _ _ | exact Kd.V_nil _ _ _ _ _ | exact Kd.Q_nil _ _ _ _ _ | exact Kd.S_nil _ _ _ _ _⟩, ⟨pk BK254.out⟩, ⟨pl1 HB.out GE254.out⟩⟩
     case round =>
      clear H'
      try clear c14; try clear hcz15_0; try clear hcz15_1; try clear hfz15_0; try clear hfz15_1
      obtain ⟨x5_2, x21_2, rfl, HA, HK2, HO_5, BK254, HB⟩ := hrel
      cases gk with
      | zero => exact absurd HA.out (by simp [impl_BelowOf.l0])
      | succ k2 =>
       have H := HA.out
       clear HA
       simp only [impl_BelowOf.l0] at H
       by_cases c16 : x21_2 < (l0_0.length : Int)
       ·rw [if_pos c16] at H
        have c16b0 : decide (x21_2 < (l0_0.length : Int)) = true := decide_eq_true c16
        clear c16
        by_cases c17 : 0 ≤ x21_2
        ·rw [if_pos c17] at H
         have c17b0 : decide (0 ≤ x21_2) = true := decide_eq_true c17
         clear c17
         by_cases c18 : x21_2 < (l0_0.length : Int)
         ·rw [if_pos c18] at H
          have c18b0 : decide (x21_2 < (l0_0.length : Int)) = true := decide_eq_true c18
          clear c18
          have H' := Aside0.mk H
          clear H
          have p257 : 0 ≤ (x21_2 : Int) := oda
          have q257 : x21_2 < (l0_0.length : Int) := oda
          obtain ⟨ad257, A257_7, c257_7, e257, hx257_0, hx257_1, hx257_2, hx257_3, hx257_4, hx257_5, hx257_6, hx257_7, hx257_8, hl257_7, hi257_7⟩ := at_T52 HR0_0.out x21_2 p257 q257
          cases e257
          replace hx257_0 := hbc HB.out hx257_0
          replace hx257_1 := hbc HB.out hx257_1
          replace hx257_2 := hbc HB.out hx257_2
          replace hx257_3 := hbc HB.out hx257_3
          replace hx257_4 := hbc HB.out hx257_4
          replace hx257_5 := hbc HB.out hx257_5
          replace hx257_6 := hbc HB.out hx257_6
          replace hx257_7 := hbc HB.out hx257_7
          replace hx257_8 := hbc HB.out hx257_8
          have HR257_7 := Aside0.mk hi257_7
          have HC257_7 := Aside0.mk hl257_7
          clear hi257_7 hl257_7
          replace p257 := eq_true p257
          replace q257 := eq_true q257
          go_wp2_with (first | ((with_reducible refine gate_dst (N := 7) rfl ?_); refine box_event ?hg (N := 7) ?hd (cs := #[.int .i64 0, .int .i64 0, .string (⟨#[]⟩ : ByteArray), .bool false, .int .i64 0, .int .i64 0, .int .i64 0, .slice none 0 0, .int .i64 0]) (t := 52) ?hr ?_; (case hd => rfl); (case hg => rfl); (case hr => first | (go_simp; done) | (go_simp; rfl)); intro gb258 hg w19 hbox hb; have n0_ := Aside0.mk (Kd.R_below (by (with_reducible repeat (first | apply Kd.R_alloc | apply Kd.R_drewN | apply Kd.R_drew)); exact HO_5.out) hb); have n1_ := Aside0.mk (pb BK254.out hb); have n2_ := Aside0.mk (below_step (pl1 HB.out GE254.out) hb); have n3_ := Aside0.mk (hbox); have n4_ := Aside0.mk ((by rw [hg]; exact (below_size (pl1 HB.out GE254.out)) : w.heap.size ≤ gb258)); have n5_ := Aside0.mk ((by rw [hg]; exact (below_size (pl1 HB.out GE254.out)) : w.heap.size ≤ gb258)); have n6_ := Aside0.mk ((by rw [hg]; exact Nat.ne_of_lt (blk_lt (g := gb254) (o := .cells #[.slice (some ad257) l0_0.length c0_0, .int .i64 a0_1] 29 (0, 0)) (pk BK254.out)) : gb254 ≠ gb258)); have n7_ := Aside0.mk ((by rw [hg]; exact Nat.ne_of_gt (blk_lt (g := gb254) (o := .cells #[.slice (some ad257) l0_0.length c0_0, .int .i64 a0_1] 29 (0, 0)) (pk BK254.out)) : gb258 ≠ gb254)); clear HO_5; clear BK254; clear HB; have HO_5 := n0_; have BK254 := n1_; have HB := n2_; have BK258 := n3_; have GW258 := n4_; have GE258 := n5_; have NB254_258 := n6_; have NB258_254 := n7_; clear n0_ n1_ n2_ n3_ n4_ n5_ n6_ n7_; clear hb hbox hg; have hnb20 := NB258_254.out; have hnc20 := NB254_258.out; have hcz21_0 : w19.cell? ⟨gb258, 0, none⟩ = some (.int .i64 0) := (blk_cell BK258.out 0).trans rfl; have hcz21_1 : w19.cell? ⟨gb258, 1, none⟩ = some (.int .i64 0) := (blk_cell BK258.out 1).trans rfl; have hcz21_2 : w19.cell? ⟨gb258, 2, none⟩ = some (.string (⟨#[]⟩ : ByteArray)) := (blk_cell BK258.out 2).trans rfl; have hcz21_3 : w19.cell? ⟨gb258, 3, none⟩ = some (.bool false) := (blk_cell BK258.out 3).trans rfl; have hcz21_4 : w19.cell? ⟨gb258, 4, none⟩ = some (.int .i64 0) := (blk_cell BK258.out 4).trans rfl; have hcz21_5 : w19.cell? ⟨gb258, 5, none⟩ = some (.int .i64 0) := (blk_cell BK258.out 5).trans rfl; have hcz21_6 : w19.cell? ⟨gb258, 6, none⟩ = some (.int .i64 0) := (blk_cell BK258.out 6).trans rfl; have hcz21_7 : w19.cell? ⟨gb258, 7, none⟩ = some (.slice none 0 0) := (blk_cell BK258.out 7).trans rfl; have hcz21_8 : w19.cell? ⟨gb258, 8, none⟩ = some (.int .i64 0) := (blk_cell BK258.out 8).trans rfl; have hfz21_0 := blk_frozen BK258.out 0; have hfz21_1 := blk_frozen BK258.out 1; have hfz21_2 := blk_frozen BK258.out 2; have hfz21_3 := blk_frozen BK258.out 3; have hfz21_4 := blk_frozen BK258.out 4; have hfz21_5 := blk_frozen BK258.out 5; have hfz21_6 := blk_frozen BK258.out 6; have hfz21_7 := blk_frozen BK258.out 7; have hfz21_8 := blk_frozen BK258.out 8) | ((with_reducible refine gate_dst (N := 8) rfl ?_); refine box_event ?hg (N := 8) ?hd (cs := #[.int .i64 0, .int .i64 0, .string (⟨#[]⟩ : ByteArray), .bool false, .int .i64 0, .int .i64 0, .int .i64 0, .slice none 0 0, .int .i64 0]) (t := 52) ?hr ?_; (case hd => rfl); (case hg => rfl); (case hr => first | (go_simp; done) | (go_simp; rfl)); intro gb259 hg w22 hbox hb; have n0_ := Aside0.mk (Kd.R_below (by (with_reducible repeat (first | apply Kd.R_alloc | apply Kd.R_drewN | apply Kd.R_drew)); exact (Kd.R_mono (Kd.R_far (p := ⟨gb258, 8, none⟩) (Kd.R_far (p := ⟨gb258, 7, none⟩) (Kd.R_far (p := ⟨gb258, 6, none⟩) (Kd.R_far (p := ⟨gb258, 5, none⟩) (Kd.R_far (p := ⟨gb258, 4, none⟩) (Kd.R_far (p := ⟨gb258, 3, none⟩) (Kd.R_far (p := ⟨gb258, 2, none⟩) (Kd.R_far (p := ⟨gb258, 1, none⟩) (Kd.R_far (p := ⟨gb258, 0, none⟩) (Kd.R_types HO_5.out BK258.out (by decide)) (fun _ hk => hk.2) (.int .i64 ((rd_T52 l0_0 x21_2).f0))) (fun _ hk => hk.2) (.int .i64 ((rd_T52 l0_0 x21_2).f1))) (fun _ hk => hk.2) (.string ((rd_T52 l0_0 x21_2).f2))) (fun _ hk => hk.2) (.bool ((rd_T52 l0_0 x21_2).f3))) (fun _ hk => hk.2) (.int .i64 ((rd_T52 l0_0 x21_2).f4))) (fun _ hk => hk.2) (.int .i64 ((rd_T52 l0_0 x21_2).f5))) (fun _ hk => hk.2) (.int .i64 ((rd_T52 l0_0 x21_2).f6))) (fun _ hk => hk.2) (.slice A257_7 ((rd_T52 l0_0 x21_2).f7).length c257_7)) (fun _ hk => hk.2) (.int .i64 ((rd_T52 l0_0 x21_2).f8))) (fun _ h_ => h_.1))) hb); have n1_ := Aside0.mk (blk_below (g := gb254) (o := .cells #[.slice (some ad257) l0_0.length c0_0, .int .i64 a0_1] 29 (0, 0)) (by (with_reducible repeat (first | refine blk_drewN ?_ _ | refine blk_drew ?_ | refine blk_alloc ?_ _)); refine blk_far ?_ NB254_258.out _; (with_reducible repeat (first | refine blk_drewN ?_ _ | refine blk_drew ?_ | refine blk_alloc ?_ _)); refine blk_far ?_ NB254_258.out _; (with_reducible repeat (first | refine blk_drewN ?_ _ | refine blk_drew ?_ | refine blk_alloc ?_ _)); refine blk_far ?_ NB254_258.out _; (with_reducible repeat (first | refine blk_drewN ?_ _ | refine blk_drew ?_ | refine blk_alloc ?_ _)); refine blk_far ?_ NB254_258.out _; (with_reducible repeat (first | refine blk_drewN ?_ _ | refine blk_drew ?_ | refine blk_alloc ?_ _)); refine blk_far ?_ NB254_258.out _; (with_reducible repeat (first | refine blk_drewN ?_ _ | refine blk_drew ?_ | refine blk_alloc ?_ _)); refine blk_far ?_ NB254_258.out _; (with_reducible repeat (first | refine blk_drewN ?_ _ | refine blk_drew ?_ | refine blk_alloc ?_ _)); refine blk_far ?_ NB254_258.out _; (with_reducible repeat (first | refine blk_drewN ?_ _ | refine blk_drew ?_ | refine blk_alloc ?_ _)); refine blk_far ?_ NB254_258.out _; (with_reducible repeat (first | refine blk_drewN ?_ _ | refine blk_drew ?_ | refine blk_alloc ?_ _)); refine blk_far ?_ NB254_258.out _; (with_reducible repeat (first | refine blk_drewN ?_ _ | refine blk_drew ?_ | refine blk_alloc ?_ _)); exact BK254.out) hb); have n2_ := Aside0.mk (blk_below (g := gb258) (o := .cells #[.int .i64 ((rd_T52 l0_0 x21_2).f0), .int .i64 ((rd_T52 l0_0 x21_2).f1), .string ((rd_T52 l0_0 x21_2).f2), .bool ((rd_T52 l0_0 x21_2).f3), .int .i64 ((rd_T52 l0_0 x21_2).f4), .int .i64 ((rd_T52 l0_0 x21_2).f5), .int .i64 ((rd_T52 l0_0 x21_2).f6), .slice A257_7 ((rd_T52 l0_0 x21_2).f7).length c257_7, .int .i64 ((rd_T52 l0_0 x21_2).f8)] 52 (0, 0)) (by (with_reducible repeat (first | refine blk_drewN ?_ _ | refine blk_drew ?_ | refine blk_alloc ?_ _)); refine blk_put (cs := #[.int .i64 ((rd_T52 l0_0 x21_2).f0), .int .i64 ((rd_T52 l0_0 x21_2).f1), .string ((rd_T52 l0_0 x21_2).f2), .bool ((rd_T52 l0_0 x21_2).f3), .int .i64 ((rd_T52 l0_0 x21_2).f4), .int .i64 ((rd_T52 l0_0 x21_2).f5), .int .i64 ((rd_T52 l0_0 x21_2).f6), .slice A257_7 ((rd_T52 l0_0 x21_2).f7).length c257_7, .int .i64 0]) ?_ 8 _ rfl; (with_reducible repeat (first | refine blk_drewN ?_ _ | refine blk_drew ?_ | refine blk_alloc ?_ _)); refine blk_put (cs := #[.int .i64 ((rd_T52 l0_0 x21_2).f0), .int .i64 ((rd_T52 l0_0 x21_2).f1), .string ((rd_T52 l0_0 x21_2).f2), .bool ((rd_T52 l0_0 x21_2).f3), .int .i64 ((rd_T52 l0_0 x21_2).f4), .int .i64 ((rd_T52 l0_0 x21_2).f5), .int .i64 ((rd_T52 l0_0 x21_2).f6), .slice none 0 0, .int .i64 0]) ?_ 7 _ rfl; (with_reducible repeat (first | refine blk_drewN ?_ _ | refine blk_drew ?_ | refine blk_alloc ?_ _)); refine blk_put (cs := #[.int .i64 ((rd_T52 l0_0 x21_2).f0), .int .i64 ((rd_T52 l0_0 x21_2).f1), .string ((rd_T52 l0_0 x21_2).f2), .bool ((rd_T52 l0_0 x21_2).f3), .int .i64 ((rd_T52 l0_0 x21_2).f4), .int .i64 ((rd_T52 l0_0 x21_2).f5), .int .i64 0, .slice none 0 0, .int .i64 0]) ?_ 6 _ rfl; (with_reducible repeat (first | refine blk_drewN ?_ _ | refine blk_drew ?_ | refine blk_alloc ?_ _)); refine blk_put (cs := #[.int .i64 ((rd_T52 l0_0 x21_2).f0), .int .i64 ((rd_T52 l0_0 x21_2).f1), .string ((rd_T52 l0_0 x21_2).f2), .bool ((rd_T52 l0_0 x21_2).f3), .int .i64 ((rd_T52 l0_0 x21_2).f4), .int .i64 0, .int .i64 0, .slice none 0 0, .int .i64 0]) ?_ 5 _ rfl; (with_reducible repeat (first | refine blk_drewN ?_ _ | refine blk_drew ?_ | refine blk_alloc ?_ _)); refine blk_put (cs := #[.int .i64 ((rd_T52 l0_0 x21_2).f0), .int .i64 ((rd_T52 l0_0 x21_2).f1), .string ((rd_T52 l0_0 x21_2).f2), .bool ((rd_T52 l0_0 x21_2).f3), .int .i64 0, .int .i64 0, .int .i64 0, .slice none 0 0, .int .i64 0]) ?_ 4 _ rfl; (with_reducible repeat (first | refine blk_drewN ?_ _ | refine blk_drew ?_ | refine blk_alloc ?_ _)); refine blk_put (cs := #[.int .i64 ((rd_T52 l0_0 x21_2).f0), .int .i64 ((rd_T52 l0_0 x21_2).f1), .string ((rd_T52 l0_0 x21_2).f2), .bool false, .int .i64 0, .int .i64 0, .int .i64 0, .slice none 0 0, .int .i64 0]) ?_ 3 _ rfl; (with_reducible repeat (first | refine blk_drewN ?_ _ | refine blk_drew ?_ | refine blk_alloc ?_ _)); refine blk_put (cs := #[.int .i64 ((rd_T52 l0_0 x21_2).f0), .int .i64 ((rd_T52 l0_0 x21_2).f1), .string (⟨#[]⟩ : ByteArray), .bool false, .int .i64 0, .int .i64 0, .int .i64 0, .slice none 0 0, .int .i64 0]) ?_ 2 _ rfl; (with_reducible repeat (first | refine blk_drewN ?_ _ | refine blk_drew ?_ | refine blk_alloc ?_ _)); refine blk_put (cs := #[.int .i64 ((rd_T52 l0_0 x21_2).f0), .int .i64 0, .string (⟨#[]⟩ : ByteArray), .bool false, .int .i64 0, .int .i64 0, .int .i64 0, .slice none 0 0, .int .i64 0]) ?_ 1 _ rfl; (with_reducible repeat (first | refine blk_drewN ?_ _ | refine blk_drew ?_ | refine blk_alloc ?_ _)); refine blk_put (cs := #[.int .i64 0, .int .i64 0, .string (⟨#[]⟩ : ByteArray), .bool false, .int .i64 0, .int .i64 0, .int .i64 0, .slice none 0 0, .int .i64 0]) ?_ 0 _ rfl; (with_reducible repeat (first | refine blk_drewN ?_ _ | refine blk_drew ?_ | refine blk_alloc ?_ _)); exact BK258.out) hb); have n3_ := Aside0.mk (below_step (pl2 HB.out GE254.out GE258.out) hb); have n4_ := Aside0.mk (hbox); have n5_ := Aside0.mk ((by rw [hg]; exact (below_size (pl2 HB.out GE254.out GE258.out)) : w.heap.size ≤ gb259)); have n6_ := Aside0.mk ((by rw [hg]; exact (below_size (pl2 HB.out GE254.out GE258.out)) : w.heap.size ≤ gb259)); have n7_ := Aside0.mk ((by rw [hg]; exact Nat.ne_of_lt (blk_lt (g := gb254) (o := .cells #[.slice (some ad257) l0_0.length c0_0, .int .i64 a0_1] 29 (0, 0)) (by (with_reducible repeat (first | refine blk_drewN ?_ _ | refine blk_drew ?_ | refine blk_alloc ?_ _)); refine blk_far ?_ NB254_258.out _; (with_reducible repeat (first | refine blk_drewN ?_ _ | refine blk_drew ?_ | refine blk_alloc ?_ _)); refine blk_far ?_ NB254_258.out _; (with_reducible repeat (first | refine blk_drewN ?_ _ | refine blk_drew ?_ | refine blk_alloc ?_ _)); refine blk_far ?_ NB254_258.out _; (with_reducible repeat (first | refine blk_drewN ?_ _ | refine blk_drew ?_ | refine blk_alloc ?_ _)); refine blk_far ?_ NB254_258.out _; (with_reducible repeat (first | refine blk_drewN ?_ _ | refine blk_drew ?_ | refine blk_alloc ?_ _)); refine blk_far ?_ NB254_258.out _; (with_reducible repeat (first | refine blk_drewN ?_ _ | refine blk_drew ?_ | refine blk_alloc ?_ _)); refine blk_far ?_ NB254_258.out _; (with_reducible repeat (first | refine blk_drewN ?_ _ | refine blk_drew ?_ | refine blk_alloc ?_ _)); refine blk_far ?_ NB254_258.out _; (with_reducible repeat (first | refine blk_drewN ?_ _ | refine blk_drew ?_ | refine blk_alloc ?_ _)); refine blk_far ?_ NB254_258.out _; (with_reducible repeat (first | refine blk_drewN ?_ _ | refine blk_drew ?_ | refine blk_alloc ?_ _)); refine blk_far ?_ NB254_258.out _; (with_reducible repeat (first | refine blk_drewN ?_ _ | refine blk_drew ?_ | refine blk_alloc ?_ _)); exact BK254.out)) : gb254 ≠ gb259)); have n8_ := Aside0.mk ((by rw [hg]; exact Nat.ne_of_gt (blk_lt (g := gb254) (o := .cells #[.slice (some ad257) l0_0.length c0_0, .int .i64 a0_1] 29 (0, 0)) (by (with_reducible repeat (first | refine blk_drewN ?_ _ | refine blk_drew ?_ | refine blk_alloc ?_ _)); refine blk_far ?_ NB254_258.out _; (with_reducible repeat (first | refine blk_drewN ?_ _ | refine blk_drew ?_ | refine blk_alloc ?_ _)); refine blk_far ?_ NB254_258.out _; (with_reducible repeat (first | refine blk_drewN ?_ _ | refine blk_drew ?_ | refine blk_alloc ?_ _)); refine blk_far ?_ NB254_258.out _; (with_reducible repeat (first | refine blk_drewN ?_ _ | refine blk_drew ?_ | refine blk_alloc ?_ _)); refine blk_far ?_ NB254_258.out _; (with_reducible repeat (first | refine blk_drewN ?_ _ | refine blk_drew ?_ | refine blk_alloc ?_ _)); refine blk_far ?_ NB254_258.out _; (with_reducible repeat (first | refine blk_drewN ?_ _ | refine blk_drew ?_ | refine blk_alloc ?_ _)); refine blk_far ?_ NB254_258.out _; (with_reducible repeat (first | refine blk_drewN ?_ _ | refine blk_drew ?_ | refine blk_alloc ?_ _)); refine blk_far ?_ NB254_258.out _; (with_reducible repeat (first | refine blk_drewN ?_ _ | refine blk_drew ?_ | refine blk_alloc ?_ _)); refine blk_far ?_ NB254_258.out _; (with_reducible repeat (first | refine blk_drewN ?_ _ | refine blk_drew ?_ | refine blk_alloc ?_ _)); refine blk_far ?_ NB254_258.out _; (with_reducible repeat (first | refine blk_drewN ?_ _ | refine blk_drew ?_ | refine blk_alloc ?_ _)); exact BK254.out)) : gb259 ≠ gb254)); have n9_ := Aside0.mk ((by rw [hg]; exact Nat.ne_of_lt (blk_lt (g := gb258) (o := .cells #[.int .i64 ((rd_T52 l0_0 x21_2).f0), .int .i64 ((rd_T52 l0_0 x21_2).f1), .string ((rd_T52 l0_0 x21_2).f2), .bool ((rd_T52 l0_0 x21_2).f3), .int .i64 ((rd_T52 l0_0 x21_2).f4), .int .i64 ((rd_T52 l0_0 x21_2).f5), .int .i64 ((rd_T52 l0_0 x21_2).f6), .slice A257_7 ((rd_T52 l0_0 x21_2).f7).length c257_7, .int .i64 ((rd_T52 l0_0 x21_2).f8)] 52 (0, 0)) (by (with_reducible repeat (first | refine blk_drewN ?_ _ | refine blk_drew ?_ | refine blk_alloc ?_ _)); refine blk_put (cs := #[.int .i64 ((rd_T52 l0_0 x21_2).f0), .int .i64 ((rd_T52 l0_0 x21_2).f1), .string ((rd_T52 l0_0 x21_2).f2), .bool ((rd_T52 l0_0 x21_2).f3), .int .i64 ((rd_T52 l0_0 x21_2).f4), .int .i64 ((rd_T52 l0_0 x21_2).f5), .int .i64 ((rd_T52 l0_0 x21_2).f6), .slice A257_7 ((rd_T52 l0_0 x21_2).f7).length c257_7, .int .i64 0]) ?_ 8 _ rfl; (with_reducible repeat (first | refine blk_drewN ?_ _ | refine blk_drew ?_ | refine blk_alloc ?_ _)); refine blk_put (cs := #[.int .i64 ((rd_T52 l0_0 x21_2).f0), .int .i64 ((rd_T52 l0_0 x21_2).f1), .string ((rd_T52 l0_0 x21_2).f2), .bool ((rd_T52 l0_0 x21_2).f3), .int .i64 ((rd_T52 l0_0 x21_2).f4), .int .i64 ((rd_T52 l0_0 x21_2).f5), .int .i64 ((rd_T52 l0_0 x21_2).f6), .slice none 0 0, .int .i64 0]) ?_ 7 _ rfl; (with_reducible repeat (first | refine blk_drewN ?_ _ | refine blk_drew ?_ | refine blk_alloc ?_ _)); refine blk_put (cs := #[.int .i64 ((rd_T52 l0_0 x21_2).f0), .int .i64 ((rd_T52 l0_0 x21_2).f1), .string ((rd_T52 l0_0 x21_2).f2), .bool ((rd_T52 l0_0 x21_2).f3), .int .i64 ((rd_T52 l0_0 x21_2).f4), .int .i64 ((rd_T52 l0_0 x21_2).f5), .int .i64 0, .slice none 0 0, .int .i64 0]) ?_ 6 _ rfl; (with_reducible repeat (first | refine blk_drewN ?_ _ | refine blk_drew ?_ | refine blk_alloc ?_ _)); refine blk_put (cs := #[.int .i64 ((rd_T52 l0_0 x21_2).f0), .int .i64 ((rd_T52 l0_0 x21_2).f1), .string ((rd_T52 l0_0 x21_2).f2), .bool ((rd_T52 l0_0 x21_2).f3), .int .i64 ((rd_T52 l0_0 x21_2).f4), .int .i64 0, .int .i64 0, .slice none 0 0, .int .i64 0]) ?_ 5 _ rfl; (with_reducible repeat (first | refine blk_drewN ?_ _ | refine blk_drew ?_ | refine blk_alloc ?_ _)); refine blk_put (cs := #[.int .i64 ((rd_T52 l0_0 x21_2).f0), .int .i64 ((rd_T52 l0_0 x21_2).f1), .string ((rd_T52 l0_0 x21_2).f2), .bool ((rd_T52 l0_0 x21_2).f3), .int .i64 0, .int .i64 0, .int .i64 0, .slice none 0 0, .int .i64 0]) ?_ 4 _ rfl; (with_reducible repeat (first | refine blk_drewN ?_ _ | refine blk_drew ?_ | refine blk_alloc ?_ _)); refine blk_put (cs := #[.int .i64 ((rd_T52 l0_0 x21_2).f0), .int .i64 ((rd_T52 l0_0 x21_2).f1), .string ((rd_T52 l0_0 x21_2).f2), .bool false, .int .i64 0, .int .i64 0, .int .i64 0, .slice none 0 0, .int .i64 0]) ?_ 3 _ rfl; (with_reducible repeat (first | refine blk_drewN ?_ _ | refine blk_drew ?_ | refine blk_alloc ?_ _)); refine blk_put (cs := #[.int .i64 ((rd_T52 l0_0 x21_2).f0), .int .i64 ((rd_T52 l0_0 x21_2).f1), .string (⟨#[]⟩ : ByteArray), .bool false, .int .i64 0, .int .i64 0, .int .i64 0, .slice none 0 0, .int .i64 0]) ?_ 2 _ rfl; (with_reducible repeat (first | refine blk_drewN ?_ _ | refine blk_drew ?_ | refine blk_alloc ?_ _)); refine blk_put (cs := #[.int .i64 ((rd_T52 l0_0 x21_2).f0), .int .i64 0, .string (⟨#[]⟩ : ByteArray), .bool false, .int .i64 0, .int .i64 0, .int .i64 0, .slice none 0 0, .int .i64 0]) ?_ 1 _ rfl; (with_reducible repeat (first | refine blk_drewN ?_ _ | refine blk_drew ?_ | refine blk_alloc ?_ _)); refine blk_put (cs := #[.int .i64 0, .int .i64 0, .string (⟨#[]⟩ : ByteArray), .bool false, .int .i64 0, .int .i64 0, .int .i64 0, .slice none 0 0, .int .i64 0]) ?_ 0 _ rfl; (with_reducible repeat (first | refine blk_drewN ?_ _ | refine blk_drew ?_ | refine blk_alloc ?_ _)); exact BK258.out)) : gb258 ≠ gb259)); have n10_ := Aside0.mk ((by rw [hg]; exact Nat.ne_of_gt (blk_lt (g := gb258) (o := .cells #[.int .i64 ((rd_T52 l0_0 x21_2).f0), .int .i64 ((rd_T52 l0_0 x21_2).f1), .string ((rd_T52 l0_0 x21_2).f2), .bool ((rd_T52 l0_0 x21_2).f3), .int .i64 ((rd_T52 l0_0 x21_2).f4), .int .i64 ((rd_T52 l0_0 x21_2).f5), .int .i64 ((rd_T52 l0_0 x21_2).f6), .slice A257_7 ((rd_T52 l0_0 x21_2).f7).length c257_7, .int .i64 ((rd_T52 l0_0 x21_2).f8)] 52 (0, 0)) (by (with_reducible repeat (first | refine blk_drewN ?_ _ | refine blk_drew ?_ | refine blk_alloc ?_ _)); refine blk_put (cs := #[.int .i64 ((rd_T52 l0_0 x21_2).f0), .int .i64 ((rd_T52 l0_0 x21_2).f1), .string ((rd_T52 l0_0 x21_2).f2), .bool ((rd_T52 l0_0 x21_2).f3), .int .i64 ((rd_T52 l0_0 x21_2).f4), .int .i64 ((rd_T52 l0_0 x21_2).f5), .int .i64 ((rd_T52 l0_0 x21_2).f6), .slice A257_7 ((rd_T52 l0_0 x21_2).f7).length c257_7, .int .i64 0]) ?_ 8 _ rfl; (with_reducible repeat (first | refine blk_drewN ?_ _ | refine blk_drew ?_ | refine blk_alloc ?_ _)); refine blk_put (cs := #[.int .i64 ((rd_T52 l0_0 x21_2).f0), .int .i64 ((rd_T52 l0_0 x21_2).f1), .string ((rd_T52 l0_0 x21_2).f2), .bool ((rd_T52 l0_0 x21_2).f3), .int .i64 ((rd_T52 l0_0 x21_2).f4), .int .i64 ((rd_T52 l0_0 x21_2).f5), .int .i64 ((rd_T52 l0_0 x21_2).f6), .slice none 0 0, .int .i64 0]) ?_ 7 _ rfl; (with_reducible repeat (first | refine blk_drewN ?_ _ | refine blk_drew ?_ | refine blk_alloc ?_ _)); refine blk_put (cs := #[.int .i64 ((rd_T52 l0_0 x21_2).f0), .int .i64 ((rd_T52 l0_0 x21_2).f1), .string ((rd_T52 l0_0 x21_2).f2), .bool ((rd_T52 l0_0 x21_2).f3), .int .i64 ((rd_T52 l0_0 x21_2).f4), .int .i64 ((rd_T52 l0_0 x21_2).f5), .int .i64 0, .slice none 0 0, .int .i64 0]) ?_ 6 _ rfl; (with_reducible repeat (first | refine blk_drewN ?_ _ | refine blk_drew ?_ | refine blk_alloc ?_ _)); refine blk_put (cs := #[.int .i64 ((rd_T52 l0_0 x21_2).f0), .int .i64 ((rd_T52 l0_0 x21_2).f1), .string ((rd_T52 l0_0 x21_2).f2), .bool ((rd_T52 l0_0 x21_2).f3), .int .i64 ((rd_T52 l0_0 x21_2).f4), .int .i64 0, .int .i64 0, .slice none 0 0, .int .i64 0]) ?_ 5 _ rfl; (with_reducible repeat (first | refine blk_drewN ?_ _ | refine blk_drew ?_ | refine blk_alloc ?_ _)); refine blk_put (cs := #[.int .i64 ((rd_T52 l0_0 x21_2).f0), .int .i64 ((rd_T52 l0_0 x21_2).f1), .string ((rd_T52 l0_0 x21_2).f2), .bool ((rd_T52 l0_0 x21_2).f3), .int .i64 0, .int .i64 0, .int .i64 0, .slice none 0 0, .int .i64 0]) ?_ 4 _ rfl; (with_reducible repeat (first | refine blk_drewN ?_ _ | refine blk_drew ?_ | refine blk_alloc ?_ _)); refine blk_put (cs := #[.int .i64 ((rd_T52 l0_0 x21_2).f0), .int .i64 ((rd_T52 l0_0 x21_2).f1), .string ((rd_T52 l0_0 x21_2).f2), .bool false, .int .i64 0, .int .i64 0, .int .i64 0, .slice none 0 0, .int .i64 0]) ?_ 3 _ rfl; (with_reducible repeat (first | refine blk_drewN ?_ _ | refine blk_drew ?_ | refine blk_alloc ?_ _)); refine blk_put (cs := #[.int .i64 ((rd_T52 l0_0 x21_2).f0), .int .i64 ((rd_T52 l0_0 x21_2).f1), .string (⟨#[]⟩ : ByteArray), .bool false, .int .i64 0, .int .i64 0, .int .i64 0, .slice none 0 0, .int .i64 0]) ?_ 2 _ rfl; (with_reducible repeat (first | refine blk_drewN ?_ _ | refine blk_drew ?_ | refine blk_alloc ?_ _)); refine blk_put (cs := #[.int .i64 ((rd_T52 l0_0 x21_2).f0), .int .i64 0, .string (⟨#[]⟩ : ByteArray), .bool false, .int .i64 0, .int .i64 0, .int .i64 0, .slice none 0 0, .int .i64 0]) ?_ 1 _ rfl; (with_reducible repeat (first | refine blk_drewN ?_ _ | refine blk_drew ?_ | refine blk_alloc ?_ _)); refine blk_put (cs := #[.int .i64 0, .int .i64 0, .string (⟨#[]⟩ : ByteArray), .bool false, .int .i64 0, .int .i64 0, .int .i64 0, .slice none 0 0, .int .i64 0]) ?_ 0 _ rfl; (with_reducible repeat (first | refine blk_drewN ?_ _ | refine blk_drew ?_ | refine blk_alloc ?_ _)); exact BK258.out)) : gb259 ≠ gb258)); clear HO_5; clear BK254; clear BK258; clear HB; have HO_5 := n0_; have BK254 := n1_; have BK258 := n2_; have HB := n3_; have BK259 := n4_; have GW259 := n5_; have GE259 := n6_; have NB254_259 := n7_; have NB259_254 := n8_; have NB258_259 := n9_; have NB259_258 := n10_; clear n0_ n1_ n2_ n3_ n4_ n5_ n6_ n7_ n8_ n9_ n10_; clear hb hbox hg; have hnb23 := NB259_254.out; have hnc23 := NB254_259.out; have hnb24 := NB259_258.out; have hnc24 := NB258_259.out; have hcz25_0 : w22.cell? ⟨gb259, 0, none⟩ = some (.int .i64 0) := (blk_cell BK259.out 0).trans rfl; have hcz25_1 : w22.cell? ⟨gb259, 1, none⟩ = some (.int .i64 0) := (blk_cell BK259.out 1).trans rfl; have hcz25_2 : w22.cell? ⟨gb259, 2, none⟩ = some (.string (⟨#[]⟩ : ByteArray)) := (blk_cell BK259.out 2).trans rfl; have hcz25_3 : w22.cell? ⟨gb259, 3, none⟩ = some (.bool false) := (blk_cell BK259.out 3).trans rfl; have hcz25_4 : w22.cell? ⟨gb259, 4, none⟩ = some (.int .i64 0) := (blk_cell BK259.out 4).trans rfl; have hcz25_5 : w22.cell? ⟨gb259, 5, none⟩ = some (.int .i64 0) := (blk_cell BK259.out 5).trans rfl; have hcz25_6 : w22.cell? ⟨gb259, 6, none⟩ = some (.int .i64 0) := (blk_cell BK259.out 6).trans rfl; have hcz25_7 : w22.cell? ⟨gb259, 7, none⟩ = some (.slice none 0 0) := (blk_cell BK259.out 7).trans rfl; have hcz25_8 : w22.cell? ⟨gb259, 8, none⟩ = some (.int .i64 0) := (blk_cell BK259.out 8).trans rfl; have hfz25_0 := blk_frozen BK259.out 0; have hfz25_1 := blk_frozen BK259.out 1; have hfz25_2 := blk_frozen BK259.out 2; have hfz25_3 := blk_frozen BK259.out 3; have hfz25_4 := blk_frozen BK259.out 4; have hfz25_5 := blk_frozen BK259.out 5; have hfz25_6 := blk_frozen BK259.out 6; have hfz25_7 := blk_frozen BK259.out 7; have hfz25_8 := blk_frozen BK259.out 8))
          go_loopg [] k2 (fun kq w' => ∃ (x260000_3 : Int) (x260001_3 : Int) (x260002_3 : ByteArray) (x260003_3 : Bool) (x260004_3 : Int) (x260005_3 : Int) (x260006_3 : Int) (x260007_3 : List (S64)) (x260008_3 : Int) (u260007 : Value), Aside0 (impl_BelowOf.l1 kq a1 x5_2 l0_0 (l0_0.length : Int) x21_2 l0_0 a0_1 ((rd_T52 l0_0 x21_2).f0) ((rd_T52 l0_0 x21_2).f1) ((rd_T52 l0_0 x21_2).f2) ((rd_T52 l0_0 x21_2).f3) ((rd_T52 l0_0 x21_2).f4) ((rd_T52 l0_0 x21_2).f5) ((rd_T52 l0_0 x21_2).f6) ((rd_T52 l0_0 x21_2).f7) ((rd_T52 l0_0 x21_2).f8) x260000_3 x260001_3 x260002_3 x260003_3 x260004_3 x260005_3 x260006_3 x260007_3 x260008_3 = some r) ∧ Aside0 (kq ≤ k2) ∧ Aside0 (Kd.R (Kd.int .i64) 3 w' w.heap.size (fun _ => True) u5 x5_2) ∧ Aside0 (w'.heap[gb254]? = some (.cells #[(.slice (some ad257) l0_0.length c0_0), .int .i64 a0_1] 29 (0, 0))) ∧ Aside0 (w'.heap[gb258]? = some (.cells #[.int .i64 ((rd_T52 l0_0 x21_2).f0), .int .i64 ((rd_T52 l0_0 x21_2).f1), .string ((rd_T52 l0_0 x21_2).f2), .bool ((rd_T52 l0_0 x21_2).f3), .int .i64 ((rd_T52 l0_0 x21_2).f4), .int .i64 ((rd_T52 l0_0 x21_2).f5), .int .i64 ((rd_T52 l0_0 x21_2).f6), (.slice A257_7 ((rd_T52 l0_0 x21_2).f7).length c257_7), .int .i64 ((rd_T52 l0_0 x21_2).f8)] 52 (0, 0))) ∧ Aside0 (w'.heap[gb259]? = some (.cells #[.int .i64 x260000_3, .int .i64 x260001_3, .string x260002_3, .bool x260003_3, .int .i64 x260004_3, .int .i64 x260005_3, .int .i64 x260006_3, u260007, .int .i64 x260008_3] 52 (0, 0))) ∧ Aside0 (Below w.heap.size w w'))
          case atStart => exact ⟨((rd_T52 l0_0 x21_2).f0), ((rd_T52 l0_0 x21_2).f1), ((rd_T52 l0_0 x21_2).f2), ((rd_T52 l0_0 x21_2).f3), ((rd_T52 l0_0 x21_2).f4), ((rd_T52 l0_0 x21_2).f5), ((rd_T52 l0_0 x21_2).f6), ((rd_T52 l0_0 x21_2).f7), ((rd_T52 l0_0 x21_2).f8), (.slice A257_7 ((rd_T52 l0_0 x21_2).f7).length c257_7), H', ⟨Nat.le_refl _⟩, ⟨by (with_reducible repeat (first | apply Kd.R_alloc | apply Kd.R_drewN | apply Kd.R_drew)); exact Kd.R_mono (Kd.R_far (p := ⟨gb259, 8, none⟩) (Kd.R_far (p := ⟨gb259, 7, none⟩) (Kd.R_far (p := ⟨gb259, 6, none⟩) (Kd.R_far (p := ⟨gb259, 5, none⟩) (Kd.R_far (p := ⟨gb259, 4, none⟩) (Kd.R_far (p := ⟨gb259, 3, none⟩) (Kd.R_far (p := ⟨gb259, 2, none⟩) (Kd.R_far (p := ⟨gb259, 1, none⟩) (Kd.R_far (p := ⟨gb259, 0, none⟩) (Kd.R_types HO_5.out BK259.out (by decide)) (fun _ hk => hk.2) (.int .i64 ((rd_T52 l0_0 x21_2).f0))) (fun _ hk => hk.2) (.int .i64 ((rd_T52 l0_0 x21_2).f1))) (fun _ hk => hk.2) (.string ((rd_T52 l0_0 x21_2).f2))) (fun _ hk => hk.2) (.bool ((rd_T52 l0_0 x21_2).f3))) (fun _ hk => hk.2) (.int .i64 ((rd_T52 l0_0 x21_2).f4))) (fun _ hk => hk.2) (.int .i64 ((rd_T52 l0_0 x21_2).f5))) (fun _ hk => hk.2) (.int .i64 ((rd_T52 l0_0 x21_2).f6))) (fun _ hk => hk.2) (.slice A257_7 ((rd_T52 l0_0 x21_2).f7).length c257_7)) (fun _ hk => hk.2) (.int .i64 ((rd_T52 l0_0 x21_2).f8))) (fun _ hk => trivial)⟩, ⟨by (with_reducible repeat (first | refine blk_drewN ?_ _ | refine blk_drew ?_ | refine blk_alloc ?_ _)); refine blk_far ?_ NB254_259.out _; (with_reducible repeat (first | refine blk_drewN ?_ _ | refine blk_drew ?_ | refine blk_alloc ?_ _)); refine blk_far ?_ NB254_259.out _; (with_reducible repeat (first | refine blk_drewN ?_ _ | refine blk_drew ?_ | refine blk_alloc ?_ _)); refine blk_far ?_ NB254_259.out _; (with_reducible repeat (first | refine blk_drewN ?_ _ | refine blk_drew ?_ | refine blk_alloc ?_ _)); refine blk_far ?_ NB254_259.out _; (with_reducible repeat (first | refine blk_drewN ?_ _ | refine blk_drew ?_ | refine blk_alloc ?_ _)); refine blk_far ?_ NB254_259.out _; (with_reducible repeat (first | refine blk_drewN ?_ _ | refine blk_drew ?_ | refine blk_alloc ?_ _)); refine blk_far ?_ NB254_259.out _; (with_reducible repeat (first | refine blk_drewN ?_ _ | refine blk_drew ?_ | refine blk_alloc ?_ _)); refine blk_far ?_ NB254_259.out _; (with_reducible repeat (first | refine blk_drewN ?_ _ | refine blk_drew ?_ | refine blk_alloc ?_ _)); refine blk_far ?_ NB254_259.out _; (with_reducible repeat (first | refine blk_drewN ?_ _ | refine blk_drew ?_ | refine blk_alloc ?_ _)); refine blk_far ?_ NB254_259.out _; (with_reducible repeat (first | refine blk_drewN ?_ _ | refine blk_drew ?_ | refine blk_alloc ?_ _)); exact BK254.out⟩, ⟨by (with_reducible repeat (first | refine blk_drewN ?_ _ | refine blk_drew ?_ | refine blk_alloc ?_ _)); refine blk_far ?_ NB258_259.out _; (with_reducible repeat (first | refine blk_drewN ?_ _ | refine blk_drew ?_ | refine blk_alloc ?_ _)); refine blk_far ?_ NB258_259.out _; (with_reducible repeat (first | refine blk_drewN ?_ _ | refine blk_drew ?_ | refine blk_alloc ?_ _)); refine blk_far ?_ NB258_259.out _; (with_reducible repeat (first | refine blk_drewN ?_ _ | refine blk_drew ?_ | refine blk_alloc ?_ _)); refine blk_far ?_ NB258_259.out _; (with_reducible repeat (first | refine blk_drewN ?_ _ | refine blk_drew ?_ | refine blk_alloc ?_ _)); refine blk_far ?_ NB258_259.out _; (with_reducible repeat (first | refine blk_drewN ?_ _ | refine blk_drew ?_ | refine blk_alloc ?_ _)); refine blk_far ?_ NB258_259.out _; (with_reducible repeat (first | refine blk_drewN ?_ _ | refine blk_drew ?_ | refine blk_alloc ?_ _)); refine blk_far ?_ NB258_259.out _; (with_reducible repeat (first | refine blk_drewN ?_ _ | refine blk_drew ?_ | refine blk_alloc ?_ _)); refine blk_far ?_ NB258_259.out _; (with_reducible repeat (first | refine blk_drewN ?_ _ | refine blk_drew ?_ | refine blk_alloc ?_ _)); refine blk_far ?_ NB258_259.out _; (with_reducible repeat (first | refine blk_drewN ?_ _ | refine blk_drew ?_ | refine blk_alloc ?_ _)); exact BK258.out⟩, ⟨by (with_reducible repeat (first | refine blk_drewN ?_ _ | refine blk_drew ?_ | refine blk_alloc ?_ _)); refine blk_put (cs := #[.int .i64 ((rd_T52 l0_0 x21_2).f0), .int .i64 ((rd_T52 l0_0 x21_2).f1), .string ((rd_T52 l0_0 x21_2).f2), .bool ((rd_T52 l0_0 x21_2).f3), .int .i64 ((rd_T52 l0_0 x21_2).f4), .int .i64 ((rd_T52 l0_0 x21_2).f5), .int .i64 ((rd_T52 l0_0 x21_2).f6), .slice A257_7 ((rd_T52 l0_0 x21_2).f7).length c257_7, .int .i64 0]) ?_ 8 _ rfl; (with_reducible repeat (first | refine blk_drewN ?_ _ | refine blk_drew ?_ | refine blk_alloc ?_ _)); refine blk_put (cs := #[.int .i64 ((rd_T52 l0_0 x21_2).f0), .int .i64 ((rd_T52 l0_0 x21_2).f1), .string ((rd_T52 l0_0 x21_2).f2), .bool ((rd_T52 l0_0 x21_2).f3), .int .i64 ((rd_T52 l0_0 x21_2).f4), .int .i64 ((rd_T52 l0_0 x21_2).f5), .int .i64 ((rd_T52 l0_0 x21_2).f6), .slice none 0 0, .int .i64 0]) ?_ 7 _ rfl; (with_reducible repeat (first | refine blk_drewN ?_ _ | refine blk_drew ?_ | refine blk_alloc ?_ _)); refine blk_put (cs := #[.int .i64 ((rd_T52 l0_0 x21_2).f0), .int .i64 ((rd_T52 l0_0 x21_2).f1), .string ((rd_T52 l0_0 x21_2).f2), .bool ((rd_T52 l0_0 x21_2).f3), .int .i64 ((rd_T52 l0_0 x21_2).f4), .int .i64 ((rd_T52 l0_0 x21_2).f5), .int .i64 0, .slice none 0 0, .int .i64 0]) ?_ 6 _ rfl; (with_reducible repeat (first | refine blk_drewN ?_ _ | refine blk_drew ?_ | refine blk_alloc ?_ _)); refine blk_put (cs := #[.int .i64 ((rd_T52 l0_0 x21_2).f0), .int .i64 ((rd_T52 l0_0 x21_2).f1), .string ((rd_T52 l0_0 x21_2).f2), .bool ((rd_T52 l0_0 x21_2).f3), .int .i64 ((rd_T52 l0_0 x21_2).f4), .int .i64 0, .int .i64 0, .slice none 0 0, .int .i64 0]) ?_ 5 _ rfl; (with_reducible repeat (first | refine blk_drewN ?_ _ | refine blk_drew ?_ | refine blk_alloc ?_ _)); refine blk_put (cs := #[.int .i64 ((rd_T52 l0_0 x21_2).f0), .int .i64 ((rd_T52 l0_0 x21_2).f1), .string ((rd_T52 l0_0 x21_2).f2), .bool ((rd_T52 l0_0 x21_2).f3), .int .i64 0, .int .i64 0, .int .i64 0, .slice none 0 0, .int .i64 0]) ?_ 4 _ rfl; (with_reducible repeat (first | refine blk_drewN ?_ _ | refine blk_drew ?_ | refine blk_alloc ?_ _)); refine blk_put (cs := #[.int .i64 ((rd_T52 l0_0 x21_2).f0), .int .i64 ((rd_T52 l0_0 x21_2).f1), .string ((rd_T52 l0_0 x21_2).f2), .bool false, .int .i64 0, .int .i64 0, .int .i64 0, .slice none 0 0, .int .i64 0]) ?_ 3 _ rfl; (with_reducible repeat (first | refine blk_drewN ?_ _ | refine blk_drew ?_ | refine blk_alloc ?_ _)); refine blk_put (cs := #[.int .i64 ((rd_T52 l0_0 x21_2).f0), .int .i64 ((rd_T52 l0_0 x21_2).f1), .string (⟨#[]⟩ : ByteArray), .bool false, .int .i64 0, .int .i64 0, .int .i64 0, .slice none 0 0, .int .i64 0]) ?_ 2 _ rfl; (with_reducible repeat (first | refine blk_drewN ?_ _ | refine blk_drew ?_ | refine blk_alloc ?_ _)); refine blk_put (cs := #[.int .i64 ((rd_T52 l0_0 x21_2).f0), .int .i64 0, .string (⟨#[]⟩ : ByteArray), .bool false, .int .i64 0, .int .i64 0, .int .i64 0, .slice none 0 0, .int .i64 0]) ?_ 1 _ rfl; (with_reducible repeat (first | refine blk_drewN ?_ _ | refine blk_drew ?_ | refine blk_alloc ?_ _)); refine blk_put (cs := #[.int .i64 0, .int .i64 0, .string (⟨#[]⟩ : ByteArray), .bool false, .int .i64 0, .int .i64 0, .int .i64 0, .slice none 0 0, .int .i64 0]) ?_ 0 _ rfl; (with_reducible repeat (first | refine blk_drewN ?_ _ | refine blk_drew ?_ | refine blk_alloc ?_ _)); exact BK259.out⟩, ⟨pl3 HB.out GE254.out GE258.out GE259.out⟩⟩
          case round =>
           clear H'
           try clear c16; try clear c16b0; try clear c17; try clear c17b0; try clear c18; try clear c18b0; try clear hcz21_0; try clear hcz21_1; try clear hcz21_2; try clear hcz21_3; try clear hcz21_4; try clear hcz21_5; try clear hcz21_6; try clear hcz21_7; try clear hcz21_8; try clear hcz25_0; try clear hcz25_1; try clear hcz25_2; try clear hcz25_3; try clear hcz25_4; try clear hcz25_5; try clear hcz25_6; try clear hcz25_7; try clear hcz25_8; try clear hfz21_0; try clear hfz21_1; try clear hfz21_2; try clear hfz21_3; try clear hfz21_4; try clear hfz21_5; try clear hfz21_6; try clear hfz21_7; try clear hfz21_8; try clear hfz25_0; try clear hfz25_1; try clear hfz25_2; try clear hfz25_3; try clear hfz25_4; try clear hfz25_5; try clear hfz25_6; try clear hfz25_7; try clear hfz25_8; try clear hx257_0; try clear hx257_1; try clear hx257_2; try clear hx257_3; try clear hx257_4; try clear hx257_5; try clear hx257_6; try clear hx257_7; try clear hx257_8; try clear p257; try clear q257
           obtain ⟨x260000_3, x260001_3, x260002_3, x260003_3, x260004_3, x260005_3, x260006_3, x260007_3, x260008_3, u260007, HA, HK3, HO_5, BK254, BK258, BK259, HB⟩ := hrel
           cases gk with
           | zero => exact absurd HA.out (by simp [impl_BelowOf.l1])
           | succ k3 =>
            have H := HA.out
            clear HA
            simp only [impl_BelowOf.l1] at H
            by_cases c26 : x260000_3 = a1
            ·rw [if_pos c26] at H
             have c26b0 : (x260000_3 == a1) = true := beq_iff_eq.mpr c26
             have c26b1 : (x260000_3 != a1) = false := bne_eq_false_iff_eq.mpr c26
             clear c26
             by_cases c27 : x5_2.length < 17592186044416
             ·rw [if_pos c27] at H
              have LMc27 := Aside0.mk c27
              clear c27
              obtain ⟨y260, hy260⟩ : ∃ y_ : List Int, y_ = (x5_2 ++ [((rd_T52 l0_0 x21_2).f0)]) := ⟨_, rfl⟩
              replace H : (impl_BelowOf.l0 k3 a1 y260 l0_0 (l0_0.length : Int) (wrap64 (x21_2 + 1)) l0_0 a0_1) = some r := by first | (rw [hy260]; with_reducible exact H) | (have H2_ := (Option.bind_some _ _).symm.trans H; rw [hy260]; with_reducible exact H2_) | (have H2_ := (Option.bind_some _ _).symm.trans H; with_reducible exact H2_) | with_reducible exact H | (rw [hy260]; exact H) | exact H
              have Ny260 := Aside0.mk hy260
              clear hy260
              have H' := Aside0.mk H
              clear H
              have hnb28 := NB259_254.out
              have hnc28 := NB254_259.out
              have hnb29 := NB259_258.out
              have hnc29 := NB258_259.out
              obtain ⟨hcz30_0, hcz30_1, hcz30_2, hcz30_3, hcz30_4, hcz30_5, hcz30_6, hcz30_7, hcz30_8, hfz30_0, hfz30_1, hfz30_2, hfz30_3, hfz30_4, hfz30_5, hfz30_6, hfz30_7, hfz30_8⟩ := z9 BK259.out
              have hnb31 := NB258_254.out
              have hnc31 := NB254_258.out
              obtain ⟨hcz32_0, hcz32_1, hcz32_2, hcz32_3, hcz32_4, hcz32_5, hcz32_6, hcz32_7, hcz32_8, hfz32_0, hfz32_1, hfz32_2, hfz32_3, hfz32_4, hfz32_5, hfz32_6, hfz32_7, hfz32_8⟩ := z9 BK258.out
              go_wp2_with (first | ((with_reducible refine gate_builtin (b := .append) (xs := #[.tmp 47, .tmp 50]) rfl ?_); at_builtin; refine Kd.R_append (Kd.int .i64) (w0 := w) w.heap.size rfl (.tmp 47) (.tmp 50) 38 3 (.int .i64 0) 8 rfl Try.underlying38 info3 rfl (by decide) (by omega) u5 x5_2 ((rd_T52 l0_0 x21_2).f0) [.int .i64 ((rd_T52 l0_0 x21_2).f0)] (fun _ => True) (fun _ => False) rfl rfl ?aP (fun _ hk => hk.elim) ?aF ?aO ?aB ?aS ?aL ?_; (case aP => exact rfl); (case aB => exact (pl3 HB.out GE254.out GE258.out GE259.out)); (case aF => exact (fun _ _ => trivial)); (case aO => exact (by (with_reducible repeat (first | apply Kd.R_alloc | apply Kd.R_drewN | apply Kd.R_drew)); exact HO_5.out)); (case aS => exact (below_size (pl3 HB.out GE254.out GE258.out GE259.out))); (case aL => have := LMc27.out; omega); intro v261 w33 ho hb hg hat; rw [← Ny260.out] at ho; have n0_ := Aside0.mk (blk_grown (g := gb254) (o := .cells #[.slice (some ad257) l0_0.length c0_0, .int .i64 a0_1] 29 (0, 0)) (pk BK254.out) hg (Kd.R_ne HO_5.out BK254.out (by decide))); have n1_ := Aside0.mk (blk_grown (g := gb258) (o := .cells #[.int .i64 ((rd_T52 l0_0 x21_2).f0), .int .i64 ((rd_T52 l0_0 x21_2).f1), .string ((rd_T52 l0_0 x21_2).f2), .bool ((rd_T52 l0_0 x21_2).f3), .int .i64 ((rd_T52 l0_0 x21_2).f4), .int .i64 ((rd_T52 l0_0 x21_2).f5), .int .i64 ((rd_T52 l0_0 x21_2).f6), .slice A257_7 ((rd_T52 l0_0 x21_2).f7).length c257_7, .int .i64 ((rd_T52 l0_0 x21_2).f8)] 52 (0, 0)) (pk BK258.out) hg (Kd.R_ne HO_5.out BK258.out (by decide))); have n2_ := Aside0.mk (blk_grown (g := gb259) (o := .cells #[.int .i64 x260000_3, .int .i64 x260001_3, .string x260002_3, .bool x260003_3, .int .i64 x260004_3, .int .i64 x260005_3, .int .i64 x260006_3, u260007, .int .i64 x260008_3] 52 (0, 0)) (pk BK259.out) hg (Kd.R_ne HO_5.out BK259.out (by decide))); have n3_ := Aside0.mk (hb); have n4_ := Aside0.mk (ho); clear BK254; clear BK258; clear BK259; clear HB; clear HO_5; have BK254 := n0_; have BK258 := n1_; have BK259 := n2_; have HB := n3_; have HO262 := n4_; clear n0_ n1_ n2_ n3_ n4_; clear ho hb hg hat))
              go_roundg k3
              case measure => have := HJ2.out; have := HK2.out; have := HK3.out; omega
              case rel => exact ⟨(y260), (wrap64 (x21_2 + 1)), eqa, H', ⟨by have := HJ2.out; have := HK2.out; have := HK3.out; omega⟩, ⟨by (with_reducible repeat (first | apply Kd.R_alloc | apply Kd.R_drewN | apply Kd.R_drew)); exact HO262.out⟩, ⟨pk BK254.out⟩, ⟨pl3 HB.out GE254.out GE258.out GE259.out⟩⟩
             ·rw [if_neg c27] at H
              exact absurd H (by simp)
            ·rw [if_neg c26] at H
             have c26b0 : (x260000_3 == a1) = false := beq_eq_false_iff_ne.mpr c26
             have c26b1 : (x260000_3 != a1) = true := bne_iff_ne.mpr c26
             by_cases c34 : x260000_3 = 1
             ·rw [if_pos c34] at H
              have c34b0 : (x260000_3 == 1) = true := beq_iff_eq.mpr c34
              have c34b1 : (x260000_3 != 1) = false := bne_eq_false_iff_eq.mpr c34
              clear c34
              have H' := Aside0.mk H
              clear H
              have hnb35 := NB259_254.out
              have hnc35 := NB254_259.out
              have hnb36 := NB259_258.out
              have hnc36 := NB258_259.out
              obtain ⟨hcz37_0, hcz37_1, hcz37_2, hcz37_3, hcz37_4, hcz37_5, hcz37_6, hcz37_7, hcz37_8, hfz37_0, hfz37_1, hfz37_2, hfz37_3, hfz37_4, hfz37_5, hfz37_6, hfz37_7, hfz37_8⟩ := z9 BK259.out
              go_wp2
              go_roundg k3
              case measure => have := HJ2.out; have := HK2.out; have := HK3.out; omega
              case rel => exact ⟨(x5_2), (wrap64 (x21_2 + 1)), eqa, H', ⟨by have := HJ2.out; have := HK2.out; have := HK3.out; omega⟩, ⟨by (with_reducible repeat (first | apply Kd.R_alloc | apply Kd.R_drewN | apply Kd.R_drew)); exact HO_5.out⟩, ⟨pk BK254.out⟩, ⟨pl3 HB.out GE254.out GE258.out GE259.out⟩⟩
             ·rw [if_neg c34] at H
              have c34b0 : (x260000_3 == 1) = false := beq_eq_false_iff_ne.mpr c34
              have c34b1 : (x260000_3 != 1) = true := bne_iff_ne.mpr c34
              replace H := Option.bind_eq_some_iff.mp H
              obtain ⟨t263, A380, H⟩ := H
              replace H : (if 0 ≤ t263 then (if t263 < (l0_0.length : Int) then (impl_BelowOf.l1 k3 a1 x5_2 l0_0 (l0_0.length : Int) x21_2 l0_0 a0_1 ((rd_T52 l0_0 x21_2).f0) ((rd_T52 l0_0 x21_2).f1) ((rd_T52 l0_0 x21_2).f2) ((rd_T52 l0_0 x21_2).f3) ((rd_T52 l0_0 x21_2).f4) ((rd_T52 l0_0 x21_2).f5) ((rd_T52 l0_0 x21_2).f6) ((rd_T52 l0_0 x21_2).f7) ((rd_T52 l0_0 x21_2).f8) ((rd_T52 l0_0 t263).f0) ((rd_T52 l0_0 t263).f1) ((rd_T52 l0_0 t263).f2) ((rd_T52 l0_0 t263).f3) ((rd_T52 l0_0 t263).f4) ((rd_T52 l0_0 t263).f5) ((rd_T52 l0_0 t263).f6) ((rd_T52 l0_0 t263).f7) ((rd_T52 l0_0 t263).f8)) else (none)) else (none)) = some r := H
              have A38 := Aside0.mk A380
              clear A380
              by_cases c39 : 0 ≤ t263
              ·rw [if_pos c39] at H
               have c39b0 : decide (0 ≤ t263) = true := decide_eq_true c39
               clear c39
               by_cases c40 : t263 < (l0_0.length : Int)
               ·rw [if_pos c40] at H
                have c40b0 : decide (t263 < (l0_0.length : Int)) = true := decide_eq_true c40
                clear c40
                have H' := Aside0.mk H
                clear H
                have hnb41 := NB259_254.out
                have hnc41 := NB254_259.out
                have hnb42 := NB259_258.out
                have hnc42 := NB258_259.out
                obtain ⟨hcz43_0, hcz43_1, hcz43_2, hcz43_3, hcz43_4, hcz43_5, hcz43_6, hcz43_7, hcz43_8, hfz43_0, hfz43_1, hfz43_2, hfz43_3, hfz43_4, hfz43_5, hfz43_6, hfz43_7, hfz43_8⟩ := z9 BK259.out
                try go_wp2
                have n0_ := Aside0.mk (Kd.R_drew HO_5.out)
                have n1_ := Aside0.mk (blk_drew BK254.out)
                have n2_ := Aside0.mk (blk_drew BK258.out)
                have n3_ := Aside0.mk (blk_drew BK259.out)
                have n4_ := Aside0.mk (below_drew1 HB.out)
                clear HO_5
                clear BK254
                clear BK258
                clear BK259
                clear HB
                have HO_5 := n0_
                have BK254 := n1_
                have BK258 := n2_
                have BK259 := n3_
                have HB := n4_
                clear n0_ n1_ n2_ n3_ n4_
                have p264 : 0 ≤ (t263 : Int) := oda
                have q264 : t263 < (l0_0.length : Int) := oda
                obtain ⟨ad264, A264_7, c264_7, e264, hx264_0, hx264_1, hx264_2, hx264_3, hx264_4, hx264_5, hx264_6, hx264_7, hx264_8, hl264_7, hi264_7⟩ := at_T52 HR0_0.out t263 p264 q264
                have hw264_8 := hx264_8
                have hw264_7 := hx264_7
                have hw264_6 := hx264_6
                have hw264_5 := hx264_5
                have hw264_4 := hx264_4
                have hw264_3 := hx264_3
                have hw264_2 := hx264_2
                have hw264_1 := hx264_1
                have hw264_0 := hx264_0
                obtain rfl : ad257 = ad264 := (by injection e264)
                replace hx264_0 := hbc HB.out hx264_0
                replace hx264_1 := hbc HB.out hx264_1
                replace hx264_2 := hbc HB.out hx264_2
                replace hx264_3 := hbc HB.out hx264_3
                replace hx264_4 := hbc HB.out hx264_4
                replace hx264_5 := hbc HB.out hx264_5
                replace hx264_6 := hbc HB.out hx264_6
                replace hx264_7 := hbc HB.out hx264_7
                replace hx264_8 := hbc HB.out hx264_8
                have HR264_7 := Aside0.mk hi264_7
                have HC264_7 := Aside0.mk hl264_7
                clear hi264_7 hl264_7
                replace p264 := eq_true p264
                replace q264 := eq_true q264
                refine start_ (n := 9) (S := fun w' => w'.cell? ⟨gb254, 0, none⟩ = some (.slice (some ad257) l0_0.length c0_0) ∧ w'.cell? ⟨gb254, 1, none⟩ = some (.int .i64 a0_1) ∧ w'.cell? ⟨gb259, 0, none⟩ = some (.int .i64 x260000_3) ∧ w'.cell? ⟨gb259, 1, none⟩ = some (.int .i64 x260001_3) ∧ w'.cell? ⟨gb259, 2, none⟩ = some (.string x260002_3) ∧ w'.cell? ⟨gb259, 3, none⟩ = some (.bool x260003_3) ∧ w'.cell? ⟨gb259, 4, none⟩ = some (.int .i64 x260004_3) ∧ w'.cell? ⟨gb259, 5, none⟩ = some (.int .i64 x260005_3) ∧ w'.cell? ⟨gb259, 6, none⟩ = some (.int .i64 x260006_3) ∧ w'.cell? ⟨gb259, 7, none⟩ = some (u260007) ∧ w'.cell? ⟨gb259, 8, none⟩ = some (.int .i64 x260008_3) ∧ w'.cell? (ad257.add ((t263).toNat * 9)) = some (.int .i64 ((rd_T52 l0_0 t263).f0)) ∧ w'.cell? ⟨(ad257.add ((t263).toNat * 9)).block, (ad257.add ((t263).toNat * 9)).off + 1, none⟩ = some (.int .i64 ((rd_T52 l0_0 t263).f1)) ∧ w'.cell? ⟨(ad257.add ((t263).toNat * 9)).block, (ad257.add ((t263).toNat * 9)).off + 2, none⟩ = some (.string ((rd_T52 l0_0 t263).f2)) ∧ w'.cell? ⟨(ad257.add ((t263).toNat * 9)).block, (ad257.add ((t263).toNat * 9)).off + 3, none⟩ = some (.bool ((rd_T52 l0_0 t263).f3)) ∧ w'.cell? ⟨(ad257.add ((t263).toNat * 9)).block, (ad257.add ((t263).toNat * 9)).off + 4, none⟩ = some (.int .i64 ((rd_T52 l0_0 t263).f4)) ∧ w'.cell? ⟨(ad257.add ((t263).toNat * 9)).block, (ad257.add ((t263).toNat * 9)).off + 5, none⟩ = some (.int .i64 ((rd_T52 l0_0 t263).f5)) ∧ w'.cell? ⟨(ad257.add ((t263).toNat * 9)).block, (ad257.add ((t263).toNat * 9)).off + 6, none⟩ = some (.int .i64 ((rd_T52 l0_0 t263).f6)) ∧ w'.cell? ⟨(ad257.add ((t263).toNat * 9)).block, (ad257.add ((t263).toNat * 9)).off + 7, none⟩ = some (.slice A264_7 ((rd_T52 l0_0 t263).f7).length c264_7) ∧ w'.cell? ⟨(ad257.add ((t263).toNat * 9)).block, (ad257.add ((t263).toNat * 9)).off + 8, none⟩ = some (.int .i64 ((rd_T52 l0_0 t263).f8))) (ds := [8]) #[false, false, false, false, false, false, false, false, false] (by kernel_rfl) rfl rfl ⟨(blk_cell BK254.out 0).trans rfl, (blk_cell BK254.out 1).trans rfl, (blk_cell BK259.out 0).trans rfl, (blk_cell BK259.out 1).trans rfl, (blk_cell BK259.out 2).trans rfl, (blk_cell BK259.out 3).trans rfl, (blk_cell BK259.out 4).trans rfl, (blk_cell BK259.out 5).trans rfl, (blk_cell BK259.out 6).trans rfl, (blk_cell BK259.out 7).trans rfl, (blk_cell BK259.out 8).trans rfl, ((HB.out.cell (World.block_lt_of_cell? w _ hw264_0)).trans hw264_0), ((HB.out.cell (World.block_lt_of_cell? w _ hw264_1)).trans hw264_1), ((HB.out.cell (World.block_lt_of_cell? w _ hw264_2)).trans hw264_2), ((HB.out.cell (World.block_lt_of_cell? w _ hw264_3)).trans hw264_3), ((HB.out.cell (World.block_lt_of_cell? w _ hw264_4)).trans hw264_4), ((HB.out.cell (World.block_lt_of_cell? w _ hw264_5)).trans hw264_5), ((HB.out.cell (World.block_lt_of_cell? w _ hw264_6)).trans hw264_6), ((HB.out.cell (World.block_lt_of_cell? w _ hw264_7)).trans hw264_7), ((HB.out.cell (World.block_lt_of_cell? w _ hw264_8)).trans hw264_8)⟩ (fun hHeld => ?_); refine with_tabW impl_BelowOf.tab9 impl_BelowOf.bits9 (fun HT_ HW_ => ?_)
                generalize wr.drew = w44 at HO_5 BK254 BK258 BK259 HB HR264_7 hx264_0 hx264_1 hx264_2 hx264_3 hx264_4 hx264_5 hx264_6 hx264_7 hx264_8 hHeld ⊢
                refine pure_ (i := 0) (N := some 35) (v := ?_) (a' := ?_) #[true, false, false, false, false, false, false, false, false] rfl rfl (any_of HT_.out (by kernel_rfl)) (fun _ _ _ h => h) (Or.inl ⟨by rfl, ?_⟩) ?_ ?_
                rotate_left
                ·intro w'
                 go_simp
                 with_reducible rfl
                rotate_left
                ·simp only [Act.put, List.setIfInBounds_toArray, List.set_cons_zero, List.set_cons_succ, i64_w, i32_w]
                 rfl
                refine pure_ (i := 3) (N := some 38) (v := ?_) (a' := ?_) #[true, false, false, true, false, false, false, false, false] rfl rfl (any_of HT_.out (by kernel_rfl)) (fun _ _ _ h => h) (Or.inl ⟨by rfl, ?_⟩) ?_ ?_
                rotate_left
                ·intro w'
                 go_simp
                 with_reducible rfl
                rotate_left
                ·simp only [Act.put, List.setIfInBounds_toArray, List.set_cons_zero, List.set_cons_succ, i64_w, i32_w]
                 rfl
                refine take_ (i := 1) (N := some 36) (v := ?_) (a' := ?_) #[true, true, false, true, false, false, false, false, false] rfl rfl (take_ofW HT_.out HW_.out (by kernel_rfl)) (fun _ _ _ h => h) (Or.inl ⟨by rfl, ?_⟩) hHeld ?_ ?_
                rotate_left
                ·rintro w' ⟨s0, s1, s2, s3, s4, s5, s6, s7, s8, s9, s10, s11, s12, s13, s14, s15, s16, s17, s18, s19⟩
                 go_simp
                 with_reducible rfl
                rotate_left
                ·simp only [Act.put, List.setIfInBounds_toArray, List.set_cons_zero, List.set_cons_succ, i64_w, i32_w]
                 rfl
                refine take_ (i := 2) (N := some 37) (v := ?_) (a' := ?_) #[true, true, true, true, false, false, false, false, false] rfl rfl (take_ofW HT_.out HW_.out (by kernel_rfl)) (fun _ _ _ h => h) (Or.inl ⟨by rfl, ?_⟩) hHeld ?_ ?_
                rotate_left
                ·rintro w' ⟨s0, s1, s2, s3, s4, s5, s6, s7, s8, s9, s10, s11, s12, s13, s14, s15, s16, s17, s18, s19⟩
                 go_simp
                 with_reducible rfl
                rotate_left
                ·simp only [Act.put, List.setIfInBounds_toArray, List.set_cons_zero, List.set_cons_succ, i64_w, i32_w]
                 rfl
                refine take_ (i := 4) (N := some 39) (v := ?_) (a' := ?_) #[true, true, true, true, true, false, false, false, false] rfl rfl (take_ofW HT_.out HW_.out (by kernel_rfl)) (fun _ _ _ h => h) (Or.inl ⟨by rfl, ?_⟩) hHeld ?_ ?_
                rotate_left
                ·rintro w' ⟨s0, s1, s2, s3, s4, s5, s6, s7, s8, s9, s10, s11, s12, s13, s14, s15, s16, s17, s18, s19⟩
                 go_simp
                 with_reducible rfl
                rotate_left
                ·simp only [Act.put, List.setIfInBounds_toArray, List.set_cons_zero, List.set_cons_succ, i64_w, i32_w]
                 rfl
                refine one_ (i := 5) (N := some 40) #[true, true, true, true, true, true, false, false, false] rfl rfl (one_of HT_.out (by kernel_rfl)) (by decide) (fun K hK => ?_)
                refine goes_ Try.func49 (by kernel_rfl) rfl #[.agg #[.slice (some ad257) l0_0.length c0_0, .int .i64 a0_1], .int .i64 x260001_3] (by rfl) rfl rfl (by (try simp only [List.map_toArray, List.map_cons, List.map_nil]); first | done | rfl | (simp only [List.length_drop, List.length_take]; rfl)) ?_
                with_reducible refine (impl_nodeAt.calls k3 _ _ l0_0 a0_1 x260001_3 t263 _ ?side1 ?side2 A38.out).mono ?_
                (case side1 => exact pc (Kd.C_below HR0_0.out HB.out))
                (case side2 => exact HC0_0.out)
                rintro e w45 ⟨rfl, hb⟩
                refine ⟨_, rfl, ?_⟩
                have n0_ := Aside0.mk (Kd.R_below (by (with_reducible repeat (first | apply Kd.R_alloc | apply Kd.R_drewN | apply Kd.R_drew)); exact HO_5.out) hb)
                have n1_ := Aside0.mk (pb BK254.out hb)
                have n2_ := Aside0.mk (pb BK258.out hb)
                have n3_ := Aside0.mk (pb BK259.out hb)
                have n4_ := Aside0.mk (below_step (pl3 HB.out GE254.out GE258.out GE259.out) hb)
                clear HO_5
                clear BK254
                clear BK258
                clear BK259
                clear HB
                have HO_5 := n0_
                have BK254 := n1_
                have BK258 := n2_
                have BK259 := n3_
                have HB := n4_
                clear n0_ n1_ n2_ n3_ n4_
                (try clear hb)
                (try clear hb2)
                (try clear hk)
                (try clear hi)
                refine hK.out _ _ ⟨(blk_cell BK254.out 0).trans rfl, (blk_cell BK254.out 1).trans rfl, (blk_cell BK259.out 0).trans rfl, (blk_cell BK259.out 1).trans rfl, (blk_cell BK259.out 2).trans rfl, (blk_cell BK259.out 3).trans rfl, (blk_cell BK259.out 4).trans rfl, (blk_cell BK259.out 5).trans rfl, (blk_cell BK259.out 6).trans rfl, (blk_cell BK259.out 7).trans rfl, (blk_cell BK259.out 8).trans rfl, ((HB.out.cell (World.block_lt_of_cell? w _ hw264_0)).trans hw264_0), ((HB.out.cell (World.block_lt_of_cell? w _ hw264_1)).trans hw264_1), ((HB.out.cell (World.block_lt_of_cell? w _ hw264_2)).trans hw264_2), ((HB.out.cell (World.block_lt_of_cell? w _ hw264_3)).trans hw264_3), ((HB.out.cell (World.block_lt_of_cell? w _ hw264_4)).trans hw264_4), ((HB.out.cell (World.block_lt_of_cell? w _ hw264_5)).trans hw264_5), ((HB.out.cell (World.block_lt_of_cell? w _ hw264_6)).trans hw264_6), ((HB.out.cell (World.block_lt_of_cell? w _ hw264_7)).trans hw264_7), ((HB.out.cell (World.block_lt_of_cell? w _ hw264_8)).trans hw264_8)⟩ (fun hHeld => ?_)
                clear hK K
                refine norm_ (a' := ?_) ?_ ?_
                rotate_left
                ·show Act.put _ (some 40) _ = _
                 simp only [Act.put, List.setIfInBounds_toArray, List.set_cons_zero, List.set_cons_succ, i64_w, i32_w]
                 rfl
                refine pure_ (i := 6) (N := some 41) (v := ?_) (a' := ?_) #[true, true, true, true, true, true, true, false, false] rfl rfl (any_of HT_.out (by kernel_rfl)) (fun _ _ _ h => h) (Or.inl ⟨by rfl, ?_⟩) ?_ ?_
                rotate_left
                ·intro w'
                 go_simp
                 with_reducible rfl
                rotate_left
                ·simp only [Act.put, List.setIfInBounds_toArray, List.set_cons_zero, List.set_cons_succ, i64_w, i32_w]
                 rfl
                refine take_ (i := 7) (N := some 42) (v := ?_) (a' := ?_) #[true, true, true, true, true, true, true, true, false] rfl rfl (take_ofW HT_.out HW_.out (by kernel_rfl)) (fun _ _ _ h => h) (Or.inl ⟨by rfl, ?_⟩) hHeld ?_ ?_
                rotate_left
                ·rintro w' ⟨s0, s1, s2, s3, s4, s5, s6, s7, s8, s9, s10, s11, s12, s13, s14, s15, s16, s17, s18, s19⟩
                 go_simp
                 with_reducible rfl
                rotate_left
                ·simp only [Act.put, List.setIfInBounds_toArray, List.set_cons_zero, List.set_cons_succ, i64_w, i32_w]
                 rfl
                refine last_ (i := 8) (N := none) #[true, true, true, true, true, true, true, true, true] rfl rfl (one_of HT_.out (by kernel_rfl)) (by decide) (fun K hK => ?_)
                have hs46 : w45.cell? ⟨gb259, 0, none⟩ = some (.int .i64 x260000_3) := (blk_cell BK259.out 0).trans rfl
                have hfs46 := blk_frozen BK259.out 0
                have hns46_0 := NB254_259.out
                have hns46_1 := NB258_259.out
                have hms46_0 := NB259_254.out
                have hms46_1 := NB259_258.out
                have hs47 : w45.cell? ⟨gb259, 1, none⟩ = some (.int .i64 x260001_3) := (blk_cell BK259.out 1).trans rfl
                have hfs47 := blk_frozen BK259.out 1
                have hns47_0 := NB254_259.out
                have hns47_1 := NB258_259.out
                have hms47_0 := NB259_254.out
                have hms47_1 := NB259_258.out
                have hs48 : w45.cell? ⟨gb259, 2, none⟩ = some (.string x260002_3) := (blk_cell BK259.out 2).trans rfl
                have hfs48 := blk_frozen BK259.out 2
                have hns48_0 := NB254_259.out
                have hns48_1 := NB258_259.out
                have hms48_0 := NB259_254.out
                have hms48_1 := NB259_258.out
                have hs49 : w45.cell? ⟨gb259, 3, none⟩ = some (.bool x260003_3) := (blk_cell BK259.out 3).trans rfl
                have hfs49 := blk_frozen BK259.out 3
                have hns49_0 := NB254_259.out
                have hns49_1 := NB258_259.out
                have hms49_0 := NB259_254.out
                have hms49_1 := NB259_258.out
                have hs50 : w45.cell? ⟨gb259, 4, none⟩ = some (.int .i64 x260004_3) := (blk_cell BK259.out 4).trans rfl
                have hfs50 := blk_frozen BK259.out 4
                have hns50_0 := NB254_259.out
                have hns50_1 := NB258_259.out
                have hms50_0 := NB259_254.out
                have hms50_1 := NB259_258.out
                have hs51 : w45.cell? ⟨gb259, 5, none⟩ = some (.int .i64 x260005_3) := (blk_cell BK259.out 5).trans rfl
                have hfs51 := blk_frozen BK259.out 5
                have hns51_0 := NB254_259.out
                have hns51_1 := NB258_259.out
                have hms51_0 := NB259_254.out
                have hms51_1 := NB259_258.out
                have hs52 : w45.cell? ⟨gb259, 6, none⟩ = some (.int .i64 x260006_3) := (blk_cell BK259.out 6).trans rfl
                have hfs52 := blk_frozen BK259.out 6
                have hns52_0 := NB254_259.out
                have hns52_1 := NB258_259.out
                have hms52_0 := NB259_254.out
                have hms52_1 := NB259_258.out
                have hs53 : w45.cell? ⟨gb259, 7, none⟩ = some (u260007) := (blk_cell BK259.out 7).trans rfl
                have hfs53 := blk_frozen BK259.out 7
                have hns53_0 := NB254_259.out
                have hns53_1 := NB258_259.out
                have hms53_0 := NB259_254.out
                have hms53_1 := NB259_258.out
                have hs54 : w45.cell? ⟨gb259, 8, none⟩ = some (.int .i64 x260008_3) := (blk_cell BK259.out 8).trans rfl
                have hfs54 := blk_frozen BK259.out 8
                have hns54_0 := NB254_259.out
                have hns54_1 := NB258_259.out
                have hms54_0 := NB259_254.out
                have hms54_1 := NB259_258.out
                refine skip_ (w1 := ?_) (by rfl) rfl ?_ ?_
                rotate_left
                ·go_simp
                 rfl
                refine hK.out _ _ ?_
                clear hK K
                refine done_ (done_of HT_.out (by kernel_rfl)) ?_
                try go_wp2
                go_roundg k3
                case measure => have := HJ2.out; have := HK2.out; have := HK3.out; omega
                case rel => exact ⟨((rd_T52 l0_0 t263).f0), ((rd_T52 l0_0 t263).f1), ((rd_T52 l0_0 t263).f2), ((rd_T52 l0_0 t263).f3), ((rd_T52 l0_0 t263).f4), ((rd_T52 l0_0 t263).f5), ((rd_T52 l0_0 t263).f6), ((rd_T52 l0_0 t263).f7), ((rd_T52 l0_0 t263).f8), (.slice A264_7 ((rd_T52 l0_0 t263).f7).length c264_7), H', ⟨by have := HJ2.out; have := HK2.out; have := HK3.out; omega⟩, ⟨by (with_reducible repeat (first | apply Kd.R_alloc | apply Kd.R_drewN | apply Kd.R_drew)); exact Kd.R_mono (Kd.R_far (p := ⟨gb259, 8, none⟩) (Kd.R_far (p := ⟨gb259, 7, none⟩) (Kd.R_far (p := ⟨gb259, 6, none⟩) (Kd.R_far (p := ⟨gb259, 5, none⟩) (Kd.R_far (p := ⟨gb259, 4, none⟩) (Kd.R_far (p := ⟨gb259, 3, none⟩) (Kd.R_far (p := ⟨gb259, 2, none⟩) (Kd.R_far (p := ⟨gb259, 1, none⟩) (Kd.R_far (p := ⟨gb259, 0, none⟩) (Kd.R_types HO_5.out BK259.out (by decide)) (fun _ hk => hk.2) (.int .i64 ((rd_T52 l0_0 t263).f0))) (fun _ hk => hk.2) (.int .i64 ((rd_T52 l0_0 t263).f1))) (fun _ hk => hk.2) (.string ((rd_T52 l0_0 t263).f2))) (fun _ hk => hk.2) (.bool ((rd_T52 l0_0 t263).f3))) (fun _ hk => hk.2) (.int .i64 ((rd_T52 l0_0 t263).f4))) (fun _ hk => hk.2) (.int .i64 ((rd_T52 l0_0 t263).f5))) (fun _ hk => hk.2) (.int .i64 ((rd_T52 l0_0 t263).f6))) (fun _ hk => hk.2) (.slice A264_7 ((rd_T52 l0_0 t263).f7).length c264_7)) (fun _ hk => hk.2) (.int .i64 ((rd_T52 l0_0 t263).f8))) (fun _ hk => trivial)⟩, ⟨by (with_reducible repeat (first | refine blk_drewN ?_ _ | refine blk_drew ?_ | refine blk_alloc ?_ _)); refine blk_far ?_ NB254_259.out _; (with_reducible repeat (first | refine blk_drewN ?_ _ | refine blk_drew ?_ | refine blk_alloc ?_ _)); refine blk_far ?_ NB254_259.out _; (with_reducible repeat (first | refine blk_drewN ?_ _ | refine blk_drew ?_ | refine blk_alloc ?_ _)); refine blk_far ?_ NB254_259.out _; (with_reducible repeat (first | refine blk_drewN ?_ _ | refine blk_drew ?_ | refine blk_alloc ?_ _)); refine blk_far ?_ NB254_259.out _; (with_reducible repeat (first | refine blk_drewN ?_ _ | refine blk_drew ?_ | refine blk_alloc ?_ _)); refine blk_far ?_ NB254_259.out _; (with_reducible repeat (first | refine blk_drewN ?_ _ | refine blk_drew ?_ | refine blk_alloc ?_ _)); refine blk_far ?_ NB254_259.out _; (with_reducible repeat (first | refine blk_drewN ?_ _ | refine blk_drew ?_ | refine blk_alloc ?_ _)); refine blk_far ?_ NB254_259.out _; (with_reducible repeat (first | refine blk_drewN ?_ _ | refine blk_drew ?_ | refine blk_alloc ?_ _)); refine blk_far ?_ NB254_259.out _; (with_reducible repeat (first | refine blk_drewN ?_ _ | refine blk_drew ?_ | refine blk_alloc ?_ _)); refine blk_far ?_ NB254_259.out _; (with_reducible repeat (first | refine blk_drewN ?_ _ | refine blk_drew ?_ | refine blk_alloc ?_ _)); exact BK254.out⟩, ⟨by (with_reducible repeat (first | refine blk_drewN ?_ _ | refine blk_drew ?_ | refine blk_alloc ?_ _)); refine blk_far ?_ NB258_259.out _; (with_reducible repeat (first | refine blk_drewN ?_ _ | refine blk_drew ?_ | refine blk_alloc ?_ _)); refine blk_far ?_ NB258_259.out _; (with_reducible repeat (first | refine blk_drewN ?_ _ | refine blk_drew ?_ | refine blk_alloc ?_ _)); refine blk_far ?_ NB258_259.out _; (with_reducible repeat (first | refine blk_drewN ?_ _ | refine blk_drew ?_ | refine blk_alloc ?_ _)); refine blk_far ?_ NB258_259.out _; (with_reducible repeat (first | refine blk_drewN ?_ _ | refine blk_drew ?_ | refine blk_alloc ?_ _)); refine blk_far ?_ NB258_259.out _; (with_reducible repeat (first | refine blk_drewN ?_ _ | refine blk_drew ?_ | refine blk_alloc ?_ _)); refine blk_far ?_ NB258_259.out _; (with_reducible repeat (first | refine blk_drewN ?_ _ | refine blk_drew ?_ | refine blk_alloc ?_ _)); refine blk_far ?_ NB258_259.out _; (with_reducible repeat (first | refine blk_drewN ?_ _ | refine blk_drew ?_ | refine blk_alloc ?_ _)); refine blk_far ?_ NB258_259.out _; (with_reducible repeat (first | refine blk_drewN ?_ _ | refine blk_drew ?_ | refine blk_alloc ?_ _)); refine blk_far ?_ NB258_259.out _; (with_reducible repeat (first | refine blk_drewN ?_ _ | refine blk_drew ?_ | refine blk_alloc ?_ _)); exact BK258.out⟩, ⟨by (with_reducible repeat (first | refine blk_drewN ?_ _ | refine blk_drew ?_ | refine blk_alloc ?_ _)); refine blk_put (cs := #[.int .i64 ((rd_T52 l0_0 t263).f0), .int .i64 ((rd_T52 l0_0 t263).f1), .string ((rd_T52 l0_0 t263).f2), .bool ((rd_T52 l0_0 t263).f3), .int .i64 ((rd_T52 l0_0 t263).f4), .int .i64 ((rd_T52 l0_0 t263).f5), .int .i64 ((rd_T52 l0_0 t263).f6), .slice A264_7 ((rd_T52 l0_0 t263).f7).length c264_7, .int .i64 x260008_3]) ?_ 8 _ rfl; (with_reducible repeat (first | refine blk_drewN ?_ _ | refine blk_drew ?_ | refine blk_alloc ?_ _)); refine blk_put (cs := #[.int .i64 ((rd_T52 l0_0 t263).f0), .int .i64 ((rd_T52 l0_0 t263).f1), .string ((rd_T52 l0_0 t263).f2), .bool ((rd_T52 l0_0 t263).f3), .int .i64 ((rd_T52 l0_0 t263).f4), .int .i64 ((rd_T52 l0_0 t263).f5), .int .i64 ((rd_T52 l0_0 t263).f6), u260007, .int .i64 x260008_3]) ?_ 7 _ rfl; (with_reducible repeat (first | refine blk_drewN ?_ _ | refine blk_drew ?_ | refine blk_alloc ?_ _)); refine blk_put (cs := #[.int .i64 ((rd_T52 l0_0 t263).f0), .int .i64 ((rd_T52 l0_0 t263).f1), .string ((rd_T52 l0_0 t263).f2), .bool ((rd_T52 l0_0 t263).f3), .int .i64 ((rd_T52 l0_0 t263).f4), .int .i64 ((rd_T52 l0_0 t263).f5), .int .i64 x260006_3, u260007, .int .i64 x260008_3]) ?_ 6 _ rfl; (with_reducible repeat (first | refine blk_drewN ?_ _ | refine blk_drew ?_ | refine blk_alloc ?_ _)); refine blk_put (cs := #[.int .i64 ((rd_T52 l0_0 t263).f0), .int .i64 ((rd_T52 l0_0 t263).f1), .string ((rd_T52 l0_0 t263).f2), .bool ((rd_T52 l0_0 t263).f3), .int .i64 ((rd_T52 l0_0 t263).f4), .int .i64 x260005_3, .int .i64 x260006_3, u260007, .int .i64 x260008_3]) ?_ 5 _ rfl; (with_reducible repeat (first | refine blk_drewN ?_ _ | refine blk_drew ?_ | refine blk_alloc ?_ _)); refine blk_put (cs := #[.int .i64 ((rd_T52 l0_0 t263).f0), .int .i64 ((rd_T52 l0_0 t263).f1), .string ((rd_T52 l0_0 t263).f2), .bool ((rd_T52 l0_0 t263).f3), .int .i64 x260004_3, .int .i64 x260005_3, .int .i64 x260006_3, u260007, .int .i64 x260008_3]) ?_ 4 _ rfl; (with_reducible repeat (first | refine blk_drewN ?_ _ | refine blk_drew ?_ | refine blk_alloc ?_ _)); refine blk_put (cs := #[.int .i64 ((rd_T52 l0_0 t263).f0), .int .i64 ((rd_T52 l0_0 t263).f1), .string ((rd_T52 l0_0 t263).f2), .bool x260003_3, .int .i64 x260004_3, .int .i64 x260005_3, .int .i64 x260006_3, u260007, .int .i64 x260008_3]) ?_ 3 _ rfl; (with_reducible repeat (first | refine blk_drewN ?_ _ | refine blk_drew ?_ | refine blk_alloc ?_ _)); refine blk_put (cs := #[.int .i64 ((rd_T52 l0_0 t263).f0), .int .i64 ((rd_T52 l0_0 t263).f1), .string x260002_3, .bool x260003_3, .int .i64 x260004_3, .int .i64 x260005_3, .int .i64 x260006_3, u260007, .int .i64 x260008_3]) ?_ 2 _ rfl; (with_reducible repeat (first | refine blk_drewN ?_ _ | refine blk_drew ?_ | refine blk_alloc ?_ _)); refine blk_put (cs := #[.int .i64 ((rd_T52 l0_0 t263).f0), .int .i64 x260001_3, .string x260002_3, .bool x260003_3, .int .i64 x260004_3, .int .i64 x260005_3, .int .i64 x260006_3, u260007, .int .i64 x260008_3]) ?_ 1 _ rfl; (with_reducible repeat (first | refine blk_drewN ?_ _ | refine blk_drew ?_ | refine blk_alloc ?_ _)); refine blk_put (cs := #[.int .i64 x260000_3, .int .i64 x260001_3, .string x260002_3, .bool x260003_3, .int .i64 x260004_3, .int .i64 x260005_3, .int .i64 x260006_3, u260007, .int .i64 x260008_3]) ?_ 0 _ rfl; (with_reducible repeat (first | refine blk_drewN ?_ _ | refine blk_drew ?_ | refine blk_alloc ?_ _)); exact BK259.out⟩, ⟨pl3 HB.out GE254.out GE258.out GE259.out⟩⟩
               ·rw [if_neg c40] at H
                exact absurd H (by simp)
              ·rw [if_neg c39] at H
               exact absurd H (by simp)
         ·rw [if_neg c18] at H
          exact absurd H (by simp)
        ·rw [if_neg c17] at H
         exact absurd H (by simp)
       ·rw [if_neg c16] at H
        have c16b0 : decide (x21_2 < (l0_0.length : Int)) = false := decide_eq_false c16
        clear c16
        obtain rfl := Option.some.inj H
        go_wp2
        go_ret
        exact ⟨_, by first | rfl | (simp [errW_none, errW_some] <;> rfl) | (simp [*, errW_none, errW_some] <;> rfl), by (with_reducible repeat (first | apply Kd.R_alloc | apply Kd.R_drewN | apply Kd.R_drew)); exact HO_5.out, by repeat (first | (with_reducible first | exact HB.out | apply below_alloc | apply pw_below_drewN | apply below_drew1 | refine below_set ?_ GE254.out) | exact HB.out)⟩

/-! ### impl_UsedBelow: function 19 -/
def impl_UsedBelow.l0 : Nat → Int → List Int → Int → Int → List (S52) → Int → Option (Int)
  | 0, _, _, _, _, _, _ => none
  | k + 1, x5, x10, x11, x12, x266000, x266001 => if x12 < x11 then (if 0 ≤ x12 then (if x12 < (x10.length : Int) then ((impl_nodeAt.f k x266000 x266001 (rd x10 x12)).bind fun t270 => (if 0 ≤ t270 then (if t270 < (x266000.length : Int) then (impl_UsedBelow.l0 k (wrap64 (x5 + ((rd_T52 x266000 t270).f6))) x10 x11 (wrap64 (x12 + 1)) x266000 x266001) else (none)) else (none))) else (none)) else (none)) else (some x5)
def impl_UsedBelow.f (k : Nat) (l0_0 : List (S52)) (a0_1 : Int) (a1 : Int) : Option (Int) := (impl_BelowOf.f k l0_0 a0_1 a1).bind fun t266 => (impl_UsedBelow.l0 k 0 t266 (t266.length : Int) 0 l0_0 a0_1)
theorem impl_UsedBelow.mono_l : ∀ k, (∀ y0 y1 y2 y3 y4 y5, LeO (impl_UsedBelow.l0 k y0 y1 y2 y3 y4 y5) (impl_UsedBelow.l0 (k + 1) y0 y1 y2 y3 y4 y5))
  | 0 => fun _ _ _ _ _ _ r h => by simp [impl_UsedBelow.l0] at h
  | k + 1 => by
    have ih0 := impl_UsedBelow.mono_l k
    · intro y0 y1 y2 y3 y4 y5
      unfold impl_UsedBelow.l0
      repeat' first
      | (with_reducible exact ih0 _ _ _ _ _ _)
      | (with_reducible exact impl_BelowOf.mono _ _ _ _)
      | (with_reducible exact impl_nodeAt.mono _ _ _ _)
      | (with_reducible exact LeO.refl _)
      | (with_reducible exact LeO.none _)
      | (with_reducible refine LeO.ite ?_ ?_)
      | (with_reducible refine LeO.bind ?_ (fun _ => ?_))
      | exact ih0 _ _ _ _ _ _
      | exact impl_BelowOf.mono _ _ _ _
      | exact impl_nodeAt.mono _ _ _ _
      | exact LeO.none _
      | refine LeO.ite ?_ ?_
      | refine LeO.bind ?_ (fun _ => ?_)
theorem impl_UsedBelow.mono : ∀ a0 a1 a2 k, LeO (impl_UsedBelow.f k a0 a1 a2) (impl_UsedBelow.f (k + 1) a0 a1 a2) := by
  intro a0 a1 a2 k
  have ih0 := impl_UsedBelow.mono_l k
  unfold impl_UsedBelow.f
  repeat' first
      | (with_reducible exact ih0 _ _ _ _ _ _)
      | (with_reducible exact impl_BelowOf.mono _ _ _ _)
      | (with_reducible exact impl_nodeAt.mono _ _ _ _)
      | (with_reducible exact LeO.refl _)
      | (with_reducible exact LeO.none _)
      | (with_reducible refine LeO.ite ?_ ?_)
      | (with_reducible refine LeO.bind ?_ (fun _ => ?_))
      | exact ih0 _ _ _ _ _ _
      | exact impl_BelowOf.mono _ _ _ _
      | exact impl_nodeAt.mono _ _ _ _
      | exact LeO.none _
      | refine LeO.ite ?_ ?_
      | refine LeO.bind ?_ (fun _ => ?_)
def impl_UsedBelow.T5 : Bool × List (List Nat × List Nat) := (true, [([], []), ([], []), ([1], [1]), ([], []), ([], []), ([3, 4], [3, 4]), ([2, 5], [2, 5]), ([6], [6]), ([7], [7]), ([0, 8], [0, 8]), ([9, 5, 0, 1, 2, 3, 4, 5, 6, 7, 8, 9], [0, 9])])
def impl_UsedBelow.B5 : List Nat := [0, 0, 2, 0, 0, 24, 62, 126, 254, 511, 1023]
theorem impl_UsedBelow.tab5 : rtab .any (opsOf Try.f19 5) = impl_UsedBelow.T5 := by kernel_rfl
theorem impl_UsedBelow.bits5 : waitsOk impl_UsedBelow.T5.2 impl_UsedBelow.B5 = true := by kernel_rfl
set_option maxHeartbeats 8000000 in
set_option maxRecDepth 100000 in
theorem impl_UsedBelow.calls (k : Nat) (A0_0 : Option Addr) (c0_0 : Nat) (l0_0 : List (S52)) (a0_1 : Int) (a1 : Int) (r : Int) (w : World) (hr0_0 : Kd.C k52 w A0_0 l0_0.length l0_0) (hc0_0 : l0_0.length ≤ c0_0) (h : impl_UsedBelow.f k l0_0 a0_1 a1 = some r) :
    Calls Try.prog 19 #[.agg #[.slice A0_0 l0_0.length c0_0, .int .i64 a0_1], .int .i64 a1] w fun e w' => e = .returned (.int .i64 r) ∧ Below w.heap.size w w' := by
  have hu29 := Try.underlying29
  have HR0_0 := Aside0.mk hr0_0
  have HC0_0 := Aside0.mk hc0_0
  clear hr0_0 hc0_0
  have HB := Aside0.mk (Below.refl w.heap.size w)
  have H : ((impl_BelowOf.f k l0_0 a0_1 a1).bind fun t266 => (impl_UsedBelow.l0 k 0 t266 (t266.length : Int) 0 l0_0 a0_1)) = some r := h
  clear h
  replace H := Option.bind_eq_some_iff.mp H
  obtain ⟨t266, A30, H⟩ := H
  replace H : (impl_UsedBelow.l0 k 0 t266 (t266.length : Int) 0 l0_0 a0_1) = some r := H
  have A3 := Aside0.mk A30
  clear A30
  have H' := Aside0.mk H
  clear H
  go_enter Try.func19, Try.ntmps19
  go_wp2_with (first | ((with_reducible refine gate_dst (N := 2) rfl ?_); refine box_event ?hg (N := 2) ?hd (cs := #[.slice A0_0 l0_0.length c0_0, .int .i64 a0_1]) (t := 29) ?hr ?_; (case hd => rfl); (case hg => rfl); (case hr => first | (go_simp; done) | (go_simp; rfl)); intro gb265 hg w4 hbox hb; have n0_ := Aside0.mk (below_step (pl0 HB.out) hb); have n1_ := Aside0.mk (hbox); have n2_ := Aside0.mk ((by rw [hg]; exact (below_size (pl0 HB.out)) : w.heap.size ≤ gb265)); have n3_ := Aside0.mk ((by rw [hg]; exact (below_size (pl0 HB.out)) : w.heap.size ≤ gb265)); clear HB; have HB := n0_; have BK265 := n1_; have GW265 := n2_; have GE265 := n3_; clear n0_ n1_ n2_ n3_; clear hb hbox hg; have hcz5_0 : w4.cell? ⟨gb265, 0, none⟩ = some (.slice A0_0 l0_0.length c0_0) := (blk_cell BK265.out 0).trans rfl; have hcz5_1 : w4.cell? ⟨gb265, 1, none⟩ = some (.int .i64 a0_1) := (blk_cell BK265.out 1).trans rfl; have hfz5_0 := blk_frozen BK265.out 0; have hfz5_1 := blk_frozen BK265.out 1) | ((with_reducible refine gate_callee (f := 25) rfl ?_); refine goesL_ (some 10) rfl rfl Try.func25 (by kernel_rfl) rfl #[.agg #[.slice A0_0 l0_0.length c0_0, .int .i64 a0_1], .int .i64 a1] rfl (by (try simp only [List.map_toArray, List.map_cons, List.map_nil]); first | done | rfl | (simp only [List.length_drop, List.length_take]; rfl)) ?_; (with_reducible refine (impl_BelowOf.calls k _ _ l0_0 a0_1 a1 t266 _ ?side1 ?side2 A3.out).mono ?_); (case side1 => exact pc (Kd.C_below HR0_0.out HB.out)); (case side2 => exact HC0_0.out); rintro e w6 ⟨v267, rfl, ho0, hb⟩; refine ⟨_, rfl, ?_⟩; have n0_ := Aside0.mk (Kd.R_lower ho0 (below_size (pl1 HB.out GE265.out))); have n1_ := Aside0.mk (pb BK265.out hb); have n2_ := Aside0.mk (below_step (pl1 HB.out GE265.out) hb); clear BK265; clear HB; have HO268 := n0_; have BK265 := n1_; have HB := n2_; clear n0_ n1_ n2_; (try clear hb); (try clear hb2); (try clear hk); (try clear hi); (try clear ho0); obtain ⟨Ao7, co7, eo7⟩ := Kd.R_slice HO268.out; subst eo7))
  go_loopg [5, 12] k (fun kq v5 v12 w' => ∃ (x5_1 : Int) (x12_1 : Int), v5 = .int .i64 x5_1 ∧ v12 = .int .i64 x12_1 ∧ Aside0 (impl_UsedBelow.l0 kq x5_1 t266 (t266.length : Int) x12_1 l0_0 a0_1 = some r) ∧ Aside0 (kq ≤ k) ∧ Aside0 (Kd.R (Kd.int .i64) 3 w' w.heap.size (fun _ => True) (.slice Ao7 t266.length co7) t266) ∧ Aside0 (w'.heap[gb265]? = some (.cells #[(.slice A0_0 l0_0.length c0_0), .int .i64 a0_1] 29 (0, 0))) ∧ Aside0 (Below w.heap.size w w'))
  case atStart => exact ⟨(0), (0), eqa, eqa, H', ⟨Nat.le_refl _⟩, ⟨by (with_reducible repeat (first | apply Kd.R_alloc | apply Kd.R_drewN | apply Kd.R_drew)); exact HO268.out⟩, ⟨pk BK265.out⟩, ⟨pl1 HB.out GE265.out⟩⟩
  case round =>
   clear H'
   try clear hcz5_0; try clear hcz5_1; try clear hfz5_0; try clear hfz5_1
   obtain ⟨x5_1, x12_1, rfl, rfl, HA, HK1, HO_10, BK265, HB⟩ := hrel
   cases gk with
   | zero => exact absurd HA.out (by simp [impl_UsedBelow.l0])
   | succ k1 =>
    have H := HA.out
    clear HA
    simp only [impl_UsedBelow.l0] at H
    by_cases c8 : x12_1 < (t266.length : Int)
    ·rw [if_pos c8] at H
     have c8b0 : decide (x12_1 < (t266.length : Int)) = true := decide_eq_true c8
     clear c8
     by_cases c9 : 0 ≤ x12_1
     ·rw [if_pos c9] at H
      have c9b0 : decide (0 ≤ x12_1) = true := decide_eq_true c9
      clear c9
      by_cases c10 : x12_1 < (t266.length : Int)
      ·rw [if_pos c10] at H
       have c10b0 : decide (x12_1 < (t266.length : Int)) = true := decide_eq_true c10
       clear c10
       replace H := Option.bind_eq_some_iff.mp H
       obtain ⟨t270, A110, H⟩ := H
       replace H : (if 0 ≤ t270 then (if t270 < (l0_0.length : Int) then (impl_UsedBelow.l0 k1 (wrap64 (x5_1 + ((rd_T52 l0_0 t270).f6))) t266 (t266.length : Int) (wrap64 (x12_1 + 1)) l0_0 a0_1) else (none)) else (none)) = some r := H
       have A11 := Aside0.mk A110
       clear A110
       by_cases c12 : 0 ≤ t270
       ·rw [if_pos c12] at H
        have c12b0 : decide (0 ≤ t270) = true := decide_eq_true c12
        clear c12
        by_cases c13 : t270 < (l0_0.length : Int)
        ·rw [if_pos c13] at H
         have c13b0 : decide (t270 < (l0_0.length : Int)) = true := decide_eq_true c13
         clear c13
         have H' := Aside0.mk H
         clear H
         have p269 : 0 ≤ (x12_1 : Int) := oda
         have q269 : x12_1 < (t266.length : Int) := oda
         obtain ⟨ad269, e269, hx269_0⟩ := Kd.at_int (Kd.R_reads' HO_10.out).2.2 x12_1 p269 q269
         cases e269
         replace p269 := eq_true p269
         replace q269 := eq_true q269
         try go_wp2
         have n0_ := Aside0.mk (Kd.R_drew HO_10.out)
         have n1_ := Aside0.mk (blk_drew BK265.out)
         have n2_ := Aside0.mk (below_drew1 HB.out)
         clear HO_10
         clear BK265
         clear HB
         have HO_10 := n0_
         have BK265 := n1_
         have HB := n2_
         clear n0_ n1_ n2_
         have p271 : 0 ≤ (t270 : Int) := oda
         have q271 : t270 < (l0_0.length : Int) := oda
         obtain ⟨ad271, A271_7, c271_7, e271, hx271_0, hx271_1, hx271_2, hx271_3, hx271_4, hx271_5, hx271_6, hx271_7, hx271_8, hl271_7, hi271_7⟩ := at_T52 HR0_0.out t270 p271 q271
         have hw271_8 := hx271_8
         have hw271_7 := hx271_7
         have hw271_6 := hx271_6
         have hw271_5 := hx271_5
         have hw271_4 := hx271_4
         have hw271_3 := hx271_3
         have hw271_2 := hx271_2
         have hw271_1 := hx271_1
         have hw271_0 := hx271_0
         cases e271
         replace hx271_0 := hbc HB.out hx271_0
         replace hx271_1 := hbc HB.out hx271_1
         replace hx271_2 := hbc HB.out hx271_2
         replace hx271_3 := hbc HB.out hx271_3
         replace hx271_4 := hbc HB.out hx271_4
         replace hx271_5 := hbc HB.out hx271_5
         replace hx271_6 := hbc HB.out hx271_6
         replace hx271_7 := hbc HB.out hx271_7
         replace hx271_8 := hbc HB.out hx271_8
         have HR271_7 := Aside0.mk hi271_7
         have HC271_7 := Aside0.mk hl271_7
         clear hi271_7 hl271_7
         replace p271 := eq_true p271
         replace q271 := eq_true q271
         refine start_ (n := 11) (S := fun w' => w'.cell? ⟨gb265, 0, none⟩ = some (.slice (some ad271) l0_0.length c0_0) ∧ w'.cell? ⟨gb265, 1, none⟩ = some (.int .i64 a0_1) ∧ w'.cell? (ad271.add ((t270).toNat * 9)) = some (.int .i64 ((rd_T52 l0_0 t270).f0)) ∧ w'.cell? ⟨(ad271.add ((t270).toNat * 9)).block, (ad271.add ((t270).toNat * 9)).off + 1, none⟩ = some (.int .i64 ((rd_T52 l0_0 t270).f1)) ∧ w'.cell? ⟨(ad271.add ((t270).toNat * 9)).block, (ad271.add ((t270).toNat * 9)).off + 2, none⟩ = some (.string ((rd_T52 l0_0 t270).f2)) ∧ w'.cell? ⟨(ad271.add ((t270).toNat * 9)).block, (ad271.add ((t270).toNat * 9)).off + 3, none⟩ = some (.bool ((rd_T52 l0_0 t270).f3)) ∧ w'.cell? ⟨(ad271.add ((t270).toNat * 9)).block, (ad271.add ((t270).toNat * 9)).off + 4, none⟩ = some (.int .i64 ((rd_T52 l0_0 t270).f4)) ∧ w'.cell? ⟨(ad271.add ((t270).toNat * 9)).block, (ad271.add ((t270).toNat * 9)).off + 5, none⟩ = some (.int .i64 ((rd_T52 l0_0 t270).f5)) ∧ w'.cell? ⟨(ad271.add ((t270).toNat * 9)).block, (ad271.add ((t270).toNat * 9)).off + 6, none⟩ = some (.int .i64 ((rd_T52 l0_0 t270).f6)) ∧ w'.cell? ⟨(ad271.add ((t270).toNat * 9)).block, (ad271.add ((t270).toNat * 9)).off + 7, none⟩ = some (.slice A271_7 ((rd_T52 l0_0 t270).f7).length c271_7) ∧ w'.cell? ⟨(ad271.add ((t270).toNat * 9)).block, (ad271.add ((t270).toNat * 9)).off + 8, none⟩ = some (.int .i64 ((rd_T52 l0_0 t270).f8))) (ds := []) #[false, false, false, false, false, false, false, false, false, false, false] (by kernel_rfl) rfl rfl ⟨(blk_cell BK265.out 0).trans rfl, (blk_cell BK265.out 1).trans rfl, ((HB.out.cell (World.block_lt_of_cell? w _ hw271_0)).trans hw271_0), ((HB.out.cell (World.block_lt_of_cell? w _ hw271_1)).trans hw271_1), ((HB.out.cell (World.block_lt_of_cell? w _ hw271_2)).trans hw271_2), ((HB.out.cell (World.block_lt_of_cell? w _ hw271_3)).trans hw271_3), ((HB.out.cell (World.block_lt_of_cell? w _ hw271_4)).trans hw271_4), ((HB.out.cell (World.block_lt_of_cell? w _ hw271_5)).trans hw271_5), ((HB.out.cell (World.block_lt_of_cell? w _ hw271_6)).trans hw271_6), ((HB.out.cell (World.block_lt_of_cell? w _ hw271_7)).trans hw271_7), ((HB.out.cell (World.block_lt_of_cell? w _ hw271_8)).trans hw271_8)⟩ (fun hHeld => ?_); refine with_tabW impl_UsedBelow.tab5 impl_UsedBelow.bits5 (fun HT_ HW_ => ?_)
         generalize wr.drew = w14 at HO_10 BK265 HB HR271_7 hx271_0 hx271_1 hx271_2 hx271_3 hx271_4 hx271_5 hx271_6 hx271_7 hx271_8 hHeld ⊢
         refine pure_ (i := 0) (N := some 16) (v := ?_) (a' := ?_) #[true, false, false, false, false, false, false, false, false, false, false] rfl rfl (any_of HT_.out (by kernel_rfl)) (fun _ _ _ h => h) (Or.inl ⟨by rfl, ?_⟩) ?_ ?_
         rotate_left
         ·intro w'
          go_simp
          with_reducible rfl
         rotate_left
         ·simp only [Act.put, List.setIfInBounds_toArray, List.set_cons_zero, List.set_cons_succ, i64_w, i32_w]
          rfl
         refine pure_ (i := 1) (N := some 17) (v := ?_) (a' := ?_) #[true, true, false, false, false, false, false, false, false, false, false] rfl rfl (any_of HT_.out (by kernel_rfl)) (fun _ _ _ h => h) (Or.inl ⟨by rfl, ?_⟩) ?_ ?_
         rotate_left
         ·intro w'
          go_simp
          with_reducible rfl
         rotate_left
         ·simp only [Act.put, List.setIfInBounds_toArray, List.set_cons_zero, List.set_cons_succ, i64_w, i32_w]
          rfl
         refine pure_ (i := 4) (N := some 20) (v := ?_) (a' := ?_) #[true, true, false, false, true, false, false, false, false, false, false] rfl rfl (any_of HT_.out (by kernel_rfl)) (fun _ _ _ h => h) (Or.inl ⟨by rfl, ?_⟩) ?_ ?_
         rotate_left
         ·intro w'
          go_simp
          with_reducible rfl
         rotate_left
         ·simp only [Act.put, List.setIfInBounds_toArray, List.set_cons_zero, List.set_cons_succ, i64_w, i32_w]
          rfl
         refine take_ (i := 2) (N := some 18) (v := ?_) (a' := ?_) #[true, true, true, false, true, false, false, false, false, false, false] rfl rfl (take_ofW HT_.out HW_.out (by kernel_rfl)) (fun _ _ _ h => h) (Or.inl ⟨by rfl, ?_⟩) hHeld ?_ ?_
         rotate_left
         ·rintro w' ⟨s0, s1, s2, s3, s4, s5, s6, s7, s8, s9, s10⟩
          go_simp
          with_reducible rfl
         rotate_left
         ·simp only [Act.put, List.setIfInBounds_toArray, List.set_cons_zero, List.set_cons_succ, i64_w, i32_w]
          rfl
         refine take_ (i := 3) (N := some 19) (v := ?_) (a' := ?_) #[true, true, true, true, true, false, false, false, false, false, false] rfl rfl (take_ofW HT_.out HW_.out (by kernel_rfl)) (fun _ _ _ h => h) (Or.inl ⟨by rfl, ?_⟩) hHeld ?_ ?_
         rotate_left
         ·rintro w' ⟨s0, s1, s2, s3, s4, s5, s6, s7, s8, s9, s10⟩
          go_simp
          with_reducible rfl
         rotate_left
         ·simp only [Act.put, List.setIfInBounds_toArray, List.set_cons_zero, List.set_cons_succ, i64_w, i32_w]
          rfl
         refine one_ (i := 5) (N := some 21) #[true, true, true, true, true, true, false, false, false, false, false] rfl rfl (one_of HT_.out (by kernel_rfl)) (by decide) (fun K hK => ?_)
         refine goes_ Try.func49 (by kernel_rfl) rfl #[.agg #[.slice (some ad271) l0_0.length c0_0, .int .i64 a0_1], .int .i64 (rd t266 x12_1)] (by rfl) rfl rfl (by (try simp only [List.map_toArray, List.map_cons, List.map_nil]); first | done | rfl | (simp only [List.length_drop, List.length_take]; rfl)) ?_
         with_reducible refine (impl_nodeAt.calls k1 _ _ l0_0 a0_1 (rd t266 x12_1) t270 _ ?side1 ?side2 A11.out).mono ?_
         (case side1 => exact pc (Kd.C_below HR0_0.out HB.out))
         (case side2 => exact HC0_0.out)
         rintro e w15 ⟨rfl, hb⟩
         refine ⟨_, rfl, ?_⟩
         have n0_ := Aside0.mk (Kd.R_below (by (with_reducible repeat (first | apply Kd.R_alloc | apply Kd.R_drewN | apply Kd.R_drew)); exact HO_10.out) hb)
         have n1_ := Aside0.mk (pb BK265.out hb)
         have n2_ := Aside0.mk (below_step (pl1 HB.out GE265.out) hb)
         clear HO_10
         clear BK265
         clear HB
         have HO_10 := n0_
         have BK265 := n1_
         have HB := n2_
         clear n0_ n1_ n2_
         (try clear hb)
         (try clear hb2)
         (try clear hk)
         (try clear hi)
         refine hK.out _ _ ⟨(blk_cell BK265.out 0).trans rfl, (blk_cell BK265.out 1).trans rfl, ((HB.out.cell (World.block_lt_of_cell? w _ hw271_0)).trans hw271_0), ((HB.out.cell (World.block_lt_of_cell? w _ hw271_1)).trans hw271_1), ((HB.out.cell (World.block_lt_of_cell? w _ hw271_2)).trans hw271_2), ((HB.out.cell (World.block_lt_of_cell? w _ hw271_3)).trans hw271_3), ((HB.out.cell (World.block_lt_of_cell? w _ hw271_4)).trans hw271_4), ((HB.out.cell (World.block_lt_of_cell? w _ hw271_5)).trans hw271_5), ((HB.out.cell (World.block_lt_of_cell? w _ hw271_6)).trans hw271_6), ((HB.out.cell (World.block_lt_of_cell? w _ hw271_7)).trans hw271_7), ((HB.out.cell (World.block_lt_of_cell? w _ hw271_8)).trans hw271_8)⟩ (fun hHeld => ?_)
         clear hK K
         refine norm_ (a' := ?_) ?_ ?_
         rotate_left
         ·show Act.put _ (some 21) _ = _
          simp only [Act.put, List.setIfInBounds_toArray, List.set_cons_zero, List.set_cons_succ, i64_w, i32_w]
          rfl
         refine pure_ (i := 6) (N := some 22) (v := ?_) (a' := ?_) #[true, true, true, true, true, true, true, false, false, false, false] rfl rfl (any_of HT_.out (by kernel_rfl)) (fun _ _ _ h => h) (Or.inl ⟨by rfl, ?_⟩) ?_ ?_
         rotate_left
         ·intro w'
          go_simp
          with_reducible rfl
         rotate_left
         ·simp only [Act.put, List.setIfInBounds_toArray, List.set_cons_zero, List.set_cons_succ, i64_w, i32_w]
          rfl
         refine pure_ (i := 7) (N := some 23) (v := ?_) (a' := ?_) #[true, true, true, true, true, true, true, true, false, false, false] rfl rfl (any_of HT_.out (by kernel_rfl)) (fun _ _ _ h => h) (Or.inl ⟨by rfl, ?_⟩) ?_ ?_
         rotate_left
         ·intro w'
          go_simp
          with_reducible rfl
         rotate_left
         ·simp only [Act.put, List.setIfInBounds_toArray, List.set_cons_zero, List.set_cons_succ, i64_w, i32_w]
          rfl
         refine take_ (i := 8) (N := some 24) (v := ?_) (a' := ?_) #[true, true, true, true, true, true, true, true, true, false, false] rfl rfl (take_ofW HT_.out HW_.out (by kernel_rfl)) (fun _ _ _ h => h) (Or.inl ⟨by rfl, ?_⟩) hHeld ?_ ?_
         rotate_left
         ·rintro w' ⟨s0, s1, s2, s3, s4, s5, s6, s7, s8, s9, s10⟩
          go_simp
          with_reducible rfl
         rotate_left
         ·simp only [Act.put, List.setIfInBounds_toArray, List.set_cons_zero, List.set_cons_succ, i64_w, i32_w]
          rfl
         refine pure_ (i := 9) (N := some 25) (v := ?_) (a' := ?_) #[true, true, true, true, true, true, true, true, true, true, false] rfl rfl (any_of HT_.out (by kernel_rfl)) (fun _ _ _ h => h) (Or.inl ⟨by rfl, ?_⟩) ?_ ?_
         rotate_left
         ·intro w'
          go_simp
          with_reducible rfl
         rotate_left
         ·simp only [Act.put, List.setIfInBounds_toArray, List.set_cons_zero, List.set_cons_succ, i64_w, i32_w]
          rfl
         refine pure_ (i := 10) (N := some 5) (v := ?_) (a' := ?_) #[true, true, true, true, true, true, true, true, true, true, true] rfl rfl (any_of HT_.out (by kernel_rfl)) (fun _ _ _ h => h) (Or.inl ⟨by rfl, ?_⟩) ?_ ?_
         rotate_left
         ·intro w'
          go_simp
          with_reducible rfl
         rotate_left
         ·simp only [Act.put, List.setIfInBounds_toArray, List.set_cons_zero, List.set_cons_succ, i64_w, i32_w]
          rfl
         refine done_ (done_of HT_.out (by kernel_rfl)) ?_
         try go_wp2
         go_roundg k1
         case measure => have := HK1.out; omega
         case rel => exact ⟨(wrap64 (x5_1 + ((rd_T52 l0_0 t270).f6))), (wrap64 (x12_1 + 1)), eqa, eqa, H', ⟨by have := HK1.out; omega⟩, ⟨by (with_reducible repeat (first | apply Kd.R_alloc | apply Kd.R_drewN | apply Kd.R_drew)); exact HO_10.out⟩, ⟨pk BK265.out⟩, ⟨pl1 HB.out GE265.out⟩⟩
        ·rw [if_neg c13] at H
         exact absurd H (by simp)
       ·rw [if_neg c12] at H
        exact absurd H (by simp)
      ·rw [if_neg c10] at H
       exact absurd H (by simp)
     ·rw [if_neg c9] at H
      exact absurd H (by simp)
    ·rw [if_neg c8] at H
     have c8b0 : decide (x12_1 < (t266.length : Int)) = false := decide_eq_false c8
     clear c8
     obtain rfl := Option.some.inj H
     go_wp2
     go_ret
     exact ⟨by first | rfl | (simp [errW_none, errW_some] <;> rfl) | (simp [*, errW_none, errW_some] <;> rfl), by repeat (first | (with_reducible first | exact HB.out | apply below_alloc | apply pw_below_drewN | apply below_drew1 | refine below_set ?_ GE265.out) | exact HB.out)⟩

end Go.Proofs.Ytnhbfbgflgplcaa.QTU
