/- Walks, as the kit's print writes them, run with stubs of my own and mended: TW. -/
import Derived.Test.YtnhbfbgflgplcaaQTW0
import Derived.Test.YtnhbfbgflgplcaaQTW12
import Derived.Test.YtnhbfbgflgplcaaQTW14
namespace Go.Proofs.Ytnhbfbgflgplcaa.QTW
open Go.Proofs.YtnhbfbgflgplcaaW Go.Proofs.YtnhbfbgflgplcaaW.Zip
open Go.RowKit Go.Proofs.YtnhbfbgflgplcaaW.PrintWords Go.Proofs.YtnhbfbgflgplcaaW.PrintLast Go.Proofs.YtnhbfbgflgplcaaW.PrintMore
attribute [local go_sem] max2_int min2_int max_two min_two max_three min_three max_four min_four   -- for this text's walks alone
set_option linter.unusedVariables false
set_option linter.unusedSimpArgs false

/-! ### impl_BelowOf: function 25 -/
mutual
def impl_BelowOf.j0 : Nat → Int → Bool → List (S52) → Int → Option (List Int)
  | 0, _, _, _, _ => none
  | k + 1, x1, x17, x265000, x265001 => if x17 = true then (some ([] : List Int)) else (impl_BelowOf.l0 k x1 ([] : List Int) x265000 (x265000.length : Int) 0 x265000 x265001)
def impl_BelowOf.l0 : Nat → Int → List Int → List (S52) → Int → Int → List (S52) → Int → Option (List Int)
  | 0, _, _, _, _, _, _, _ => none
  | k + 1, x1, x5, x19, x20, x21, x265000, x265001 => if x21 < x20 then (if 0 ≤ x21 then (if x21 < (x19.length : Int) then (impl_BelowOf.l1 k x1 x5 x19 x20 x21 x265000 x265001 ((rd_T52 x19 x21).f0) ((rd_T52 x19 x21).f1) ((rd_T52 x19 x21).f2) ((rd_T52 x19 x21).f3) ((rd_T52 x19 x21).f4) ((rd_T52 x19 x21).f5) ((rd_T52 x19 x21).f6) ((rd_T52 x19 x21).f7) ((rd_T52 x19 x21).f8) ((rd_T52 x19 x21).f0) ((rd_T52 x19 x21).f1) ((rd_T52 x19 x21).f2) ((rd_T52 x19 x21).f3) ((rd_T52 x19 x21).f4) ((rd_T52 x19 x21).f5) ((rd_T52 x19 x21).f6) ((rd_T52 x19 x21).f7) ((rd_T52 x19 x21).f8)) else (none)) else (none)) else (some x5)
def impl_BelowOf.l1 : Nat → Int → List Int → List (S52) → Int → Int → List (S52) → Int → Int → Int → ByteArray → Bool → Int → Int → Int → List (S64) → Int → Int → Int → ByteArray → Bool → Int → Int → Int → List (S64) → Int → Option (List Int)
  | 0, _, _, _, _, _, _, _, _, _, _, _, _, _, _, _, _, _, _, _, _, _, _, _, _, _ => none
  | k + 1, x1, x5, x19, x20, x21, x265000, x265001, x269000, x269001, x269002, x269003, x269004, x269005, x269006, x269007, x269008, x270000, x270001, x270002, x270003, x270004, x270005, x270006, x270007, x270008 => if x270000 = x1 then (if x5.length < 17592186044416 then (impl_BelowOf.l0 k x1 (x5 ++ [x269000]) x19 x20 (wrap64 (x21 + 1)) x265000 x265001) else (none)) else (if x270000 = 1 then (impl_BelowOf.l0 k x1 x5 x19 x20 (wrap64 (x21 + 1)) x265000 x265001) else ((impl_nodeAt.f k x265000 x265001 x270001).bind fun t273 => (if 0 ≤ t273 then (if t273 < (x265000.length : Int) then (impl_BelowOf.l1 k x1 x5 x19 x20 x21 x265000 x265001 x269000 x269001 x269002 x269003 x269004 x269005 x269006 x269007 x269008 ((rd_T52 x265000 t273).f0) ((rd_T52 x265000 t273).f1) ((rd_T52 x265000 t273).f2) ((rd_T52 x265000 t273).f3) ((rd_T52 x265000 t273).f4) ((rd_T52 x265000 t273).f5) ((rd_T52 x265000 t273).f6) ((rd_T52 x265000 t273).f7) ((rd_T52 x265000 t273).f8)) else (none)) else (none))))
end
def impl_BelowOf.f (k : Nat) (l0_0 : List (S52)) (a0_1 : Int) (a1 : Int) : Option (List Int) := (impl_TreeOk.f k l0_0 a0_1).bind fun t265 => (if t265 = true then ((impl_nodeAt.f k l0_0 a0_1 a1).bind fun t266 => (impl_BelowOf.j0 k a1 (decide (t266 < 0)) l0_0 a0_1)) else (impl_BelowOf.j0 k a1 true l0_0 a0_1))
theorem impl_BelowOf.mono_l : ∀ k, (∀ y0 y1 y2 y3, LeO (impl_BelowOf.j0 k y0 y1 y2 y3) (impl_BelowOf.j0 (k + 1) y0 y1 y2 y3)) ∧ (∀ y0 y1 y2 y3 y4 y5 y6, LeO (impl_BelowOf.l0 k y0 y1 y2 y3 y4 y5 y6) (impl_BelowOf.l0 (k + 1) y0 y1 y2 y3 y4 y5 y6)) ∧ (∀ y0 y1 y2 y3 y4 y5 y6 y7 y8 y9 y10 y11 y12 y13 y14 y15 y16 y17 y18 y19 y20 y21 y22 y23 y24, LeO (impl_BelowOf.l1 k y0 y1 y2 y3 y4 y5 y6 y7 y8 y9 y10 y11 y12 y13 y14 y15 y16 y17 y18 y19 y20 y21 y22 y23 y24) (impl_BelowOf.l1 (k + 1) y0 y1 y2 y3 y4 y5 y6 y7 y8 y9 y10 y11 y12 y13 y14 y15 y16 y17 y18 y19 y20 y21 y22 y23 y24))
  | 0 => ⟨fun _ _ _ _ r h => by simp [impl_BelowOf.j0] at h, fun _ _ _ _ _ _ _ r h => by simp [impl_BelowOf.l0] at h, fun _ _ _ _ _ _ _ _ _ _ _ _ _ _ _ _ _ _ _ _ _ _ _ _ _ r h => by simp [impl_BelowOf.l1] at h⟩
  | k + 1 => by
    obtain ⟨ih0, ih1, ih2⟩ := impl_BelowOf.mono_l k
    refine ⟨?_, ?_, ?_⟩
    · intro y0 y1 y2 y3
      unfold impl_BelowOf.j0
      repeat' first
      | (with_reducible exact ih0 _ _ _ _)
      | (with_reducible exact ih1 _ _ _ _ _ _ _)
      | (with_reducible exact ih2 _ _ _ _ _ _ _ _ _ _ _ _ _ _ _ _ _ _ _ _ _ _ _ _ _)
      | (with_reducible exact impl_TreeOk.mono _ _ _)
      | (with_reducible exact impl_nodeAt.mono _ _ _ _)
      | (with_reducible exact LeO.refl _)
      | (with_reducible exact LeO.none _)
      | (with_reducible refine LeO.ite ?_ ?_)
      | (with_reducible refine LeO.bind ?_ (fun _ => ?_))
      | exact ih0 _ _ _ _
      | exact ih1 _ _ _ _ _ _ _
      | exact ih2 _ _ _ _ _ _ _ _ _ _ _ _ _ _ _ _ _ _ _ _ _ _ _ _ _
      | exact impl_TreeOk.mono _ _ _
      | exact impl_nodeAt.mono _ _ _ _
      | exact LeO.none _
      | refine LeO.ite ?_ ?_
      | refine LeO.bind ?_ (fun _ => ?_)
    · intro y0 y1 y2 y3 y4 y5 y6
      unfold impl_BelowOf.l0
      repeat' first
      | (with_reducible exact ih0 _ _ _ _)
      | (with_reducible exact ih1 _ _ _ _ _ _ _)
      | (with_reducible exact ih2 _ _ _ _ _ _ _ _ _ _ _ _ _ _ _ _ _ _ _ _ _ _ _ _ _)
      | (with_reducible exact impl_TreeOk.mono _ _ _)
      | (with_reducible exact impl_nodeAt.mono _ _ _ _)
      | (with_reducible exact LeO.refl _)
      | (with_reducible exact LeO.none _)
      | (with_reducible refine LeO.ite ?_ ?_)
      | (with_reducible refine LeO.bind ?_ (fun _ => ?_))
      | exact ih0 _ _ _ _
      | exact ih1 _ _ _ _ _ _ _
      | exact ih2 _ _ _ _ _ _ _ _ _ _ _ _ _ _ _ _ _ _ _ _ _ _ _ _ _
      | exact impl_TreeOk.mono _ _ _
      | exact impl_nodeAt.mono _ _ _ _
      | exact LeO.none _
      | refine LeO.ite ?_ ?_
      | refine LeO.bind ?_ (fun _ => ?_)
    · intro y0 y1 y2 y3 y4 y5 y6 y7 y8 y9 y10 y11 y12 y13 y14 y15 y16 y17 y18 y19 y20 y21 y22 y23 y24
      unfold impl_BelowOf.l1
      repeat' first
      | (with_reducible exact ih0 _ _ _ _)
      | (with_reducible exact ih1 _ _ _ _ _ _ _)
      | (with_reducible exact ih2 _ _ _ _ _ _ _ _ _ _ _ _ _ _ _ _ _ _ _ _ _ _ _ _ _)
      | (with_reducible exact impl_TreeOk.mono _ _ _)
      | (with_reducible exact impl_nodeAt.mono _ _ _ _)
      | (with_reducible exact LeO.refl _)
      | (with_reducible exact LeO.none _)
      | (with_reducible refine LeO.ite ?_ ?_)
      | (with_reducible refine LeO.bind ?_ (fun _ => ?_))
      | exact ih0 _ _ _ _
      | exact ih1 _ _ _ _ _ _ _
      | exact ih2 _ _ _ _ _ _ _ _ _ _ _ _ _ _ _ _ _ _ _ _ _ _ _ _ _
      | exact impl_TreeOk.mono _ _ _
      | exact impl_nodeAt.mono _ _ _ _
      | exact LeO.none _
      | refine LeO.ite ?_ ?_
      | refine LeO.bind ?_ (fun _ => ?_)
theorem impl_BelowOf.mono : ∀ a0 a1 a2 k, LeO (impl_BelowOf.f k a0 a1 a2) (impl_BelowOf.f (k + 1) a0 a1 a2) := by
  intro a0 a1 a2 k
  obtain ⟨ih0, ih1, ih2⟩ := impl_BelowOf.mono_l k
  unfold impl_BelowOf.f
  repeat' first
      | (with_reducible exact ih0 _ _ _ _)
      | (with_reducible exact ih1 _ _ _ _ _ _ _)
      | (with_reducible exact ih2 _ _ _ _ _ _ _ _ _ _ _ _ _ _ _ _ _ _ _ _ _ _ _ _ _)
      | (with_reducible exact impl_TreeOk.mono _ _ _)
      | (with_reducible exact impl_nodeAt.mono _ _ _ _)
      | (with_reducible exact LeO.refl _)
      | (with_reducible exact LeO.none _)
      | (with_reducible refine LeO.ite ?_ ?_)
      | (with_reducible refine LeO.bind ?_ (fun _ => ?_))
      | exact ih0 _ _ _ _
      | exact ih1 _ _ _ _ _ _ _
      | exact ih2 _ _ _ _ _ _ _ _ _ _ _ _ _ _ _ _ _ _ _ _ _ _ _ _ _
      | exact impl_TreeOk.mono _ _ _
      | exact impl_nodeAt.mono _ _ _ _
      | exact LeO.none _
      | refine LeO.ite ?_ ?_
      | refine LeO.bind ?_ (fun _ => ?_)
def impl_BelowOf.T9 : Bool × List (List Nat × List Nat) := (true, [([], []), ([0], [0]), ([], []), ([], []), ([3], [3]), ([2, 4], [2, 4]), ([1, 5], [1, 5]), ([6], [6]), ([7, 5, 0, 1, 2, 3, 4, 5, 6, 7], [7])])
def impl_BelowOf.B9 : List Nat := [0, 1, 0, 0, 8, 28, 63, 127, 255]
theorem impl_BelowOf.tab9 : rtab .any (opsOf Try.f25 9) = impl_BelowOf.T9 := by kernel_rfl
theorem impl_BelowOf.bits9 : waitsOk impl_BelowOf.T9.2 impl_BelowOf.B9 = true := by kernel_rfl
set_option maxHeartbeats 8000000 in
set_option maxRecDepth 100000 in
theorem impl_BelowOf.calls (k : Nat) (A0_0 : Option Addr) (c0_0 : Nat) (l0_0 : List (S52)) (a0_1 : Int) (a1 : Int) (r : List Int) (w : World) (hr0_0 : Kd.C k52 w A0_0 l0_0.length l0_0) (hc0_0 : l0_0.length ≤ c0_0) (h : impl_BelowOf.f k l0_0 a0_1 a1 = some r) :
    Calls Try.prog 25 #[.agg #[.slice A0_0 l0_0.length c0_0, .int .i64 a0_1], .int .i64 a1] w fun e w' => ∃ v0_ : Value, e = .returned (v0_) ∧ Kd.R (Kd.int .i64) 3 w' w.heap.size (fun _ => True) v0_ r ∧ Below w.heap.size w w' := by
  have hu29 := Try.underlying29
  have hu52 := Try.underlying52
  have HR0_0 := Aside0.mk hr0_0
  have HC0_0 := Aside0.mk hc0_0
  clear hr0_0 hc0_0
  have HB := Aside0.mk (Below.refl w.heap.size w)
  have H : ((impl_TreeOk.f k l0_0 a0_1).bind fun t265 => (if t265 = true then ((impl_nodeAt.f k l0_0 a0_1 a1).bind fun t266 => (impl_BelowOf.j0 k a1 (decide (t266 < 0)) l0_0 a0_1)) else (impl_BelowOf.j0 k a1 true l0_0 a0_1))) = some r := h
  clear h
  have HC3 := Aside0.mk H
  clear H
  go_enter Try.func25, Try.ntmps25
  go_upto_region 1 with (first | ((with_reducible refine gate_dst (N := 2) rfl ?_); refine box_event ?hg (N := 2) ?hd (cs := #[.slice A0_0 l0_0.length c0_0, .int .i64 a0_1]) (t := 29) ?hr ?_; (case hd => rfl); (case hg => rfl); (case hr => first | (go_simp; done) | (go_simp; rfl)); intro gb264 hg w4 hbox hb; have n0_ := Aside0.mk (below_step (pl0 HB.out) hb); have n1_ := Aside0.mk (hbox); have n2_ := Aside0.mk ((by rw [hg]; exact (below_size (pl0 HB.out)) : w.heap.size ≤ gb264)); have n3_ := Aside0.mk ((by rw [hg]; exact (below_size (pl0 HB.out)) : w.heap.size ≤ gb264)); clear HB; have HB := n0_; have BK264 := n1_; have GW264 := n2_; have GE264 := n3_; clear n0_ n1_ n2_ n3_; clear hb hbox hg))
  (try simp only [Act.put, List.setIfInBounds_toArray, List.set_cons_zero, List.set_cons_succ])
  go_cut [17] (fun v17 wc => ∃ (kq : Nat) (x17_2 : Bool), v17 = .bool x17_2 ∧ Aside0 (impl_BelowOf.j0 kq a1 x17_2 l0_0 a0_1 = some r) ∧ Aside0 (kq ≤ k) ∧ Aside0 (wc.heap[gb264]? = some (.cells #[(.slice A0_0 l0_0.length c0_0), .int .i64 a0_1] 29 (0, 0))) ∧ Aside0 (Below w.heap.size w wc))
  case first =>
   have H := HC3.out
   clear HC3
   replace H := Option.bind_eq_some_iff.mp H
   obtain ⟨t265, A50, H⟩ := H
   replace H : (if t265 = true then ((impl_nodeAt.f k l0_0 a0_1 a1).bind fun t266 => (impl_BelowOf.j0 k a1 (decide (t266 < 0)) l0_0 a0_1)) else (impl_BelowOf.j0 k a1 true l0_0 a0_1)) = some r := H
   have A5 := Aside0.mk A50
   clear A50
   by_cases c6 : t265 = true
   ·subst c6
    have H1 : ((impl_nodeAt.f k l0_0 a0_1 a1).bind fun t266 => (impl_BelowOf.j0 k a1 (decide (t266 < 0)) l0_0 a0_1)) = some r := by rw [if_pos rfl] at H; exact H
    clear H
    have H := H1
    clear H1
    replace H := Option.bind_eq_some_iff.mp H
    obtain ⟨t266, A70, H⟩ := H
    replace H : (impl_BelowOf.j0 k a1 (decide (t266 < 0)) l0_0 a0_1) = some r := H
    have A7 := Aside0.mk A70
    clear A70
    have H' := Aside0.mk H
    clear H
    obtain ⟨hcz8_0, hcz8_1, hfz8_0, hfz8_1⟩ := z2 BK264.out
    go_wp2_with (first | ((with_reducible refine gate_callee (f := 14) rfl ?_); refine goesL_ (some 10) rfl rfl Try.func14 (by kernel_rfl) rfl #[.agg #[.slice A0_0 l0_0.length c0_0, .int .i64 a0_1]] rfl (by (try simp only [List.map_toArray, List.map_cons, List.map_nil]); first | done | rfl | (simp only [List.length_drop, List.length_take]; rfl)) ?_; (with_reducible refine (impl_TreeOk.calls k _ _ l0_0 a0_1 true _ ?side1 ?side2 A5.out).mono ?_); (case side1 => exact pc (Kd.C_below HR0_0.out HB.out)); (case side2 => exact HC0_0.out); rintro e w9 ⟨rfl, hb⟩; refine ⟨_, rfl, ?_⟩; have n0_ := Aside0.mk (pb BK264.out hb); have n1_ := Aside0.mk (below_step (pl1 HB.out GE264.out) hb); clear BK264; clear HB; have BK264 := n0_; have HB := n1_; clear n0_ n1_; (try clear hb); (try clear hb2); (try clear hk); (try clear hi); have hcz10_0 : w9.cell? ⟨gb264, 0, none⟩ = some (.slice A0_0 l0_0.length c0_0) := (blk_cell BK264.out 0).trans rfl; have hcz10_1 : w9.cell? ⟨gb264, 1, none⟩ = some (.int .i64 a0_1) := (blk_cell BK264.out 1).trans rfl; have hfz10_0 := blk_frozen BK264.out 0; have hfz10_1 := blk_frozen BK264.out 1) | (go_at_call 49; (with_reducible refine (impl_nodeAt.calls k _ _ l0_0 a0_1 a1 t266 _ ?side1 ?side2 A7.out).mono ?_); (case side1 => exact pc (Kd.C_below HR0_0.out HB.out)); (case side2 => exact HC0_0.out); rintro e w11 ⟨rfl, hb⟩; have n0_ := Aside0.mk (pb BK264.out hb); have n1_ := Aside0.mk (below_step (pl1 HB.out GE264.out) hb); clear BK264; clear HB; have BK264 := n0_; have HB := n1_; clear n0_ n1_; (try clear hb); (try clear hb2); (try clear hk); (try clear hi)))
    go_meet
    case rel => exact ⟨_, (decide (t266 < 0)), eqa, H', ⟨by first | omega | exact Nat.le_refl _⟩, ⟨pk BK264.out⟩, ⟨pl1 HB.out GE264.out⟩⟩
   ·replace c6 := Bool.eq_false_iff.mpr c6
    subst c6
    have H1 : (impl_BelowOf.j0 k a1 true l0_0 a0_1) = some r := by rw [if_neg (show ¬ (false = true) by decide)] at H; exact H
    clear H
    have H := H1
    clear H1
    have H' := Aside0.mk H
    clear H
    obtain ⟨hcz12_0, hcz12_1, hfz12_0, hfz12_1⟩ := z2 BK264.out
    go_wp2_with (first | ((with_reducible refine gate_callee (f := 14) rfl ?_); refine goesL_ (some 10) rfl rfl Try.func14 (by kernel_rfl) rfl #[.agg #[.slice A0_0 l0_0.length c0_0, .int .i64 a0_1]] rfl (by (try simp only [List.map_toArray, List.map_cons, List.map_nil]); first | done | rfl | (simp only [List.length_drop, List.length_take]; rfl)) ?_; (with_reducible refine (impl_TreeOk.calls k _ _ l0_0 a0_1 false _ ?side1 ?side2 A5.out).mono ?_); (case side1 => exact pc (Kd.C_below HR0_0.out HB.out)); (case side2 => exact HC0_0.out); rintro e w13 ⟨rfl, hb⟩; refine ⟨_, rfl, ?_⟩; have n0_ := Aside0.mk (pb BK264.out hb); have n1_ := Aside0.mk (below_step (pl1 HB.out GE264.out) hb); clear BK264; clear HB; have BK264 := n0_; have HB := n1_; clear n0_ n1_; (try clear hb); (try clear hb2); (try clear hk); (try clear hi)))
    go_meet
    case rel => exact ⟨_, (true), eqa, H', ⟨by first | omega | exact Nat.le_refl _⟩, ⟨pk BK264.out⟩, ⟨pl1 HB.out GE264.out⟩⟩
  case rest =>
   clear HC3
   obtain ⟨kq, x17_2, rfl, HA, HJ2, BK264, HB⟩ := hcut
   cases kq with
   | zero => exact absurd HA.out (by simp [impl_BelowOf.j0])
   | succ kj2 =>
    have H := HA.out
    clear HA
    simp only [impl_BelowOf.j0] at H
    by_cases c14 : x17_2 = true
    ·subst c14
     have H1 : (some ([] : List Int)) = some r := by rw [if_pos rfl] at H; exact H
     clear H
     have H := H1
     clear H1
     obtain rfl := Option.some.inj H
     go_wp2
     go_ret
     exact ⟨_, erq, by first | exact Kd.R_nil _ _ _ _ _ | exact Kd.N_nil _ _ _ _ _ | exact Kd.V_nil _ _ _ _ _ | exact Kd.Q_nil _ _ _ _ _ | exact Kd.S_nil _ _ _ _ _, pl1 HB.out GE264.out⟩
    ·replace c14 := Bool.eq_false_iff.mpr c14
     subst c14
     have H1 : (impl_BelowOf.l0 kj2 a1 ([] : List Int) l0_0 (l0_0.length : Int) 0 l0_0 a0_1) = some r := by rw [if_neg (show ¬ (false = true) by decide)] at H; exact H
     clear H
     have H := H1
     clear H1
     have H' := Aside0.mk H
     clear H
     obtain ⟨hcz15_0, hcz15_1, hfz15_0, hfz15_1⟩ := z2 BK264.out
     go_wp2
     go_loopg [5, 21] kj2 (fun kq v5 v21 w' => ∃ (x5_2 : List Int) (x21_2 : Int), v21 = .int .i64 x21_2 ∧ Aside0 (impl_BelowOf.l0 kq a1 x5_2 l0_0 (l0_0.length : Int) x21_2 l0_0 a0_1 = some r) ∧ Aside0 (kq ≤ kj2) ∧ Aside0 (Kd.R (Kd.int .i64) 3 w' w.heap.size (fun _ => True) v5 x5_2) ∧ Aside0 (w'.heap[gb264]? = some (.cells #[(.slice A0_0 l0_0.length c0_0), .int .i64 a0_1] 29 (0, 0))) ∧ Aside0 (Below w.heap.size w w'))
     case atStart => exact ⟨(([] : List Int)), (0), eqa, H', ⟨Nat.le_refl _⟩, ⟨by first | exact Kd.R_nil _ _ _ _ _ | exact Kd.N_nil _ _ _ _ _ | exact Kd.V_nil _ _ _ _ _ | exact Kd.Q_nil _ _ _ _ _ | exact Kd.S_nil _ _ _ _ _⟩, ⟨pk BK264.out⟩, ⟨pl1 HB.out GE264.out⟩⟩
     case round =>
      clear H'
      try clear c14; try clear hcz15_0; try clear hcz15_1; try clear hfz15_0; try clear hfz15_1
      obtain ⟨x5_2, x21_2, rfl, HA, HK2, HO_5, BK264, HB⟩ := hrel
      cases gk with
      | zero => exact absurd HA.out (by simp [impl_BelowOf.l0])
      | succ k2 =>
       have H := HA.out
       clear HA
       simp only [impl_BelowOf.l0] at H
       by_cases c16 : x21_2 < (l0_0.length : Int)
       ·rw [if_pos c16] at H
        have c16b0 : decide (x21_2 < (l0_0.length : Int)) = true := decide_eq_true c16
        clear c16
        by_cases c17 : 0 ≤ x21_2
        ·rw [if_pos c17] at H
         have c17b0 : decide (0 ≤ x21_2) = true := decide_eq_true c17
         clear c17
         by_cases c18 : x21_2 < (l0_0.length : Int)
         ·rw [if_pos c18] at H
          have c18b0 : decide (x21_2 < (l0_0.length : Int)) = true := decide_eq_true c18
          clear c18
          have H' := Aside0.mk H
          clear H
          have p267 : 0 ≤ (x21_2 : Int) := oda
          have q267 : x21_2 < (l0_0.length : Int) := oda
          obtain ⟨ad267, A267_7, c267_7, e267, hx267_0, hx267_1, hx267_2, hx267_3, hx267_4, hx267_5, hx267_6, hx267_7, hx267_8, hl267_7, hi267_7⟩ := at_T52 HR0_0.out x21_2 p267 q267
          cases e267
          replace hx267_0 := hbc HB.out hx267_0
          replace hx267_1 := hbc HB.out hx267_1
          replace hx267_2 := hbc HB.out hx267_2
          replace hx267_3 := hbc HB.out hx267_3
          replace hx267_4 := hbc HB.out hx267_4
          replace hx267_5 := hbc HB.out hx267_5
          replace hx267_6 := hbc HB.out hx267_6
          replace hx267_7 := hbc HB.out hx267_7
          replace hx267_8 := hbc HB.out hx267_8
          have HR267_7 := Aside0.mk hi267_7
          have HC267_7 := Aside0.mk hl267_7
          clear hi267_7 hl267_7
          replace p267 := eq_true p267
          replace q267 := eq_true q267
          go_wp2_with (first | ((with_reducible refine gate_dst (N := 7) rfl ?_); refine box_event ?hg (N := 7) ?hd (cs := #[.int .i64 0, .int .i64 0, .string (⟨#[]⟩ : ByteArray), .bool false, .int .i64 0, .int .i64 0, .int .i64 0, .slice none 0 0, .int .i64 0]) (t := 52) ?hr ?_; (case hd => rfl); (case hg => rfl); (case hr => first | (go_simp; done) | (go_simp; rfl)); intro gb268 hg w19 hbox hb; have n0_ := Aside0.mk (Kd.R_below (by (with_reducible repeat (first | apply Kd.R_alloc | apply Kd.R_drewN | apply Kd.R_drew)); exact HO_5.out) hb); have n1_ := Aside0.mk (pb BK264.out hb); have n2_ := Aside0.mk (below_step (pl1 HB.out GE264.out) hb); have n3_ := Aside0.mk (hbox); have n4_ := Aside0.mk ((by rw [hg]; exact (below_size (pl1 HB.out GE264.out)) : w.heap.size ≤ gb268)); have n5_ := Aside0.mk ((by rw [hg]; exact (below_size (pl1 HB.out GE264.out)) : w.heap.size ≤ gb268)); have n6_ := Aside0.mk ((by rw [hg]; exact Nat.ne_of_lt (blk_lt (g := gb264) (o := .cells #[.slice (some ad267) l0_0.length c0_0, .int .i64 a0_1] 29 (0, 0)) (pk BK264.out)) : gb264 ≠ gb268)); have n7_ := Aside0.mk ((by rw [hg]; exact Nat.ne_of_gt (blk_lt (g := gb264) (o := .cells #[.slice (some ad267) l0_0.length c0_0, .int .i64 a0_1] 29 (0, 0)) (pk BK264.out)) : gb268 ≠ gb264)); clear HO_5; clear BK264; clear HB; have HO_5 := n0_; have BK264 := n1_; have HB := n2_; have BK268 := n3_; have GW268 := n4_; have GE268 := n5_; have NB264_268 := n6_; have NB268_264 := n7_; clear n0_ n1_ n2_ n3_ n4_ n5_ n6_ n7_; clear hb hbox hg; have hnb20 := NB268_264.out; have hnc20 := NB264_268.out; have hcz21_0 : w19.cell? ⟨gb268, 0, none⟩ = some (.int .i64 0) := (blk_cell BK268.out 0).trans rfl; have hcz21_1 : w19.cell? ⟨gb268, 1, none⟩ = some (.int .i64 0) := (blk_cell BK268.out 1).trans rfl; have hcz21_2 : w19.cell? ⟨gb268, 2, none⟩ = some (.string (⟨#[]⟩ : ByteArray)) := (blk_cell BK268.out 2).trans rfl; have hcz21_3 : w19.cell? ⟨gb268, 3, none⟩ = some (.bool false) := (blk_cell BK268.out 3).trans rfl; have hcz21_4 : w19.cell? ⟨gb268, 4, none⟩ = some (.int .i64 0) := (blk_cell BK268.out 4).trans rfl; have hcz21_5 : w19.cell? ⟨gb268, 5, none⟩ = some (.int .i64 0) := (blk_cell BK268.out 5).trans rfl; have hcz21_6 : w19.cell? ⟨gb268, 6, none⟩ = some (.int .i64 0) := (blk_cell BK268.out 6).trans rfl; have hcz21_7 : w19.cell? ⟨gb268, 7, none⟩ = some (.slice none 0 0) := (blk_cell BK268.out 7).trans rfl; have hcz21_8 : w19.cell? ⟨gb268, 8, none⟩ = some (.int .i64 0) := (blk_cell BK268.out 8).trans rfl; have hfz21_0 := blk_frozen BK268.out 0; have hfz21_1 := blk_frozen BK268.out 1; have hfz21_2 := blk_frozen BK268.out 2; have hfz21_3 := blk_frozen BK268.out 3; have hfz21_4 := blk_frozen BK268.out 4; have hfz21_5 := blk_frozen BK268.out 5; have hfz21_6 := blk_frozen BK268.out 6; have hfz21_7 := blk_frozen BK268.out 7; have hfz21_8 := blk_frozen BK268.out 8) | ((with_reducible refine gate_dst (N := 8) rfl ?_); refine box_event ?hg (N := 8) ?hd (cs := #[.int .i64 0, .int .i64 0, .string (⟨#[]⟩ : ByteArray), .bool false, .int .i64 0, .int .i64 0, .int .i64 0, .slice none 0 0, .int .i64 0]) (t := 52) ?hr ?_; (case hd => rfl); (case hg => rfl); (case hr => first | (go_simp; done) | (go_simp; rfl)); intro gb269 hg w22 hbox hb; have n0_ := Aside0.mk (Kd.R_below (by (with_reducible repeat (first | apply Kd.R_alloc | apply Kd.R_drewN | apply Kd.R_drew)); exact (Kd.R_mono (Kd.R_far (p := ⟨gb268, 8, none⟩) (Kd.R_far (p := ⟨gb268, 7, none⟩) (Kd.R_far (p := ⟨gb268, 6, none⟩) (Kd.R_far (p := ⟨gb268, 5, none⟩) (Kd.R_far (p := ⟨gb268, 4, none⟩) (Kd.R_far (p := ⟨gb268, 3, none⟩) (Kd.R_far (p := ⟨gb268, 2, none⟩) (Kd.R_far (p := ⟨gb268, 1, none⟩) (Kd.R_far (p := ⟨gb268, 0, none⟩) (Kd.R_types HO_5.out BK268.out (by decide)) (fun _ hk => hk.2) (.int .i64 ((rd_T52 l0_0 x21_2).f0))) (fun _ hk => hk.2) (.int .i64 ((rd_T52 l0_0 x21_2).f1))) (fun _ hk => hk.2) (.string ((rd_T52 l0_0 x21_2).f2))) (fun _ hk => hk.2) (.bool ((rd_T52 l0_0 x21_2).f3))) (fun _ hk => hk.2) (.int .i64 ((rd_T52 l0_0 x21_2).f4))) (fun _ hk => hk.2) (.int .i64 ((rd_T52 l0_0 x21_2).f5))) (fun _ hk => hk.2) (.int .i64 ((rd_T52 l0_0 x21_2).f6))) (fun _ hk => hk.2) (.slice A267_7 ((rd_T52 l0_0 x21_2).f7).length c267_7)) (fun _ hk => hk.2) (.int .i64 ((rd_T52 l0_0 x21_2).f8))) (fun _ h_ => h_.1))) hb); have n1_ := Aside0.mk (blk_below (g := gb264) (o := .cells #[.slice (some ad267) l0_0.length c0_0, .int .i64 a0_1] 29 (0, 0)) (by (with_reducible repeat (first | refine blk_drewN ?_ _ | refine blk_drew ?_ | refine blk_alloc ?_ _)); refine blk_far ?_ NB264_268.out _; (with_reducible repeat (first | refine blk_drewN ?_ _ | refine blk_drew ?_ | refine blk_alloc ?_ _)); refine blk_far ?_ NB264_268.out _; (with_reducible repeat (first | refine blk_drewN ?_ _ | refine blk_drew ?_ | refine blk_alloc ?_ _)); refine blk_far ?_ NB264_268.out _; (with_reducible repeat (first | refine blk_drewN ?_ _ | refine blk_drew ?_ | refine blk_alloc ?_ _)); refine blk_far ?_ NB264_268.out _; (with_reducible repeat (first | refine blk_drewN ?_ _ | refine blk_drew ?_ | refine blk_alloc ?_ _)); refine blk_far ?_ NB264_268.out _; (with_reducible repeat (first | refine blk_drewN ?_ _ | refine blk_drew ?_ | refine blk_alloc ?_ _)); refine blk_far ?_ NB264_268.out _; (with_reducible repeat (first | refine blk_drewN ?_ _ | refine blk_drew ?_ | refine blk_alloc ?_ _)); refine blk_far ?_ NB264_268.out _; (with_reducible repeat (first | refine blk_drewN ?_ _ | refine blk_drew ?_ | refine blk_alloc ?_ _)); refine blk_far ?_ NB264_268.out _; (with_reducible repeat (first | refine blk_drewN ?_ _ | refine blk_drew ?_ | refine blk_alloc ?_ _)); refine blk_far ?_ NB264_268.out _; (with_reducible repeat (first | refine blk_drewN ?_ _ | refine blk_drew ?_ | refine blk_alloc ?_ _)); exact BK264.out) hb); have n2_ := Aside0.mk (blk_below (g := gb268) (o := .cells #[.int .i64 ((rd_T52 l0_0 x21_2).f0), .int .i64 ((rd_T52 l0_0 x21_2).f1), .string ((rd_T52 l0_0 x21_2).f2), .bool ((rd_T52 l0_0 x21_2).f3), .int .i64 ((rd_T52 l0_0 x21_2).f4), .int .i64 ((rd_T52 l0_0 x21_2).f5), .int .i64 ((rd_T52 l0_0 x21_2).f6), .slice A267_7 ((rd_T52 l0_0 x21_2).f7).length c267_7, .int .i64 ((rd_T52 l0_0 x21_2).f8)] 52 (0, 0)) (by (with_reducible repeat (first | refine blk_drewN ?_ _ | refine blk_drew ?_ | refine blk_alloc ?_ _)); refine blk_put (cs := #[.int .i64 ((rd_T52 l0_0 x21_2).f0), .int .i64 ((rd_T52 l0_0 x21_2).f1), .string ((rd_T52 l0_0 x21_2).f2), .bool ((rd_T52 l0_0 x21_2).f3), .int .i64 ((rd_T52 l0_0 x21_2).f4), .int .i64 ((rd_T52 l0_0 x21_2).f5), .int .i64 ((rd_T52 l0_0 x21_2).f6), .slice A267_7 ((rd_T52 l0_0 x21_2).f7).length c267_7, .int .i64 0]) ?_ 8 _ rfl; (with_reducible repeat (first | refine blk_drewN ?_ _ | refine blk_drew ?_ | refine blk_alloc ?_ _)); refine blk_put (cs := #[.int .i64 ((rd_T52 l0_0 x21_2).f0), .int .i64 ((rd_T52 l0_0 x21_2).f1), .string ((rd_T52 l0_0 x21_2).f2), .bool ((rd_T52 l0_0 x21_2).f3), .int .i64 ((rd_T52 l0_0 x21_2).f4), .int .i64 ((rd_T52 l0_0 x21_2).f5), .int .i64 ((rd_T52 l0_0 x21_2).f6), .slice none 0 0, .int .i64 0]) ?_ 7 _ rfl; (with_reducible repeat (first | refine blk_drewN ?_ _ | refine blk_drew ?_ | refine blk_alloc ?_ _)); refine blk_put (cs := #[.int .i64 ((rd_T52 l0_0 x21_2).f0), .int .i64 ((rd_T52 l0_0 x21_2).f1), .string ((rd_T52 l0_0 x21_2).f2), .bool ((rd_T52 l0_0 x21_2).f3), .int .i64 ((rd_T52 l0_0 x21_2).f4), .int .i64 ((rd_T52 l0_0 x21_2).f5), .int .i64 0, .slice none 0 0, .int .i64 0]) ?_ 6 _ rfl; (with_reducible repeat (first | refine blk_drewN ?_ _ | refine blk_drew ?_ | refine blk_alloc ?_ _)); refine blk_put (cs := #[.int .i64 ((rd_T52 l0_0 x21_2).f0), .int .i64 ((rd_T52 l0_0 x21_2).f1), .string ((rd_T52 l0_0 x21_2).f2), .bool ((rd_T52 l0_0 x21_2).f3), .int .i64 ((rd_T52 l0_0 x21_2).f4), .int .i64 0, .int .i64 0, .slice none 0 0, .int .i64 0]) ?_ 5 _ rfl; (with_reducible repeat (first | refine blk_drewN ?_ _ | refine blk_drew ?_ | refine blk_alloc ?_ _)); refine blk_put (cs := #[.int .i64 ((rd_T52 l0_0 x21_2).f0), .int .i64 ((rd_T52 l0_0 x21_2).f1), .string ((rd_T52 l0_0 x21_2).f2), .bool ((rd_T52 l0_0 x21_2).f3), .int .i64 0, .int .i64 0, .int .i64 0, .slice none 0 0, .int .i64 0]) ?_ 4 _ rfl; (with_reducible repeat (first | refine blk_drewN ?_ _ | refine blk_drew ?_ | refine blk_alloc ?_ _)); refine blk_put (cs := #[.int .i64 ((rd_T52 l0_0 x21_2).f0), .int .i64 ((rd_T52 l0_0 x21_2).f1), .string ((rd_T52 l0_0 x21_2).f2), .bool false, .int .i64 0, .int .i64 0, .int .i64 0, .slice none 0 0, .int .i64 0]) ?_ 3 _ rfl; (with_reducible repeat (first | refine blk_drewN ?_ _ | refine blk_drew ?_ | refine blk_alloc ?_ _)); refine blk_put (cs := #[.int .i64 ((rd_T52 l0_0 x21_2).f0), .int .i64 ((rd_T52 l0_0 x21_2).f1), .string (⟨#[]⟩ : ByteArray), .bool false, .int .i64 0, .int .i64 0, .int .i64 0, .slice none 0 0, .int .i64 0]) ?_ 2 _ rfl; (with_reducible repeat (first | refine blk_drewN ?_ _ | refine blk_drew ?_ | refine blk_alloc ?_ _)); refine blk_put (cs := #[.int .i64 ((rd_T52 l0_0 x21_2).f0), .int .i64 0, .string (⟨#[]⟩ : ByteArray), .bool false, .int .i64 0, .int .i64 0, .int .i64 0, .slice none 0 0, .int .i64 0]) ?_ 1 _ rfl; (with_reducible repeat (first | refine blk_drewN ?_ _ | refine blk_drew ?_ | refine blk_alloc ?_ _)); refine blk_put (cs := #[.int .i64 0, .int .i64 0, .string (⟨#[]⟩ : ByteArray), .bool false, .int .i64 0, .int .i64 0, .int .i64 0, .slice none 0 0, .int .i64 0]) ?_ 0 _ rfl; (with_reducible repeat (first | refine blk_drewN ?_ _ | refine blk_drew ?_ | refine blk_alloc ?_ _)); exact BK268.out) hb); have n3_ := Aside0.mk (below_step (pl2 HB.out GE264.out GE268.out) hb); have n4_ := Aside0.mk (hbox); have n5_ := Aside0.mk ((by rw [hg]; exact (below_size (pl2 HB.out GE264.out GE268.out)) : w.heap.size ≤ gb269)); have n6_ := Aside0.mk ((by rw [hg]; exact (below_size (pl2 HB.out GE264.out GE268.out)) : w.heap.size ≤ gb269)); have n7_ := Aside0.mk ((by rw [hg]; exact Nat.ne_of_lt (blk_lt (g := gb264) (o := .cells #[.slice (some ad267) l0_0.length c0_0, .int .i64 a0_1] 29 (0, 0)) (by (with_reducible repeat (first | refine blk_drewN ?_ _ | refine blk_drew ?_ | refine blk_alloc ?_ _)); refine blk_far ?_ NB264_268.out _; (with_reducible repeat (first | refine blk_drewN ?_ _ | refine blk_drew ?_ | refine blk_alloc ?_ _)); refine blk_far ?_ NB264_268.out _; (with_reducible repeat (first | refine blk_drewN ?_ _ | refine blk_drew ?_ | refine blk_alloc ?_ _)); refine blk_far ?_ NB264_268.out _; (with_reducible repeat (first | refine blk_drewN ?_ _ | refine blk_drew ?_ | refine blk_alloc ?_ _)); refine blk_far ?_ NB264_268.out _; (with_reducible repeat (first | refine blk_drewN ?_ _ | refine blk_drew ?_ | refine blk_alloc ?_ _)); refine blk_far ?_ NB264_268.out _; (with_reducible repeat (first | refine blk_drewN ?_ _ | refine blk_drew ?_ | refine blk_alloc ?_ _)); refine blk_far ?_ NB264_268.out _; (with_reducible repeat (first | refine blk_drewN ?_ _ | refine blk_drew ?_ | refine blk_alloc ?_ _)); refine blk_far ?_ NB264_268.out _; (with_reducible repeat (first | refine blk_drewN ?_ _ | refine blk_drew ?_ | refine blk_alloc ?_ _)); refine blk_far ?_ NB264_268.out _; (with_reducible repeat (first | refine blk_drewN ?_ _ | refine blk_drew ?_ | refine blk_alloc ?_ _)); refine blk_far ?_ NB264_268.out _; (with_reducible repeat (first | refine blk_drewN ?_ _ | refine blk_drew ?_ | refine blk_alloc ?_ _)); exact BK264.out)) : gb264 ≠ gb269)); have n8_ := Aside0.mk ((by rw [hg]; exact Nat.ne_of_gt (blk_lt (g := gb264) (o := .cells #[.slice (some ad267) l0_0.length c0_0, .int .i64 a0_1] 29 (0, 0)) (by (with_reducible repeat (first | refine blk_drewN ?_ _ | refine blk_drew ?_ | refine blk_alloc ?_ _)); refine blk_far ?_ NB264_268.out _; (with_reducible repeat (first | refine blk_drewN ?_ _ | refine blk_drew ?_ | refine blk_alloc ?_ _)); refine blk_far ?_ NB264_268.out _; (with_reducible repeat (first | refine blk_drewN ?_ _ | refine blk_drew ?_ | refine blk_alloc ?_ _)); refine blk_far ?_ NB264_268.out _; (with_reducible repeat (first | refine blk_drewN ?_ _ | refine blk_drew ?_ | refine blk_alloc ?_ _)); refine blk_far ?_ NB264_268.out _; (with_reducible repeat (first | refine blk_drewN ?_ _ | refine blk_drew ?_ | refine blk_alloc ?_ _)); refine blk_far ?_ NB264_268.out _; (with_reducible repeat (first | refine blk_drewN ?_ _ | refine blk_drew ?_ | refine blk_alloc ?_ _)); refine blk_far ?_ NB264_268.out _; (with_reducible repeat (first | refine blk_drewN ?_ _ | refine blk_drew ?_ | refine blk_alloc ?_ _)); refine blk_far ?_ NB264_268.out _; (with_reducible repeat (first | refine blk_drewN ?_ _ | refine blk_drew ?_ | refine blk_alloc ?_ _)); refine blk_far ?_ NB264_268.out _; (with_reducible repeat (first | refine blk_drewN ?_ _ | refine blk_drew ?_ | refine blk_alloc ?_ _)); refine blk_far ?_ NB264_268.out _; (with_reducible repeat (first | refine blk_drewN ?_ _ | refine blk_drew ?_ | refine blk_alloc ?_ _)); exact BK264.out)) : gb269 ≠ gb264)); have n9_ := Aside0.mk ((by rw [hg]; exact Nat.ne_of_lt (blk_lt (g := gb268) (o := .cells #[.int .i64 ((rd_T52 l0_0 x21_2).f0), .int .i64 ((rd_T52 l0_0 x21_2).f1), .string ((rd_T52 l0_0 x21_2).f2), .bool ((rd_T52 l0_0 x21_2).f3), .int .i64 ((rd_T52 l0_0 x21_2).f4), .int .i64 ((rd_T52 l0_0 x21_2).f5), .int .i64 ((rd_T52 l0_0 x21_2).f6), .slice A267_7 ((rd_T52 l0_0 x21_2).f7).length c267_7, .int .i64 ((rd_T52 l0_0 x21_2).f8)] 52 (0, 0)) (by (with_reducible repeat (first | refine blk_drewN ?_ _ | refine blk_drew ?_ | refine blk_alloc ?_ _)); refine blk_put (cs := #[.int .i64 ((rd_T52 l0_0 x21_2).f0), .int .i64 ((rd_T52 l0_0 x21_2).f1), .string ((rd_T52 l0_0 x21_2).f2), .bool ((rd_T52 l0_0 x21_2).f3), .int .i64 ((rd_T52 l0_0 x21_2).f4), .int .i64 ((rd_T52 l0_0 x21_2).f5), .int .i64 ((rd_T52 l0_0 x21_2).f6), .slice A267_7 ((rd_T52 l0_0 x21_2).f7).length c267_7, .int .i64 0]) ?_ 8 _ rfl; (with_reducible repeat (first | refine blk_drewN ?_ _ | refine blk_drew ?_ | refine blk_alloc ?_ _)); refine blk_put (cs := #[.int .i64 ((rd_T52 l0_0 x21_2).f0), .int .i64 ((rd_T52 l0_0 x21_2).f1), .string ((rd_T52 l0_0 x21_2).f2), .bool ((rd_T52 l0_0 x21_2).f3), .int .i64 ((rd_T52 l0_0 x21_2).f4), .int .i64 ((rd_T52 l0_0 x21_2).f5), .int .i64 ((rd_T52 l0_0 x21_2).f6), .slice none 0 0, .int .i64 0]) ?_ 7 _ rfl; (with_reducible repeat (first | refine blk_drewN ?_ _ | refine blk_drew ?_ | refine blk_alloc ?_ _)); refine blk_put (cs := #[.int .i64 ((rd_T52 l0_0 x21_2).f0), .int .i64 ((rd_T52 l0_0 x21_2).f1), .string ((rd_T52 l0_0 x21_2).f2), .bool ((rd_T52 l0_0 x21_2).f3), .int .i64 ((rd_T52 l0_0 x21_2).f4), .int .i64 ((rd_T52 l0_0 x21_2).f5), .int .i64 0, .slice none 0 0, .int .i64 0]) ?_ 6 _ rfl; (with_reducible repeat (first | refine blk_drewN ?_ _ | refine blk_drew ?_ | refine blk_alloc ?_ _)); refine blk_put (cs := #[.int .i64 ((rd_T52 l0_0 x21_2).f0), .int .i64 ((rd_T52 l0_0 x21_2).f1), .string ((rd_T52 l0_0 x21_2).f2), .bool ((rd_T52 l0_0 x21_2).f3), .int .i64 ((rd_T52 l0_0 x21_2).f4), .int .i64 0, .int .i64 0, .slice none 0 0, .int .i64 0]) ?_ 5 _ rfl; (with_reducible repeat (first | refine blk_drewN ?_ _ | refine blk_drew ?_ | refine blk_alloc ?_ _)); refine blk_put (cs := #[.int .i64 ((rd_T52 l0_0 x21_2).f0), .int .i64 ((rd_T52 l0_0 x21_2).f1), .string ((rd_T52 l0_0 x21_2).f2), .bool ((rd_T52 l0_0 x21_2).f3), .int .i64 0, .int .i64 0, .int .i64 0, .slice none 0 0, .int .i64 0]) ?_ 4 _ rfl; (with_reducible repeat (first | refine blk_drewN ?_ _ | refine blk_drew ?_ | refine blk_alloc ?_ _)); refine blk_put (cs := #[.int .i64 ((rd_T52 l0_0 x21_2).f0), .int .i64 ((rd_T52 l0_0 x21_2).f1), .string ((rd_T52 l0_0 x21_2).f2), .bool false, .int .i64 0, .int .i64 0, .int .i64 0, .slice none 0 0, .int .i64 0]) ?_ 3 _ rfl; (with_reducible repeat (first | refine blk_drewN ?_ _ | refine blk_drew ?_ | refine blk_alloc ?_ _)); refine blk_put (cs := #[.int .i64 ((rd_T52 l0_0 x21_2).f0), .int .i64 ((rd_T52 l0_0 x21_2).f1), .string (⟨#[]⟩ : ByteArray), .bool false, .int .i64 0, .int .i64 0, .int .i64 0, .slice none 0 0, .int .i64 0]) ?_ 2 _ rfl; (with_reducible repeat (first | refine blk_drewN ?_ _ | refine blk_drew ?_ | refine blk_alloc ?_ _)); refine blk_put (cs := #[.int .i64 ((rd_T52 l0_0 x21_2).f0), .int .i64 0, .string (⟨#[]⟩ : ByteArray), .bool false, .int .i64 0, .int .i64 0, .int .i64 0, .slice none 0 0, .int .i64 0]) ?_ 1 _ rfl; (with_reducible repeat (first | refine blk_drewN ?_ _ | refine blk_drew ?_ | refine blk_alloc ?_ _)); refine blk_put (cs := #[.int .i64 0, .int .i64 0, .string (⟨#[]⟩ : ByteArray), .bool false, .int .i64 0, .int .i64 0, .int .i64 0, .slice none 0 0, .int .i64 0]) ?_ 0 _ rfl; (with_reducible repeat (first | refine blk_drewN ?_ _ | refine blk_drew ?_ | refine blk_alloc ?_ _)); exact BK268.out)) : gb268 ≠ gb269)); have n10_ := Aside0.mk ((by rw [hg]; exact Nat.ne_of_gt (blk_lt (g := gb268) (o := .cells #[.int .i64 ((rd_T52 l0_0 x21_2).f0), .int .i64 ((rd_T52 l0_0 x21_2).f1), .string ((rd_T52 l0_0 x21_2).f2), .bool ((rd_T52 l0_0 x21_2).f3), .int .i64 ((rd_T52 l0_0 x21_2).f4), .int .i64 ((rd_T52 l0_0 x21_2).f5), .int .i64 ((rd_T52 l0_0 x21_2).f6), .slice A267_7 ((rd_T52 l0_0 x21_2).f7).length c267_7, .int .i64 ((rd_T52 l0_0 x21_2).f8)] 52 (0, 0)) (by (with_reducible repeat (first | refine blk_drewN ?_ _ | refine blk_drew ?_ | refine blk_alloc ?_ _)); refine blk_put (cs := #[.int .i64 ((rd_T52 l0_0 x21_2).f0), .int .i64 ((rd_T52 l0_0 x21_2).f1), .string ((rd_T52 l0_0 x21_2).f2), .bool ((rd_T52 l0_0 x21_2).f3), .int .i64 ((rd_T52 l0_0 x21_2).f4), .int .i64 ((rd_T52 l0_0 x21_2).f5), .int .i64 ((rd_T52 l0_0 x21_2).f6), .slice A267_7 ((rd_T52 l0_0 x21_2).f7).length c267_7, .int .i64 0]) ?_ 8 _ rfl; (with_reducible repeat (first | refine blk_drewN ?_ _ | refine blk_drew ?_ | refine blk_alloc ?_ _)); refine blk_put (cs := #[.int .i64 ((rd_T52 l0_0 x21_2).f0), .int .i64 ((rd_T52 l0_0 x21_2).f1), .string ((rd_T52 l0_0 x21_2).f2), .bool ((rd_T52 l0_0 x21_2).f3), .int .i64 ((rd_T52 l0_0 x21_2).f4), .int .i64 ((rd_T52 l0_0 x21_2).f5), .int .i64 ((rd_T52 l0_0 x21_2).f6), .slice none 0 0, .int .i64 0]) ?_ 7 _ rfl; (with_reducible repeat (first | refine blk_drewN ?_ _ | refine blk_drew ?_ | refine blk_alloc ?_ _)); refine blk_put (cs := #[.int .i64 ((rd_T52 l0_0 x21_2).f0), .int .i64 ((rd_T52 l0_0 x21_2).f1), .string ((rd_T52 l0_0 x21_2).f2), .bool ((rd_T52 l0_0 x21_2).f3), .int .i64 ((rd_T52 l0_0 x21_2).f4), .int .i64 ((rd_T52 l0_0 x21_2).f5), .int .i64 0, .slice none 0 0, .int .i64 0]) ?_ 6 _ rfl; (with_reducible repeat (first | refine blk_drewN ?_ _ | refine blk_drew ?_ | refine blk_alloc ?_ _)); refine blk_put (cs := #[.int .i64 ((rd_T52 l0_0 x21_2).f0), .int .i64 ((rd_T52 l0_0 x21_2).f1), .string ((rd_T52 l0_0 x21_2).f2), .bool ((rd_T52 l0_0 x21_2).f3), .int .i64 ((rd_T52 l0_0 x21_2).f4), .int .i64 0, .int .i64 0, .slice none 0 0, .int .i64 0]) ?_ 5 _ rfl; (with_reducible repeat (first | refine blk_drewN ?_ _ | refine blk_drew ?_ | refine blk_alloc ?_ _)); refine blk_put (cs := #[.int .i64 ((rd_T52 l0_0 x21_2).f0), .int .i64 ((rd_T52 l0_0 x21_2).f1), .string ((rd_T52 l0_0 x21_2).f2), .bool ((rd_T52 l0_0 x21_2).f3), .int .i64 0, .int .i64 0, .int .i64 0, .slice none 0 0, .int .i64 0]) ?_ 4 _ rfl; (with_reducible repeat (first | refine blk_drewN ?_ _ | refine blk_drew ?_ | refine blk_alloc ?_ _)); refine blk_put (cs := #[.int .i64 ((rd_T52 l0_0 x21_2).f0), .int .i64 ((rd_T52 l0_0 x21_2).f1), .string ((rd_T52 l0_0 x21_2).f2), .bool false, .int .i64 0, .int .i64 0, .int .i64 0, .slice none 0 0, .int .i64 0]) ?_ 3 _ rfl; (with_reducible repeat (first | refine blk_drewN ?_ _ | refine blk_drew ?_ | refine blk_alloc ?_ _)); refine blk_put (cs := #[.int .i64 ((rd_T52 l0_0 x21_2).f0), .int .i64 ((rd_T52 l0_0 x21_2).f1), .string (⟨#[]⟩ : ByteArray), .bool false, .int .i64 0, .int .i64 0, .int .i64 0, .slice none 0 0, .int .i64 0]) ?_ 2 _ rfl; (with_reducible repeat (first | refine blk_drewN ?_ _ | refine blk_drew ?_ | refine blk_alloc ?_ _)); refine blk_put (cs := #[.int .i64 ((rd_T52 l0_0 x21_2).f0), .int .i64 0, .string (⟨#[]⟩ : ByteArray), .bool false, .int .i64 0, .int .i64 0, .int .i64 0, .slice none 0 0, .int .i64 0]) ?_ 1 _ rfl; (with_reducible repeat (first | refine blk_drewN ?_ _ | refine blk_drew ?_ | refine blk_alloc ?_ _)); refine blk_put (cs := #[.int .i64 0, .int .i64 0, .string (⟨#[]⟩ : ByteArray), .bool false, .int .i64 0, .int .i64 0, .int .i64 0, .slice none 0 0, .int .i64 0]) ?_ 0 _ rfl; (with_reducible repeat (first | refine blk_drewN ?_ _ | refine blk_drew ?_ | refine blk_alloc ?_ _)); exact BK268.out)) : gb269 ≠ gb268)); clear HO_5; clear BK264; clear BK268; clear HB; have HO_5 := n0_; have BK264 := n1_; have BK268 := n2_; have HB := n3_; have BK269 := n4_; have GW269 := n5_; have GE269 := n6_; have NB264_269 := n7_; have NB269_264 := n8_; have NB268_269 := n9_; have NB269_268 := n10_; clear n0_ n1_ n2_ n3_ n4_ n5_ n6_ n7_ n8_ n9_ n10_; clear hb hbox hg; have hnb23 := NB269_264.out; have hnc23 := NB264_269.out; have hnb24 := NB269_268.out; have hnc24 := NB268_269.out; have hcz25_0 : w22.cell? ⟨gb269, 0, none⟩ = some (.int .i64 0) := (blk_cell BK269.out 0).trans rfl; have hcz25_1 : w22.cell? ⟨gb269, 1, none⟩ = some (.int .i64 0) := (blk_cell BK269.out 1).trans rfl; have hcz25_2 : w22.cell? ⟨gb269, 2, none⟩ = some (.string (⟨#[]⟩ : ByteArray)) := (blk_cell BK269.out 2).trans rfl; have hcz25_3 : w22.cell? ⟨gb269, 3, none⟩ = some (.bool false) := (blk_cell BK269.out 3).trans rfl; have hcz25_4 : w22.cell? ⟨gb269, 4, none⟩ = some (.int .i64 0) := (blk_cell BK269.out 4).trans rfl; have hcz25_5 : w22.cell? ⟨gb269, 5, none⟩ = some (.int .i64 0) := (blk_cell BK269.out 5).trans rfl; have hcz25_6 : w22.cell? ⟨gb269, 6, none⟩ = some (.int .i64 0) := (blk_cell BK269.out 6).trans rfl; have hcz25_7 : w22.cell? ⟨gb269, 7, none⟩ = some (.slice none 0 0) := (blk_cell BK269.out 7).trans rfl; have hcz25_8 : w22.cell? ⟨gb269, 8, none⟩ = some (.int .i64 0) := (blk_cell BK269.out 8).trans rfl; have hfz25_0 := blk_frozen BK269.out 0; have hfz25_1 := blk_frozen BK269.out 1; have hfz25_2 := blk_frozen BK269.out 2; have hfz25_3 := blk_frozen BK269.out 3; have hfz25_4 := blk_frozen BK269.out 4; have hfz25_5 := blk_frozen BK269.out 5; have hfz25_6 := blk_frozen BK269.out 6; have hfz25_7 := blk_frozen BK269.out 7; have hfz25_8 := blk_frozen BK269.out 8))
          go_loopg [] k2 (fun kq w' => ∃ (x270000_3 : Int) (x270001_3 : Int) (x270002_3 : ByteArray) (x270003_3 : Bool) (x270004_3 : Int) (x270005_3 : Int) (x270006_3 : Int) (x270007_3 : List (S64)) (x270008_3 : Int) (u270007 : Value), Aside0 (impl_BelowOf.l1 kq a1 x5_2 l0_0 (l0_0.length : Int) x21_2 l0_0 a0_1 ((rd_T52 l0_0 x21_2).f0) ((rd_T52 l0_0 x21_2).f1) ((rd_T52 l0_0 x21_2).f2) ((rd_T52 l0_0 x21_2).f3) ((rd_T52 l0_0 x21_2).f4) ((rd_T52 l0_0 x21_2).f5) ((rd_T52 l0_0 x21_2).f6) ((rd_T52 l0_0 x21_2).f7) ((rd_T52 l0_0 x21_2).f8) x270000_3 x270001_3 x270002_3 x270003_3 x270004_3 x270005_3 x270006_3 x270007_3 x270008_3 = some r) ∧ Aside0 (kq ≤ k2) ∧ Aside0 (Kd.R (Kd.int .i64) 3 w' w.heap.size (fun _ => True) u5 x5_2) ∧ Aside0 (w'.heap[gb264]? = some (.cells #[(.slice (some ad267) l0_0.length c0_0), .int .i64 a0_1] 29 (0, 0))) ∧ Aside0 (w'.heap[gb268]? = some (.cells #[.int .i64 ((rd_T52 l0_0 x21_2).f0), .int .i64 ((rd_T52 l0_0 x21_2).f1), .string ((rd_T52 l0_0 x21_2).f2), .bool ((rd_T52 l0_0 x21_2).f3), .int .i64 ((rd_T52 l0_0 x21_2).f4), .int .i64 ((rd_T52 l0_0 x21_2).f5), .int .i64 ((rd_T52 l0_0 x21_2).f6), (.slice A267_7 ((rd_T52 l0_0 x21_2).f7).length c267_7), .int .i64 ((rd_T52 l0_0 x21_2).f8)] 52 (0, 0))) ∧ Aside0 (w'.heap[gb269]? = some (.cells #[.int .i64 x270000_3, .int .i64 x270001_3, .string x270002_3, .bool x270003_3, .int .i64 x270004_3, .int .i64 x270005_3, .int .i64 x270006_3, u270007, .int .i64 x270008_3] 52 (0, 0))) ∧ Aside0 (Below w.heap.size w w'))
          case atStart => exact ⟨((rd_T52 l0_0 x21_2).f0), ((rd_T52 l0_0 x21_2).f1), ((rd_T52 l0_0 x21_2).f2), ((rd_T52 l0_0 x21_2).f3), ((rd_T52 l0_0 x21_2).f4), ((rd_T52 l0_0 x21_2).f5), ((rd_T52 l0_0 x21_2).f6), ((rd_T52 l0_0 x21_2).f7), ((rd_T52 l0_0 x21_2).f8), (.slice A267_7 ((rd_T52 l0_0 x21_2).f7).length c267_7), H', ⟨Nat.le_refl _⟩, ⟨by (with_reducible repeat (first | apply Kd.R_alloc | apply Kd.R_drewN | apply Kd.R_drew)); exact Kd.R_mono (Kd.R_far (p := ⟨gb269, 8, none⟩) (Kd.R_far (p := ⟨gb269, 7, none⟩) (Kd.R_far (p := ⟨gb269, 6, none⟩) (Kd.R_far (p := ⟨gb269, 5, none⟩) (Kd.R_far (p := ⟨gb269, 4, none⟩) (Kd.R_far (p := ⟨gb269, 3, none⟩) (Kd.R_far (p := ⟨gb269, 2, none⟩) (Kd.R_far (p := ⟨gb269, 1, none⟩) (Kd.R_far (p := ⟨gb269, 0, none⟩) (Kd.R_types HO_5.out BK269.out (by decide)) (fun _ hk => hk.2) (.int .i64 ((rd_T52 l0_0 x21_2).f0))) (fun _ hk => hk.2) (.int .i64 ((rd_T52 l0_0 x21_2).f1))) (fun _ hk => hk.2) (.string ((rd_T52 l0_0 x21_2).f2))) (fun _ hk => hk.2) (.bool ((rd_T52 l0_0 x21_2).f3))) (fun _ hk => hk.2) (.int .i64 ((rd_T52 l0_0 x21_2).f4))) (fun _ hk => hk.2) (.int .i64 ((rd_T52 l0_0 x21_2).f5))) (fun _ hk => hk.2) (.int .i64 ((rd_T52 l0_0 x21_2).f6))) (fun _ hk => hk.2) (.slice A267_7 ((rd_T52 l0_0 x21_2).f7).length c267_7)) (fun _ hk => hk.2) (.int .i64 ((rd_T52 l0_0 x21_2).f8))) (fun _ hk => trivial)⟩, ⟨by (with_reducible repeat (first | refine blk_drewN ?_ _ | refine blk_drew ?_ | refine blk_alloc ?_ _)); refine blk_far ?_ NB264_269.out _; (with_reducible repeat (first | refine blk_drewN ?_ _ | refine blk_drew ?_ | refine blk_alloc ?_ _)); refine blk_far ?_ NB264_269.out _; (with_reducible repeat (first | refine blk_drewN ?_ _ | refine blk_drew ?_ | refine blk_alloc ?_ _)); refine blk_far ?_ NB264_269.out _; (with_reducible repeat (first | refine blk_drewN ?_ _ | refine blk_drew ?_ | refine blk_alloc ?_ _)); refine blk_far ?_ NB264_269.out _; (with_reducible repeat (first | refine blk_drewN ?_ _ | refine blk_drew ?_ | refine blk_alloc ?_ _)); refine blk_far ?_ NB264_269.out _; (with_reducible repeat (first | refine blk_drewN ?_ _ | refine blk_drew ?_ | refine blk_alloc ?_ _)); refine blk_far ?_ NB264_269.out _; (with_reducible repeat (first | refine blk_drewN ?_ _ | refine blk_drew ?_ | refine blk_alloc ?_ _)); refine blk_far ?_ NB264_269.out _; (with_reducible repeat (first | refine blk_drewN ?_ _ | refine blk_drew ?_ | refine blk_alloc ?_ _)); refine blk_far ?_ NB264_269.out _; (with_reducible repeat (first | refine blk_drewN ?_ _ | refine blk_drew ?_ | refine blk_alloc ?_ _)); refine blk_far ?_ NB264_269.out _; (with_reducible repeat (first | refine blk_drewN ?_ _ | refine blk_drew ?_ | refine blk_alloc ?_ _)); exact BK264.out⟩, ⟨by (with_reducible repeat (first | refine blk_drewN ?_ _ | refine blk_drew ?_ | refine blk_alloc ?_ _)); refine blk_far ?_ NB268_269.out _; (with_reducible repeat (first | refine blk_drewN ?_ _ | refine blk_drew ?_ | refine blk_alloc ?_ _)); refine blk_far ?_ NB268_269.out _; (with_reducible repeat (first | refine blk_drewN ?_ _ | refine blk_drew ?_ | refine blk_alloc ?_ _)); refine blk_far ?_ NB268_269.out _; (with_reducible repeat (first | refine blk_drewN ?_ _ | refine blk_drew ?_ | refine blk_alloc ?_ _)); refine blk_far ?_ NB268_269.out _; (with_reducible repeat (first | refine blk_drewN ?_ _ | refine blk_drew ?_ | refine blk_alloc ?_ _)); refine blk_far ?_ NB268_269.out _; (with_reducible repeat (first | refine blk_drewN ?_ _ | refine blk_drew ?_ | refine blk_alloc ?_ _)); refine blk_far ?_ NB268_269.out _; (with_reducible repeat (first | refine blk_drewN ?_ _ | refine blk_drew ?_ | refine blk_alloc ?_ _)); refine blk_far ?_ NB268_269.out _; (with_reducible repeat (first | refine blk_drewN ?_ _ | refine blk_drew ?_ | refine blk_alloc ?_ _)); refine blk_far ?_ NB268_269.out _; (with_reducible repeat (first | refine blk_drewN ?_ _ | refine blk_drew ?_ | refine blk_alloc ?_ _)); refine blk_far ?_ NB268_269.out _; (with_reducible repeat (first | refine blk_drewN ?_ _ | refine blk_drew ?_ | refine blk_alloc ?_ _)); exact BK268.out⟩, ⟨by (with_reducible repeat (first | refine blk_drewN ?_ _ | refine blk_drew ?_ | refine blk_alloc ?_ _)); refine blk_put (cs := #[.int .i64 ((rd_T52 l0_0 x21_2).f0), .int .i64 ((rd_T52 l0_0 x21_2).f1), .string ((rd_T52 l0_0 x21_2).f2), .bool ((rd_T52 l0_0 x21_2).f3), .int .i64 ((rd_T52 l0_0 x21_2).f4), .int .i64 ((rd_T52 l0_0 x21_2).f5), .int .i64 ((rd_T52 l0_0 x21_2).f6), .slice A267_7 ((rd_T52 l0_0 x21_2).f7).length c267_7, .int .i64 0]) ?_ 8 _ rfl; (with_reducible repeat (first | refine blk_drewN ?_ _ | refine blk_drew ?_ | refine blk_alloc ?_ _)); refine blk_put (cs := #[.int .i64 ((rd_T52 l0_0 x21_2).f0), .int .i64 ((rd_T52 l0_0 x21_2).f1), .string ((rd_T52 l0_0 x21_2).f2), .bool ((rd_T52 l0_0 x21_2).f3), .int .i64 ((rd_T52 l0_0 x21_2).f4), .int .i64 ((rd_T52 l0_0 x21_2).f5), .int .i64 ((rd_T52 l0_0 x21_2).f6), .slice none 0 0, .int .i64 0]) ?_ 7 _ rfl; (with_reducible repeat (first | refine blk_drewN ?_ _ | refine blk_drew ?_ | refine blk_alloc ?_ _)); refine blk_put (cs := #[.int .i64 ((rd_T52 l0_0 x21_2).f0), .int .i64 ((rd_T52 l0_0 x21_2).f1), .string ((rd_T52 l0_0 x21_2).f2), .bool ((rd_T52 l0_0 x21_2).f3), .int .i64 ((rd_T52 l0_0 x21_2).f4), .int .i64 ((rd_T52 l0_0 x21_2).f5), .int .i64 0, .slice none 0 0, .int .i64 0]) ?_ 6 _ rfl; (with_reducible repeat (first | refine blk_drewN ?_ _ | refine blk_drew ?_ | refine blk_alloc ?_ _)); refine blk_put (cs := #[.int .i64 ((rd_T52 l0_0 x21_2).f0), .int .i64 ((rd_T52 l0_0 x21_2).f1), .string ((rd_T52 l0_0 x21_2).f2), .bool ((rd_T52 l0_0 x21_2).f3), .int .i64 ((rd_T52 l0_0 x21_2).f4), .int .i64 0, .int .i64 0, .slice none 0 0, .int .i64 0]) ?_ 5 _ rfl; (with_reducible repeat (first | refine blk_drewN ?_ _ | refine blk_drew ?_ | refine blk_alloc ?_ _)); refine blk_put (cs := #[.int .i64 ((rd_T52 l0_0 x21_2).f0), .int .i64 ((rd_T52 l0_0 x21_2).f1), .string ((rd_T52 l0_0 x21_2).f2), .bool ((rd_T52 l0_0 x21_2).f3), .int .i64 0, .int .i64 0, .int .i64 0, .slice none 0 0, .int .i64 0]) ?_ 4 _ rfl; (with_reducible repeat (first | refine blk_drewN ?_ _ | refine blk_drew ?_ | refine blk_alloc ?_ _)); refine blk_put (cs := #[.int .i64 ((rd_T52 l0_0 x21_2).f0), .int .i64 ((rd_T52 l0_0 x21_2).f1), .string ((rd_T52 l0_0 x21_2).f2), .bool false, .int .i64 0, .int .i64 0, .int .i64 0, .slice none 0 0, .int .i64 0]) ?_ 3 _ rfl; (with_reducible repeat (first | refine blk_drewN ?_ _ | refine blk_drew ?_ | refine blk_alloc ?_ _)); refine blk_put (cs := #[.int .i64 ((rd_T52 l0_0 x21_2).f0), .int .i64 ((rd_T52 l0_0 x21_2).f1), .string (⟨#[]⟩ : ByteArray), .bool false, .int .i64 0, .int .i64 0, .int .i64 0, .slice none 0 0, .int .i64 0]) ?_ 2 _ rfl; (with_reducible repeat (first | refine blk_drewN ?_ _ | refine blk_drew ?_ | refine blk_alloc ?_ _)); refine blk_put (cs := #[.int .i64 ((rd_T52 l0_0 x21_2).f0), .int .i64 0, .string (⟨#[]⟩ : ByteArray), .bool false, .int .i64 0, .int .i64 0, .int .i64 0, .slice none 0 0, .int .i64 0]) ?_ 1 _ rfl; (with_reducible repeat (first | refine blk_drewN ?_ _ | refine blk_drew ?_ | refine blk_alloc ?_ _)); refine blk_put (cs := #[.int .i64 0, .int .i64 0, .string (⟨#[]⟩ : ByteArray), .bool false, .int .i64 0, .int .i64 0, .int .i64 0, .slice none 0 0, .int .i64 0]) ?_ 0 _ rfl; (with_reducible repeat (first | refine blk_drewN ?_ _ | refine blk_drew ?_ | refine blk_alloc ?_ _)); exact BK269.out⟩, ⟨pl3 HB.out GE264.out GE268.out GE269.out⟩⟩
          case round =>
           clear H'
           try clear c16; try clear c16b0; try clear c17; try clear c17b0; try clear c18; try clear c18b0; try clear hcz21_0; try clear hcz21_1; try clear hcz21_2; try clear hcz21_3; try clear hcz21_4; try clear hcz21_5; try clear hcz21_6; try clear hcz21_7; try clear hcz21_8; try clear hcz25_0; try clear hcz25_1; try clear hcz25_2; try clear hcz25_3; try clear hcz25_4; try clear hcz25_5; try clear hcz25_6; try clear hcz25_7; try clear hcz25_8; try clear hfz21_0; try clear hfz21_1; try clear hfz21_2; try clear hfz21_3; try clear hfz21_4; try clear hfz21_5; try clear hfz21_6; try clear hfz21_7; try clear hfz21_8; try clear hfz25_0; try clear hfz25_1; try clear hfz25_2; try clear hfz25_3; try clear hfz25_4; try clear hfz25_5; try clear hfz25_6; try clear hfz25_7; try clear hfz25_8; try clear hx267_0; try clear hx267_1; try clear hx267_2; try clear hx267_3; try clear hx267_4; try clear hx267_5; try clear hx267_6; try clear hx267_7; try clear hx267_8; try clear p267; try clear q267
           obtain ⟨x270000_3, x270001_3, x270002_3, x270003_3, x270004_3, x270005_3, x270006_3, x270007_3, x270008_3, u270007, HA, HK3, HO_5, BK264, BK268, BK269, HB⟩ := hrel
           cases gk with
           | zero => exact absurd HA.out (by simp [impl_BelowOf.l1])
           | succ k3 =>
            have H := HA.out
            clear HA
            simp only [impl_BelowOf.l1] at H
            by_cases c26 : x270000_3 = a1
            ·rw [if_pos c26] at H
             have c26b0 : (x270000_3 == a1) = true := beq_iff_eq.mpr c26
             have c26b1 : (x270000_3 != a1) = false := bne_eq_false_iff_eq.mpr c26
             clear c26
             by_cases c27 : x5_2.length < 17592186044416
             ·rw [if_pos c27] at H
              have LMc27 := Aside0.mk c27
              clear c27
              obtain ⟨y270, hy270⟩ : ∃ y_ : List Int, y_ = (x5_2 ++ [((rd_T52 l0_0 x21_2).f0)]) := ⟨_, rfl⟩
              replace H : (impl_BelowOf.l0 k3 a1 y270 l0_0 (l0_0.length : Int) (wrap64 (x21_2 + 1)) l0_0 a0_1) = some r := by first | (rw [hy270]; with_reducible exact H) | (have H2_ := (Option.bind_some _ _).symm.trans H; rw [hy270]; with_reducible exact H2_) | (have H2_ := (Option.bind_some _ _).symm.trans H; with_reducible exact H2_) | with_reducible exact H | (rw [hy270]; exact H) | exact H
              have Ny270 := Aside0.mk hy270
              clear hy270
              have H' := Aside0.mk H
              clear H
              have hnb28 := NB269_264.out
              have hnc28 := NB264_269.out
              have hnb29 := NB269_268.out
              have hnc29 := NB268_269.out
              obtain ⟨hcz30_0, hcz30_1, hcz30_2, hcz30_3, hcz30_4, hcz30_5, hcz30_6, hcz30_7, hcz30_8, hfz30_0, hfz30_1, hfz30_2, hfz30_3, hfz30_4, hfz30_5, hfz30_6, hfz30_7, hfz30_8⟩ := z9 BK269.out
              have hnb31 := NB268_264.out
              have hnc31 := NB264_268.out
              obtain ⟨hcz32_0, hcz32_1, hcz32_2, hcz32_3, hcz32_4, hcz32_5, hcz32_6, hcz32_7, hcz32_8, hfz32_0, hfz32_1, hfz32_2, hfz32_3, hfz32_4, hfz32_5, hfz32_6, hfz32_7, hfz32_8⟩ := z9 BK268.out
              go_wp2_with (first | ((with_reducible refine gate_builtin (b := .append) (xs := #[.tmp 47, .tmp 50]) rfl ?_); at_builtin; refine Kd.R_append (Kd.int .i64) (w0 := w) w.heap.size rfl (.tmp 47) (.tmp 50) 38 3 (.int .i64 0) 8 rfl Try.underlying38 info3 rfl (by decide) (by omega) u5 x5_2 ((rd_T52 l0_0 x21_2).f0) [.int .i64 ((rd_T52 l0_0 x21_2).f0)] (fun _ => True) (fun _ => False) rfl rfl ?aP (fun _ hk => hk.elim) ?aF ?aO ?aB ?aS ?aL ?_; (case aP => exact rfl); (case aB => exact (pl3 HB.out GE264.out GE268.out GE269.out)); (case aF => exact (fun _ _ => trivial)); (case aO => exact (by (with_reducible repeat (first | apply Kd.R_alloc | apply Kd.R_drewN | apply Kd.R_drew)); exact HO_5.out)); (case aS => exact (below_size (pl3 HB.out GE264.out GE268.out GE269.out))); (case aL => have := LMc27.out; omega); intro v271 w33 ho hb hg hat; rw [← Ny270.out] at ho; have n0_ := Aside0.mk (blk_grown (g := gb264) (o := .cells #[.slice (some ad267) l0_0.length c0_0, .int .i64 a0_1] 29 (0, 0)) (pk BK264.out) hg (Kd.R_ne HO_5.out BK264.out (by decide))); have n1_ := Aside0.mk (blk_grown (g := gb268) (o := .cells #[.int .i64 ((rd_T52 l0_0 x21_2).f0), .int .i64 ((rd_T52 l0_0 x21_2).f1), .string ((rd_T52 l0_0 x21_2).f2), .bool ((rd_T52 l0_0 x21_2).f3), .int .i64 ((rd_T52 l0_0 x21_2).f4), .int .i64 ((rd_T52 l0_0 x21_2).f5), .int .i64 ((rd_T52 l0_0 x21_2).f6), .slice A267_7 ((rd_T52 l0_0 x21_2).f7).length c267_7, .int .i64 ((rd_T52 l0_0 x21_2).f8)] 52 (0, 0)) (pk BK268.out) hg (Kd.R_ne HO_5.out BK268.out (by decide))); have n2_ := Aside0.mk (blk_grown (g := gb269) (o := .cells #[.int .i64 x270000_3, .int .i64 x270001_3, .string x270002_3, .bool x270003_3, .int .i64 x270004_3, .int .i64 x270005_3, .int .i64 x270006_3, u270007, .int .i64 x270008_3] 52 (0, 0)) (pk BK269.out) hg (Kd.R_ne HO_5.out BK269.out (by decide))); have n3_ := Aside0.mk (hb); have n4_ := Aside0.mk (ho); clear BK264; clear BK268; clear BK269; clear HB; clear HO_5; have BK264 := n0_; have BK268 := n1_; have BK269 := n2_; have HB := n3_; have HO272 := n4_; clear n0_ n1_ n2_ n3_ n4_; clear ho hb hg hat))
              go_roundg k3
              case measure => have := HJ2.out; have := HK2.out; have := HK3.out; omega
              case rel => exact ⟨(y270), (wrap64 (x21_2 + 1)), eqa, H', ⟨by have := HJ2.out; have := HK2.out; have := HK3.out; omega⟩, ⟨by (with_reducible repeat (first | apply Kd.R_alloc | apply Kd.R_drewN | apply Kd.R_drew)); exact HO272.out⟩, ⟨pk BK264.out⟩, ⟨pl3 HB.out GE264.out GE268.out GE269.out⟩⟩
             ·rw [if_neg c27] at H
              exact absurd H (by simp)
            ·rw [if_neg c26] at H
             have c26b0 : (x270000_3 == a1) = false := beq_eq_false_iff_ne.mpr c26
             have c26b1 : (x270000_3 != a1) = true := bne_iff_ne.mpr c26
             by_cases c34 : x270000_3 = 1
             ·rw [if_pos c34] at H
              have c34b0 : (x270000_3 == 1) = true := beq_iff_eq.mpr c34
              have c34b1 : (x270000_3 != 1) = false := bne_eq_false_iff_eq.mpr c34
              clear c34
              have H' := Aside0.mk H
              clear H
              have hnb35 := NB269_264.out
              have hnc35 := NB264_269.out
              have hnb36 := NB269_268.out
              have hnc36 := NB268_269.out
              obtain ⟨hcz37_0, hcz37_1, hcz37_2, hcz37_3, hcz37_4, hcz37_5, hcz37_6, hcz37_7, hcz37_8, hfz37_0, hfz37_1, hfz37_2, hfz37_3, hfz37_4, hfz37_5, hfz37_6, hfz37_7, hfz37_8⟩ := z9 BK269.out
              go_wp2
              go_roundg k3
              case measure => have := HJ2.out; have := HK2.out; have := HK3.out; omega
              case rel => exact ⟨(x5_2), (wrap64 (x21_2 + 1)), eqa, H', ⟨by have := HJ2.out; have := HK2.out; have := HK3.out; omega⟩, ⟨by (with_reducible repeat (first | apply Kd.R_alloc | apply Kd.R_drewN | apply Kd.R_drew)); exact HO_5.out⟩, ⟨pk BK264.out⟩, ⟨pl3 HB.out GE264.out GE268.out GE269.out⟩⟩
             ·rw [if_neg c34] at H
              have c34b0 : (x270000_3 == 1) = false := beq_eq_false_iff_ne.mpr c34
              have c34b1 : (x270000_3 != 1) = true := bne_iff_ne.mpr c34
              replace H := Option.bind_eq_some_iff.mp H
              obtain ⟨t273, A380, H⟩ := H
              replace H : (if 0 ≤ t273 then (if t273 < (l0_0.length : Int) then (impl_BelowOf.l1 k3 a1 x5_2 l0_0 (l0_0.length : Int) x21_2 l0_0 a0_1 ((rd_T52 l0_0 x21_2).f0) ((rd_T52 l0_0 x21_2).f1) ((rd_T52 l0_0 x21_2).f2) ((rd_T52 l0_0 x21_2).f3) ((rd_T52 l0_0 x21_2).f4) ((rd_T52 l0_0 x21_2).f5) ((rd_T52 l0_0 x21_2).f6) ((rd_T52 l0_0 x21_2).f7) ((rd_T52 l0_0 x21_2).f8) ((rd_T52 l0_0 t273).f0) ((rd_T52 l0_0 t273).f1) ((rd_T52 l0_0 t273).f2) ((rd_T52 l0_0 t273).f3) ((rd_T52 l0_0 t273).f4) ((rd_T52 l0_0 t273).f5) ((rd_T52 l0_0 t273).f6) ((rd_T52 l0_0 t273).f7) ((rd_T52 l0_0 t273).f8)) else (none)) else (none)) = some r := H
              have A38 := Aside0.mk A380
              clear A380
              by_cases c39 : 0 ≤ t273
              ·rw [if_pos c39] at H
               have c39b0 : decide (0 ≤ t273) = true := decide_eq_true c39
               clear c39
               by_cases c40 : t273 < (l0_0.length : Int)
               ·rw [if_pos c40] at H
                have c40b0 : decide (t273 < (l0_0.length : Int)) = true := decide_eq_true c40
                clear c40
                have H' := Aside0.mk H
                clear H
                have hnb41 := NB269_264.out
                have hnc41 := NB264_269.out
                have hnb42 := NB269_268.out
                have hnc42 := NB268_269.out
                obtain ⟨hcz43_0, hcz43_1, hcz43_2, hcz43_3, hcz43_4, hcz43_5, hcz43_6, hcz43_7, hcz43_8, hfz43_0, hfz43_1, hfz43_2, hfz43_3, hfz43_4, hfz43_5, hfz43_6, hfz43_7, hfz43_8⟩ := z9 BK269.out
                try go_wp2
                have n0_ := Aside0.mk (Kd.R_drew HO_5.out)
                have n1_ := Aside0.mk (blk_drew BK264.out)
                have n2_ := Aside0.mk (blk_drew BK268.out)
                have n3_ := Aside0.mk (blk_drew BK269.out)
                have n4_ := Aside0.mk (below_drew1 HB.out)
                clear HO_5
                clear BK264
                clear BK268
                clear BK269
                clear HB
                have HO_5 := n0_
                have BK264 := n1_
                have BK268 := n2_
                have BK269 := n3_
                have HB := n4_
                clear n0_ n1_ n2_ n3_ n4_
                have p274 : 0 ≤ (t273 : Int) := oda
                have q274 : t273 < (l0_0.length : Int) := oda
                obtain ⟨ad274, A274_7, c274_7, e274, hx274_0, hx274_1, hx274_2, hx274_3, hx274_4, hx274_5, hx274_6, hx274_7, hx274_8, hl274_7, hi274_7⟩ := at_T52 HR0_0.out t273 p274 q274
                have hw274_8 := hx274_8
                have hw274_7 := hx274_7
                have hw274_6 := hx274_6
                have hw274_5 := hx274_5
                have hw274_4 := hx274_4
                have hw274_3 := hx274_3
                have hw274_2 := hx274_2
                have hw274_1 := hx274_1
                have hw274_0 := hx274_0
                obtain rfl : ad267 = ad274 := (by injection e274)
                replace hx274_0 := hbc HB.out hx274_0
                replace hx274_1 := hbc HB.out hx274_1
                replace hx274_2 := hbc HB.out hx274_2
                replace hx274_3 := hbc HB.out hx274_3
                replace hx274_4 := hbc HB.out hx274_4
                replace hx274_5 := hbc HB.out hx274_5
                replace hx274_6 := hbc HB.out hx274_6
                replace hx274_7 := hbc HB.out hx274_7
                replace hx274_8 := hbc HB.out hx274_8
                have HR274_7 := Aside0.mk hi274_7
                have HC274_7 := Aside0.mk hl274_7
                clear hi274_7 hl274_7
                replace p274 := eq_true p274
                replace q274 := eq_true q274
                refine start_ (n := 9) (S := fun w' => w'.cell? ⟨gb264, 0, none⟩ = some (.slice (some ad267) l0_0.length c0_0) ∧ w'.cell? ⟨gb264, 1, none⟩ = some (.int .i64 a0_1) ∧ w'.cell? ⟨gb269, 0, none⟩ = some (.int .i64 x270000_3) ∧ w'.cell? ⟨gb269, 1, none⟩ = some (.int .i64 x270001_3) ∧ w'.cell? ⟨gb269, 2, none⟩ = some (.string x270002_3) ∧ w'.cell? ⟨gb269, 3, none⟩ = some (.bool x270003_3) ∧ w'.cell? ⟨gb269, 4, none⟩ = some (.int .i64 x270004_3) ∧ w'.cell? ⟨gb269, 5, none⟩ = some (.int .i64 x270005_3) ∧ w'.cell? ⟨gb269, 6, none⟩ = some (.int .i64 x270006_3) ∧ w'.cell? ⟨gb269, 7, none⟩ = some (u270007) ∧ w'.cell? ⟨gb269, 8, none⟩ = some (.int .i64 x270008_3) ∧ w'.cell? (ad267.add ((t273).toNat * 9)) = some (.int .i64 ((rd_T52 l0_0 t273).f0)) ∧ w'.cell? ⟨(ad267.add ((t273).toNat * 9)).block, (ad267.add ((t273).toNat * 9)).off + 1, none⟩ = some (.int .i64 ((rd_T52 l0_0 t273).f1)) ∧ w'.cell? ⟨(ad267.add ((t273).toNat * 9)).block, (ad267.add ((t273).toNat * 9)).off + 2, none⟩ = some (.string ((rd_T52 l0_0 t273).f2)) ∧ w'.cell? ⟨(ad267.add ((t273).toNat * 9)).block, (ad267.add ((t273).toNat * 9)).off + 3, none⟩ = some (.bool ((rd_T52 l0_0 t273).f3)) ∧ w'.cell? ⟨(ad267.add ((t273).toNat * 9)).block, (ad267.add ((t273).toNat * 9)).off + 4, none⟩ = some (.int .i64 ((rd_T52 l0_0 t273).f4)) ∧ w'.cell? ⟨(ad267.add ((t273).toNat * 9)).block, (ad267.add ((t273).toNat * 9)).off + 5, none⟩ = some (.int .i64 ((rd_T52 l0_0 t273).f5)) ∧ w'.cell? ⟨(ad267.add ((t273).toNat * 9)).block, (ad267.add ((t273).toNat * 9)).off + 6, none⟩ = some (.int .i64 ((rd_T52 l0_0 t273).f6)) ∧ w'.cell? ⟨(ad267.add ((t273).toNat * 9)).block, (ad267.add ((t273).toNat * 9)).off + 7, none⟩ = some (.slice A274_7 ((rd_T52 l0_0 t273).f7).length c274_7) ∧ w'.cell? ⟨(ad267.add ((t273).toNat * 9)).block, (ad267.add ((t273).toNat * 9)).off + 8, none⟩ = some (.int .i64 ((rd_T52 l0_0 t273).f8))) (ds := [8]) #[O,O,O,O,O,O,O,O,O] (by kernel_rfl) rfl rfl ⟨(blk_cell BK264.out 0).trans rfl, (blk_cell BK264.out 1).trans rfl, (blk_cell BK269.out 0).trans rfl, (blk_cell BK269.out 1).trans rfl, (blk_cell BK269.out 2).trans rfl, (blk_cell BK269.out 3).trans rfl, (blk_cell BK269.out 4).trans rfl, (blk_cell BK269.out 5).trans rfl, (blk_cell BK269.out 6).trans rfl, (blk_cell BK269.out 7).trans rfl, (blk_cell BK269.out 8).trans rfl, ((HB.out.cell (World.block_lt_of_cell? w _ hw274_0)).trans hw274_0), ((HB.out.cell (World.block_lt_of_cell? w _ hw274_1)).trans hw274_1), ((HB.out.cell (World.block_lt_of_cell? w _ hw274_2)).trans hw274_2), ((HB.out.cell (World.block_lt_of_cell? w _ hw274_3)).trans hw274_3), ((HB.out.cell (World.block_lt_of_cell? w _ hw274_4)).trans hw274_4), ((HB.out.cell (World.block_lt_of_cell? w _ hw274_5)).trans hw274_5), ((HB.out.cell (World.block_lt_of_cell? w _ hw274_6)).trans hw274_6), ((HB.out.cell (World.block_lt_of_cell? w _ hw274_7)).trans hw274_7), ((HB.out.cell (World.block_lt_of_cell? w _ hw274_8)).trans hw274_8)⟩ (fun hHeld => ?_); refine with_tabW impl_BelowOf.tab9 impl_BelowOf.bits9 (fun HT_ HW_ => ?_)
                generalize wr.drew = w44 at HO_5 BK264 BK268 BK269 HB HR274_7 hx274_0 hx274_1 hx274_2 hx274_3 hx274_4 hx274_5 hx274_6 hx274_7 hx274_8 hHeld ⊢
                refine pz 0 35 #[Y,O,O,O,O,O,O,O,O] HT_ ?_
                refine pure_ (i := 3) (N := some 38) (v := ?_) (a' := ?_) #[Y,O,O,Y,O,O,O,O,O] rfl rfl (any_of HT_.out (by kernel_rfl)) (fun _ _ _ h => h) (Or.inl ⟨by rfl, ?_⟩) ?_ ?_
                rotate_left
                ·intro w'
                 go_simp
                 with_reducible rfl
                rotate_left
                ·simp only [Act.put, List.setIfInBounds_toArray, List.set_cons_zero, List.set_cons_succ, i64_w, i32_w]
                 rfl
                refine take_ (i := 1) (N := some 36) (v := ?_) (a' := ?_) #[Y,Y,O,Y,O,O,O,O,O] rfl rfl (take_ofW HT_.out HW_.out (by kernel_rfl)) (fun _ _ _ h => h) (Or.inl ⟨by rfl, ?_⟩) hHeld ?_ ?_
                rotate_left
                ·rintro w' ⟨s0, s1, s2, s3, s4, s5, s6, s7, s8, s9, s10, s11, s12, s13, s14, s15, s16, s17, s18, s19⟩
                 go_simp
                 with_reducible rfl
                rotate_left
                ·simp only [Act.put, List.setIfInBounds_toArray, List.set_cons_zero, List.set_cons_succ, i64_w, i32_w]
                 rfl
                refine take_ (i := 2) (N := some 37) (v := ?_) (a' := ?_) #[Y,Y,Y,Y,O,O,O,O,O] rfl rfl (take_ofW HT_.out HW_.out (by kernel_rfl)) (fun _ _ _ h => h) (Or.inl ⟨by rfl, ?_⟩) hHeld ?_ ?_
                rotate_left
                ·rintro w' ⟨s0, s1, s2, s3, s4, s5, s6, s7, s8, s9, s10, s11, s12, s13, s14, s15, s16, s17, s18, s19⟩
                 go_simp
                 with_reducible rfl
                rotate_left
                ·simp only [Act.put, List.setIfInBounds_toArray, List.set_cons_zero, List.set_cons_succ, i64_w, i32_w]
                 rfl
                refine tz 4 39 #[Y,Y,Y,Y,Y,O,O,O,O] HT_ HW_ hHeld ?_ (hr := by rintro w' ⟨s0, s1, s2, s3, s4, s5, s6, s7, s8, s9, s10, s11, s12, s13, s14, s15, s16, s17, s18, s19⟩; go_simp; with_reducible rfl)
                refine one_ (i := 5) (N := some 40) #[Y,Y,Y,Y,Y,Y,O,O,O] rfl rfl (one_of HT_.out (by kernel_rfl)) (by decide) (fun K hK => ?_)
                refine goes_ Try.func49 (by kernel_rfl) rfl #[.agg #[.slice (some ad267) l0_0.length c0_0, .int .i64 a0_1], .int .i64 x270001_3] (by rfl) rfl rfl (by (try simp only [List.map_toArray, List.map_cons, List.map_nil]); first | done | rfl | (simp only [List.length_drop, List.length_take]; rfl)) ?_
                with_reducible refine (impl_nodeAt.calls k3 _ _ l0_0 a0_1 x270001_3 t273 _ ?side1 ?side2 A38.out).mono ?_
                (case side1 => exact pc (Kd.C_below HR0_0.out HB.out))
                (case side2 => exact HC0_0.out)
                rintro e w45 ⟨rfl, hb⟩
                refine ⟨_, rfl, ?_⟩
                have n0_ := Aside0.mk (Kd.R_below (by (with_reducible repeat (first | apply Kd.R_alloc | apply Kd.R_drewN | apply Kd.R_drew)); exact HO_5.out) hb)
                have n1_ := Aside0.mk (pb BK264.out hb)
                have n2_ := Aside0.mk (pb BK268.out hb)
                have n3_ := Aside0.mk (pb BK269.out hb)
                have n4_ := Aside0.mk (below_step (pl3 HB.out GE264.out GE268.out GE269.out) hb)
                clear HO_5
                clear BK264
                clear BK268
                clear BK269
                clear HB
                have HO_5 := n0_
                have BK264 := n1_
                have BK268 := n2_
                have BK269 := n3_
                have HB := n4_
                clear n0_ n1_ n2_ n3_ n4_
                (try clear hb)
                (try clear hb2)
                (try clear hk)
                (try clear hi)
                refine hK.out _ _ ⟨(blk_cell BK264.out 0).trans rfl, (blk_cell BK264.out 1).trans rfl, (blk_cell BK269.out 0).trans rfl, (blk_cell BK269.out 1).trans rfl, (blk_cell BK269.out 2).trans rfl, (blk_cell BK269.out 3).trans rfl, (blk_cell BK269.out 4).trans rfl, (blk_cell BK269.out 5).trans rfl, (blk_cell BK269.out 6).trans rfl, (blk_cell BK269.out 7).trans rfl, (blk_cell BK269.out 8).trans rfl, ((HB.out.cell (World.block_lt_of_cell? w _ hw274_0)).trans hw274_0), ((HB.out.cell (World.block_lt_of_cell? w _ hw274_1)).trans hw274_1), ((HB.out.cell (World.block_lt_of_cell? w _ hw274_2)).trans hw274_2), ((HB.out.cell (World.block_lt_of_cell? w _ hw274_3)).trans hw274_3), ((HB.out.cell (World.block_lt_of_cell? w _ hw274_4)).trans hw274_4), ((HB.out.cell (World.block_lt_of_cell? w _ hw274_5)).trans hw274_5), ((HB.out.cell (World.block_lt_of_cell? w _ hw274_6)).trans hw274_6), ((HB.out.cell (World.block_lt_of_cell? w _ hw274_7)).trans hw274_7), ((HB.out.cell (World.block_lt_of_cell? w _ hw274_8)).trans hw274_8)⟩ (fun hHeld => ?_)
                clear hK K
                refine norm_ (a' := ?_) ?_ ?_
                rotate_left
                ·show Act.put _ (some 40) _ = _
                 simp only [Act.put, List.setIfInBounds_toArray, List.set_cons_zero, List.set_cons_succ, i64_w, i32_w]
                 rfl
                refine pz 6 41 #[Y,Y,Y,Y,Y,Y,Y,O,O] HT_ ?_
                refine tz 7 42 #[Y,Y,Y,Y,Y,Y,Y,Y,O] HT_ HW_ hHeld ?_ (hr := by rintro w' ⟨s0, s1, s2, s3, s4, s5, s6, s7, s8, s9, s10, s11, s12, s13, s14, s15, s16, s17, s18, s19⟩; go_simp; with_reducible rfl)
                refine last_ (i := 8) (N := none) #[Y,Y,Y,Y,Y,Y,Y,Y,Y] rfl rfl (one_of HT_.out (by kernel_rfl)) (by decide) (fun K hK => ?_)
                have hs46 : w45.cell? ⟨gb269, 0, none⟩ = some (.int .i64 x270000_3) := (blk_cell BK269.out 0).trans rfl
                have hfs46 := blk_frozen BK269.out 0
                have hns46_0 := NB264_269.out
                have hns46_1 := NB268_269.out
                have hms46_0 := NB269_264.out
                have hms46_1 := NB269_268.out
                have hs47 : w45.cell? ⟨gb269, 1, none⟩ = some (.int .i64 x270001_3) := (blk_cell BK269.out 1).trans rfl
                have hfs47 := blk_frozen BK269.out 1
                have hns47_0 := NB264_269.out
                have hns47_1 := NB268_269.out
                have hms47_0 := NB269_264.out
                have hms47_1 := NB269_268.out
                have hs48 : w45.cell? ⟨gb269, 2, none⟩ = some (.string x270002_3) := (blk_cell BK269.out 2).trans rfl
                have hfs48 := blk_frozen BK269.out 2
                have hns48_0 := NB264_269.out
                have hns48_1 := NB268_269.out
                have hms48_0 := NB269_264.out
                have hms48_1 := NB269_268.out
                have hs49 : w45.cell? ⟨gb269, 3, none⟩ = some (.bool x270003_3) := (blk_cell BK269.out 3).trans rfl
                have hfs49 := blk_frozen BK269.out 3
                have hns49_0 := NB264_269.out
                have hns49_1 := NB268_269.out
                have hms49_0 := NB269_264.out
                have hms49_1 := NB269_268.out
                have hs50 : w45.cell? ⟨gb269, 4, none⟩ = some (.int .i64 x270004_3) := (blk_cell BK269.out 4).trans rfl
                have hfs50 := blk_frozen BK269.out 4
                have hns50_0 := NB264_269.out
                have hns50_1 := NB268_269.out
                have hms50_0 := NB269_264.out
                have hms50_1 := NB269_268.out
                have hs51 : w45.cell? ⟨gb269, 5, none⟩ = some (.int .i64 x270005_3) := (blk_cell BK269.out 5).trans rfl
                have hfs51 := blk_frozen BK269.out 5
                have hns51_0 := NB264_269.out
                have hns51_1 := NB268_269.out
                have hms51_0 := NB269_264.out
                have hms51_1 := NB269_268.out
                have hs52 : w45.cell? ⟨gb269, 6, none⟩ = some (.int .i64 x270006_3) := (blk_cell BK269.out 6).trans rfl
                have hfs52 := blk_frozen BK269.out 6
                have hns52_0 := NB264_269.out
                have hns52_1 := NB268_269.out
                have hms52_0 := NB269_264.out
                have hms52_1 := NB269_268.out
                have hs53 : w45.cell? ⟨gb269, 7, none⟩ = some (u270007) := (blk_cell BK269.out 7).trans rfl
                have hfs53 := blk_frozen BK269.out 7
                have hns53_0 := NB264_269.out
                have hns53_1 := NB268_269.out
                have hms53_0 := NB269_264.out
                have hms53_1 := NB269_268.out
                have hs54 : w45.cell? ⟨gb269, 8, none⟩ = some (.int .i64 x270008_3) := (blk_cell BK269.out 8).trans rfl
                have hfs54 := blk_frozen BK269.out 8
                have hns54_0 := NB264_269.out
                have hns54_1 := NB268_269.out
                have hms54_0 := NB269_264.out
                have hms54_1 := NB269_268.out
                refine skip_ (w1 := ?_) (by rfl) rfl ?_ ?_
                rotate_left
                ·go_simp
                 rfl
                refine hK.out _ _ ?_
                clear hK K
                refine done_ (done_of HT_.out (by kernel_rfl)) ?_
                try go_wp2
                go_roundg k3
                case measure => have := HJ2.out; have := HK2.out; have := HK3.out; omega
                case rel => exact ⟨((rd_T52 l0_0 t273).f0), ((rd_T52 l0_0 t273).f1), ((rd_T52 l0_0 t273).f2), ((rd_T52 l0_0 t273).f3), ((rd_T52 l0_0 t273).f4), ((rd_T52 l0_0 t273).f5), ((rd_T52 l0_0 t273).f6), ((rd_T52 l0_0 t273).f7), ((rd_T52 l0_0 t273).f8), (.slice A274_7 ((rd_T52 l0_0 t273).f7).length c274_7), H', ⟨by have := HJ2.out; have := HK2.out; have := HK3.out; omega⟩, ⟨by (with_reducible repeat (first | apply Kd.R_alloc | apply Kd.R_drewN | apply Kd.R_drew)); exact Kd.R_mono (Kd.R_far (p := ⟨gb269, 8, none⟩) (Kd.R_far (p := ⟨gb269, 7, none⟩) (Kd.R_far (p := ⟨gb269, 6, none⟩) (Kd.R_far (p := ⟨gb269, 5, none⟩) (Kd.R_far (p := ⟨gb269, 4, none⟩) (Kd.R_far (p := ⟨gb269, 3, none⟩) (Kd.R_far (p := ⟨gb269, 2, none⟩) (Kd.R_far (p := ⟨gb269, 1, none⟩) (Kd.R_far (p := ⟨gb269, 0, none⟩) (Kd.R_types HO_5.out BK269.out (by decide)) (fun _ hk => hk.2) (.int .i64 ((rd_T52 l0_0 t273).f0))) (fun _ hk => hk.2) (.int .i64 ((rd_T52 l0_0 t273).f1))) (fun _ hk => hk.2) (.string ((rd_T52 l0_0 t273).f2))) (fun _ hk => hk.2) (.bool ((rd_T52 l0_0 t273).f3))) (fun _ hk => hk.2) (.int .i64 ((rd_T52 l0_0 t273).f4))) (fun _ hk => hk.2) (.int .i64 ((rd_T52 l0_0 t273).f5))) (fun _ hk => hk.2) (.int .i64 ((rd_T52 l0_0 t273).f6))) (fun _ hk => hk.2) (.slice A274_7 ((rd_T52 l0_0 t273).f7).length c274_7)) (fun _ hk => hk.2) (.int .i64 ((rd_T52 l0_0 t273).f8))) (fun _ hk => trivial)⟩, ⟨by (with_reducible repeat (first | refine blk_drewN ?_ _ | refine blk_drew ?_ | refine blk_alloc ?_ _)); refine blk_far ?_ NB264_269.out _; (with_reducible repeat (first | refine blk_drewN ?_ _ | refine blk_drew ?_ | refine blk_alloc ?_ _)); refine blk_far ?_ NB264_269.out _; (with_reducible repeat (first | refine blk_drewN ?_ _ | refine blk_drew ?_ | refine blk_alloc ?_ _)); refine blk_far ?_ NB264_269.out _; (with_reducible repeat (first | refine blk_drewN ?_ _ | refine blk_drew ?_ | refine blk_alloc ?_ _)); refine blk_far ?_ NB264_269.out _; (with_reducible repeat (first | refine blk_drewN ?_ _ | refine blk_drew ?_ | refine blk_alloc ?_ _)); refine blk_far ?_ NB264_269.out _; (with_reducible repeat (first | refine blk_drewN ?_ _ | refine blk_drew ?_ | refine blk_alloc ?_ _)); refine blk_far ?_ NB264_269.out _; (with_reducible repeat (first | refine blk_drewN ?_ _ | refine blk_drew ?_ | refine blk_alloc ?_ _)); refine blk_far ?_ NB264_269.out _; (with_reducible repeat (first | refine blk_drewN ?_ _ | refine blk_drew ?_ | refine blk_alloc ?_ _)); refine blk_far ?_ NB264_269.out _; (with_reducible repeat (first | refine blk_drewN ?_ _ | refine blk_drew ?_ | refine blk_alloc ?_ _)); refine blk_far ?_ NB264_269.out _; (with_reducible repeat (first | refine blk_drewN ?_ _ | refine blk_drew ?_ | refine blk_alloc ?_ _)); exact BK264.out⟩, ⟨by (with_reducible repeat (first | refine blk_drewN ?_ _ | refine blk_drew ?_ | refine blk_alloc ?_ _)); refine blk_far ?_ NB268_269.out _; (with_reducible repeat (first | refine blk_drewN ?_ _ | refine blk_drew ?_ | refine blk_alloc ?_ _)); refine blk_far ?_ NB268_269.out _; (with_reducible repeat (first | refine blk_drewN ?_ _ | refine blk_drew ?_ | refine blk_alloc ?_ _)); refine blk_far ?_ NB268_269.out _; (with_reducible repeat (first | refine blk_drewN ?_ _ | refine blk_drew ?_ | refine blk_alloc ?_ _)); refine blk_far ?_ NB268_269.out _; (with_reducible repeat (first | refine blk_drewN ?_ _ | refine blk_drew ?_ | refine blk_alloc ?_ _)); refine blk_far ?_ NB268_269.out _; (with_reducible repeat (first | refine blk_drewN ?_ _ | refine blk_drew ?_ | refine blk_alloc ?_ _)); refine blk_far ?_ NB268_269.out _; (with_reducible repeat (first | refine blk_drewN ?_ _ | refine blk_drew ?_ | refine blk_alloc ?_ _)); refine blk_far ?_ NB268_269.out _; (with_reducible repeat (first | refine blk_drewN ?_ _ | refine blk_drew ?_ | refine blk_alloc ?_ _)); refine blk_far ?_ NB268_269.out _; (with_reducible repeat (first | refine blk_drewN ?_ _ | refine blk_drew ?_ | refine blk_alloc ?_ _)); refine blk_far ?_ NB268_269.out _; (with_reducible repeat (first | refine blk_drewN ?_ _ | refine blk_drew ?_ | refine blk_alloc ?_ _)); exact BK268.out⟩, ⟨by (with_reducible repeat (first | refine blk_drewN ?_ _ | refine blk_drew ?_ | refine blk_alloc ?_ _)); refine blk_put (cs := #[.int .i64 ((rd_T52 l0_0 t273).f0), .int .i64 ((rd_T52 l0_0 t273).f1), .string ((rd_T52 l0_0 t273).f2), .bool ((rd_T52 l0_0 t273).f3), .int .i64 ((rd_T52 l0_0 t273).f4), .int .i64 ((rd_T52 l0_0 t273).f5), .int .i64 ((rd_T52 l0_0 t273).f6), .slice A274_7 ((rd_T52 l0_0 t273).f7).length c274_7, .int .i64 x270008_3]) ?_ 8 _ rfl; (with_reducible repeat (first | refine blk_drewN ?_ _ | refine blk_drew ?_ | refine blk_alloc ?_ _)); refine blk_put (cs := #[.int .i64 ((rd_T52 l0_0 t273).f0), .int .i64 ((rd_T52 l0_0 t273).f1), .string ((rd_T52 l0_0 t273).f2), .bool ((rd_T52 l0_0 t273).f3), .int .i64 ((rd_T52 l0_0 t273).f4), .int .i64 ((rd_T52 l0_0 t273).f5), .int .i64 ((rd_T52 l0_0 t273).f6), u270007, .int .i64 x270008_3]) ?_ 7 _ rfl; (with_reducible repeat (first | refine blk_drewN ?_ _ | refine blk_drew ?_ | refine blk_alloc ?_ _)); refine blk_put (cs := #[.int .i64 ((rd_T52 l0_0 t273).f0), .int .i64 ((rd_T52 l0_0 t273).f1), .string ((rd_T52 l0_0 t273).f2), .bool ((rd_T52 l0_0 t273).f3), .int .i64 ((rd_T52 l0_0 t273).f4), .int .i64 ((rd_T52 l0_0 t273).f5), .int .i64 x270006_3, u270007, .int .i64 x270008_3]) ?_ 6 _ rfl; (with_reducible repeat (first | refine blk_drewN ?_ _ | refine blk_drew ?_ | refine blk_alloc ?_ _)); refine blk_put (cs := #[.int .i64 ((rd_T52 l0_0 t273).f0), .int .i64 ((rd_T52 l0_0 t273).f1), .string ((rd_T52 l0_0 t273).f2), .bool ((rd_T52 l0_0 t273).f3), .int .i64 ((rd_T52 l0_0 t273).f4), .int .i64 x270005_3, .int .i64 x270006_3, u270007, .int .i64 x270008_3]) ?_ 5 _ rfl; (with_reducible repeat (first | refine blk_drewN ?_ _ | refine blk_drew ?_ | refine blk_alloc ?_ _)); refine blk_put (cs := #[.int .i64 ((rd_T52 l0_0 t273).f0), .int .i64 ((rd_T52 l0_0 t273).f1), .string ((rd_T52 l0_0 t273).f2), .bool ((rd_T52 l0_0 t273).f3), .int .i64 x270004_3, .int .i64 x270005_3, .int .i64 x270006_3, u270007, .int .i64 x270008_3]) ?_ 4 _ rfl; (with_reducible repeat (first | refine blk_drewN ?_ _ | refine blk_drew ?_ | refine blk_alloc ?_ _)); refine blk_put (cs := #[.int .i64 ((rd_T52 l0_0 t273).f0), .int .i64 ((rd_T52 l0_0 t273).f1), .string ((rd_T52 l0_0 t273).f2), .bool x270003_3, .int .i64 x270004_3, .int .i64 x270005_3, .int .i64 x270006_3, u270007, .int .i64 x270008_3]) ?_ 3 _ rfl; (with_reducible repeat (first | refine blk_drewN ?_ _ | refine blk_drew ?_ | refine blk_alloc ?_ _)); refine blk_put (cs := #[.int .i64 ((rd_T52 l0_0 t273).f0), .int .i64 ((rd_T52 l0_0 t273).f1), .string x270002_3, .bool x270003_3, .int .i64 x270004_3, .int .i64 x270005_3, .int .i64 x270006_3, u270007, .int .i64 x270008_3]) ?_ 2 _ rfl; (with_reducible repeat (first | refine blk_drewN ?_ _ | refine blk_drew ?_ | refine blk_alloc ?_ _)); refine blk_put (cs := #[.int .i64 ((rd_T52 l0_0 t273).f0), .int .i64 x270001_3, .string x270002_3, .bool x270003_3, .int .i64 x270004_3, .int .i64 x270005_3, .int .i64 x270006_3, u270007, .int .i64 x270008_3]) ?_ 1 _ rfl; (with_reducible repeat (first | refine blk_drewN ?_ _ | refine blk_drew ?_ | refine blk_alloc ?_ _)); refine blk_put (cs := #[.int .i64 x270000_3, .int .i64 x270001_3, .string x270002_3, .bool x270003_3, .int .i64 x270004_3, .int .i64 x270005_3, .int .i64 x270006_3, u270007, .int .i64 x270008_3]) ?_ 0 _ rfl; (with_reducible repeat (first | refine blk_drewN ?_ _ | refine blk_drew ?_ | refine blk_alloc ?_ _)); exact BK269.out⟩, ⟨pl3 HB.out GE264.out GE268.out GE269.out⟩⟩
               ·rw [if_neg c40] at H
                exact absurd H (by simp)
              ·rw [if_neg c39] at H
               exact absurd H (by simp)
         ·rw [if_neg c18] at H
          exact absurd H (by simp)
        ·rw [if_neg c17] at H
         exact absurd H (by simp)
       ·rw [if_neg c16] at H
        have c16b0 : decide (x21_2 < (l0_0.length : Int)) = false := decide_eq_false c16
        clear c16
        obtain rfl := Option.some.inj H
        go_wp2
        go_ret
        exact ⟨_, erq, by (with_reducible repeat (first | apply Kd.R_alloc | apply Kd.R_drewN | apply Kd.R_drew)); exact HO_5.out, pl1 HB.out GE264.out⟩

end Go.Proofs.Ytnhbfbgflgplcaa.QTW
