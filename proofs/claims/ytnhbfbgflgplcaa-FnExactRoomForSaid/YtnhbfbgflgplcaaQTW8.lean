/- Walks, as the kit's print writes them, run with stubs of my own and mended: TW. -/
import Derived.Test.YtnhbfbgflgplcaaQTW0
import Derived.Test.YtnhbfbgflgplcaaQTW5
import Derived.Test.YtnhbfbgflgplcaaQTW7
namespace Go.Proofs.Ytnhbfbgflgplcaa.QTW
open Go.Proofs.YtnhbfbgflgplcaaW Go.Proofs.YtnhbfbgflgplcaaW.Zip
open Go.RowKit Go.Proofs.YtnhbfbgflgplcaaW.PrintWords Go.Proofs.YtnhbfbgflgplcaaW.PrintLast Go.Proofs.YtnhbfbgflgplcaaW.PrintMore
attribute [local go_sem] max2_int min2_int max_two min_two max_three min_three max_four min_four   -- for this text's walks alone
set_option linter.unusedVariables false
set_option linter.unusedSimpArgs false

/-! ### spec_TreeOk: function 12 -/
mutual
def spec_TreeOk.j0 : Nat → Bool → List (S52) → Int → Option (Bool)
  | 0, _, _, _ => none
  | k + 1, x13, x189000, x189001 => if x13 = true then (some false) else (spec_TreeOk.l0 k 0 x189000 x189001)
def spec_TreeOk.l0 : Nat → Int → List (S52) → Int → Option (Bool)
  | 0, _, _, _ => none
  | k + 1, x3, x189000, x189001 => if x3 < (x189000.length : Int) then ((spec_l10Node.f k x189000 x189001 x3).bind fun t190 => (if t190 = true then (spec_TreeOk.l0 k (wrap64 (x3 + 1)) x189000 x189001) else (some false))) else (some true)
end
def spec_TreeOk.f (k : Nat) (l0_0 : List (S52)) (a0_1 : Int) : Option (Bool) := (spec_l01In.f (l0_0.length : Int) 1 14).bind fun t189 => (if t189 = true then (spec_TreeOk.j0 k (decide (a0_1 > 100000)) l0_0 a0_1) else (spec_TreeOk.j0 k true l0_0 a0_1))
theorem spec_TreeOk.mono_l : ∀ k, (∀ y0 y1 y2, LeO (spec_TreeOk.j0 k y0 y1 y2) (spec_TreeOk.j0 (k + 1) y0 y1 y2)) ∧ (∀ y0 y1 y2, LeO (spec_TreeOk.l0 k y0 y1 y2) (spec_TreeOk.l0 (k + 1) y0 y1 y2))
  | 0 => ⟨fun _ _ _ r h => by simp [spec_TreeOk.j0] at h, fun _ _ _ r h => by simp [spec_TreeOk.l0] at h⟩
  | k + 1 => by
    obtain ⟨ih0, ih1⟩ := spec_TreeOk.mono_l k
    refine ⟨?_, ?_⟩
    · intro y0 y1 y2
      unfold spec_TreeOk.j0
      repeat' first
      | (with_reducible exact ih0 _ _ _)
      | (with_reducible exact ih1 _ _ _)
      | (with_reducible exact spec_l10Node.mono _ _ _ _)
      | (with_reducible exact LeO.refl _)
      | (with_reducible exact LeO.none _)
      | (with_reducible refine LeO.ite ?_ ?_)
      | (with_reducible refine LeO.bind ?_ (fun _ => ?_))
      | exact ih0 _ _ _
      | exact ih1 _ _ _
      | exact spec_l10Node.mono _ _ _ _
      | exact LeO.none _
      | refine LeO.ite ?_ ?_
      | refine LeO.bind ?_ (fun _ => ?_)
    · intro y0 y1 y2
      unfold spec_TreeOk.l0
      repeat' first
      | (with_reducible exact ih0 _ _ _)
      | (with_reducible exact ih1 _ _ _)
      | (with_reducible exact spec_l10Node.mono _ _ _ _)
      | (with_reducible exact LeO.refl _)
      | (with_reducible exact LeO.none _)
      | (with_reducible refine LeO.ite ?_ ?_)
      | (with_reducible refine LeO.bind ?_ (fun _ => ?_))
      | exact ih0 _ _ _
      | exact ih1 _ _ _
      | exact spec_l10Node.mono _ _ _ _
      | exact LeO.none _
      | refine LeO.ite ?_ ?_
      | refine LeO.bind ?_ (fun _ => ?_)
theorem spec_TreeOk.mono : ∀ a0 a1 k, LeO (spec_TreeOk.f k a0 a1) (spec_TreeOk.f (k + 1) a0 a1) := by
  intro a0 a1 k
  obtain ⟨ih0, ih1⟩ := spec_TreeOk.mono_l k
  unfold spec_TreeOk.f
  repeat' first
      | (with_reducible exact ih0 _ _ _)
      | (with_reducible exact ih1 _ _ _)
      | (with_reducible exact spec_l10Node.mono _ _ _ _)
      | (with_reducible exact LeO.refl _)
      | (with_reducible exact LeO.none _)
      | (with_reducible refine LeO.ite ?_ ?_)
      | (with_reducible refine LeO.bind ?_ (fun _ => ?_))
      | exact ih0 _ _ _
      | exact ih1 _ _ _
      | exact spec_l10Node.mono _ _ _ _
      | exact LeO.none _
      | refine LeO.ite ?_ ?_
      | refine LeO.bind ?_ (fun _ => ?_)
set_option maxHeartbeats 8000000 in
set_option maxRecDepth 100000 in
theorem spec_TreeOk.calls (k : Nat) (A0_0 : Option Addr) (c0_0 : Nat) (l0_0 : List (S52)) (a0_1 : Int) (r : Bool) (w : World) (hr0_0 : Kd.C k52 w A0_0 l0_0.length l0_0) (hc0_0 : l0_0.length ≤ c0_0) (h : spec_TreeOk.f k l0_0 a0_1 = some r) :
    Calls Try.prog 12 #[.agg #[.slice A0_0 l0_0.length c0_0, .int .i64 a0_1]] w fun e w' => e = .returned (.bool r) ∧ Below w.heap.size w w' := by
  have hu29 := Try.underlying29
  have HR0_0 := Aside0.mk hr0_0
  have HC0_0 := Aside0.mk hc0_0
  clear hr0_0 hc0_0
  have HB := Aside0.mk (Below.refl w.heap.size w)
  have H : ((spec_l01In.f (l0_0.length : Int) 1 14).bind fun t189 => (if t189 = true then (spec_TreeOk.j0 k (decide (a0_1 > 100000)) l0_0 a0_1) else (spec_TreeOk.j0 k true l0_0 a0_1))) = some r := h
  clear h
  have HC2 := Aside0.mk H
  clear H
  go_enter Try.func12, Try.ntmps12
  go_upto_region 1 with (first | ((with_reducible refine gate_dst (N := 1) rfl ?_); refine box_event ?hg (N := 1) ?hd (cs := #[.slice A0_0 l0_0.length c0_0, .int .i64 a0_1]) (t := 29) ?hr ?_; (case hd => rfl); (case hg => rfl); (case hr => first | (go_simp; done) | (go_simp; rfl)); intro gb188 hg w3 hbox hb; have n0_ := Aside0.mk (below_step (pl0 HB.out) hb); have n1_ := Aside0.mk (hbox); have n2_ := Aside0.mk ((by rw [hg]; exact (below_size (pl0 HB.out)) : w.heap.size ≤ gb188)); have n3_ := Aside0.mk ((by rw [hg]; exact (below_size (pl0 HB.out)) : w.heap.size ≤ gb188)); clear HB; have HB := n0_; have BK188 := n1_; have GW188 := n2_; have GE188 := n3_; clear n0_ n1_ n2_ n3_; clear hb hbox hg))
  (try simp only [Act.put, List.setIfInBounds_toArray, List.set_cons_zero, List.set_cons_succ])
  go_cut [13] (fun v13 wc => ∃ (kq : Nat) (x13_1 : Bool), v13 = .bool x13_1 ∧ Aside0 (spec_TreeOk.j0 kq x13_1 l0_0 a0_1 = some r) ∧ Aside0 (kq ≤ k) ∧ Aside0 (wc.heap[gb188]? = some (.cells #[(.slice A0_0 l0_0.length c0_0), .int .i64 a0_1] 29 (0, 0))) ∧ Aside0 (Below w.heap.size w wc))
  case first =>
   have H := HC2.out
   clear HC2
   replace H := Option.bind_eq_some_iff.mp H
   obtain ⟨t189, A40, H⟩ := H
   replace H : (if t189 = true then (spec_TreeOk.j0 k (decide (a0_1 > 100000)) l0_0 a0_1) else (spec_TreeOk.j0 k true l0_0 a0_1)) = some r := H
   have A4 := Aside0.mk A40
   clear A40
   by_cases c5 : t189 = true
   ·subst c5
    have H1 : (spec_TreeOk.j0 k (decide (a0_1 > 100000)) l0_0 a0_1) = some r := by rw [if_pos rfl] at H; exact H
    clear H
    have H := H1
    clear H1
    have H' := Aside0.mk H
    clear H
    obtain ⟨hcz6_0, hcz6_1, hfz6_0, hfz6_1⟩ := z2 BK188.out
    go_wp2_with (first | ((with_reducible refine gate_callee (f := 38) rfl ?_); refine goesL_ (some 7) rfl rfl Try.func38 (by kernel_rfl) rfl #[.int .i64 (l0_0.length : Int), .int .i64 1, .int .i64 14] rfl (by (try simp only [List.map_toArray, List.map_cons, List.map_nil]); first | done | rfl | (simp only [List.length_drop, List.length_take]; rfl)) ?_; (with_reducible refine (spec_l01In.calls (l0_0.length : Int) 1 14 true _ A4.out).mono ?_); rintro e w' ⟨rfl, ⟨nd, rfl⟩⟩; refine ⟨_, rfl, ?_⟩))
    go_meet
    case rel => exact ⟨_, (decide (a0_1 > 100000)), eqa, H', ⟨by first | omega | exact Nat.le_refl _⟩, ⟨pk BK188.out⟩, ⟨pl1 HB.out GE188.out⟩⟩
   ·replace c5 := Bool.eq_false_iff.mpr c5
    subst c5
    have H1 : (spec_TreeOk.j0 k true l0_0 a0_1) = some r := by rw [if_neg (show ¬ (false = true) by decide)] at H; exact H
    clear H
    have H := H1
    clear H1
    have H' := Aside0.mk H
    clear H
    obtain ⟨hcz7_0, hcz7_1, hfz7_0, hfz7_1⟩ := z2 BK188.out
    go_wp2_with (first | ((with_reducible refine gate_callee (f := 38) rfl ?_); refine goesL_ (some 7) rfl rfl Try.func38 (by kernel_rfl) rfl #[.int .i64 (l0_0.length : Int), .int .i64 1, .int .i64 14] rfl (by (try simp only [List.map_toArray, List.map_cons, List.map_nil]); first | done | rfl | (simp only [List.length_drop, List.length_take]; rfl)) ?_; (with_reducible refine (spec_l01In.calls (l0_0.length : Int) 1 14 false _ A4.out).mono ?_); rintro e w' ⟨rfl, ⟨nd, rfl⟩⟩; refine ⟨_, rfl, ?_⟩))
    go_meet
    case rel => exact ⟨_, (true), eqa, H', ⟨by first | omega | exact Nat.le_refl _⟩, ⟨pk BK188.out⟩, ⟨pl1 HB.out GE188.out⟩⟩
  case rest =>
   clear HC2
   obtain ⟨kq, x13_1, rfl, HA, HJ1, BK188, HB⟩ := hcut
   cases kq with
   | zero => exact absurd HA.out (by simp [spec_TreeOk.j0])
   | succ kj1 =>
    have H := HA.out
    clear HA
    simp only [spec_TreeOk.j0] at H
    by_cases c8 : x13_1 = true
    ·subst c8
     have H1 : (some false) = some r := by rw [if_pos rfl] at H; exact H
     clear H
     have H := H1
     clear H1
     obtain rfl := Option.some.inj H
     go_wp2
     go_ret
     exact ⟨erq, pl1 HB.out GE188.out⟩
    ·replace c8 := Bool.eq_false_iff.mpr c8
     subst c8
     have H1 : (spec_TreeOk.l0 kj1 0 l0_0 a0_1) = some r := by rw [if_neg (show ¬ (false = true) by decide)] at H; exact H
     clear H
     have H := H1
     clear H1
     have H' := Aside0.mk H
     clear H
     go_wp2
     go_loopg [3] kj1 (fun kq v3 w' => ∃ (x3_2 : Int), v3 = .int .i64 x3_2 ∧ Aside0 (spec_TreeOk.l0 kq x3_2 l0_0 a0_1 = some r) ∧ Aside0 (kq ≤ kj1) ∧ Aside0 (w'.heap[gb188]? = some (.cells #[(.slice A0_0 l0_0.length c0_0), .int .i64 a0_1] 29 (0, 0))) ∧ Aside0 (Below w.heap.size w w'))
     case atStart => exact ⟨(0), eqa, H', ⟨Nat.le_refl _⟩, ⟨pk BK188.out⟩, ⟨pl1 HB.out GE188.out⟩⟩
     case round =>
      clear H'
      try clear c8
      obtain ⟨x3_2, rfl, HA, HK2, BK188, HB⟩ := hrel
      cases gk with
      | zero => exact absurd HA.out (by simp [spec_TreeOk.l0])
      | succ k2 =>
       have H := HA.out
       clear HA
       simp only [spec_TreeOk.l0] at H
       by_cases c9 : x3_2 < (l0_0.length : Int)
       ·rw [if_pos c9] at H
        have c9b0 : decide (x3_2 < (l0_0.length : Int)) = true := decide_eq_true c9
        clear c9
        replace H := Option.bind_eq_some_iff.mp H
        obtain ⟨t190, A100, H⟩ := H
        replace H : (if t190 = true then (spec_TreeOk.l0 k2 (wrap64 (x3_2 + 1)) l0_0 a0_1) else (some false)) = some r := H
        have A10 := Aside0.mk A100
        clear A100
        by_cases c11 : t190 = true
        ·subst c11
         have H1 : (spec_TreeOk.l0 k2 (wrap64 (x3_2 + 1)) l0_0 a0_1) = some r := by rw [if_pos rfl] at H; exact H
         clear H
         have H := H1
         clear H1
         have H' := Aside0.mk H
         clear H
         obtain ⟨hcz12_0, hcz12_1, hfz12_0, hfz12_1⟩ := z2 BK188.out
         go_wp2_with (first | ((with_reducible refine gate_callee (f := 39) rfl ?_); refine goesL_ (some 23) rfl rfl Try.func39 (by kernel_rfl) rfl #[.agg #[.slice A0_0 l0_0.length c0_0, .int .i64 a0_1], .int .i64 x3_2] rfl (by (try simp only [List.map_toArray, List.map_cons, List.map_nil]); first | done | rfl | (simp only [List.length_drop, List.length_take]; rfl)) ?_; (with_reducible refine (spec_l10Node.calls k2 _ _ l0_0 a0_1 x3_2 true _ ?side1 ?side2 A10.out).mono ?_); (case side1 => exact pc (Kd.C_below HR0_0.out HB.out)); (case side2 => exact HC0_0.out); rintro e w13 ⟨rfl, hb⟩; refine ⟨_, rfl, ?_⟩; have n0_ := Aside0.mk (pb BK188.out hb); have n1_ := Aside0.mk (below_step (pl1 HB.out GE188.out) hb); clear BK188; clear HB; have BK188 := n0_; have HB := n1_; clear n0_ n1_; (try clear hb); (try clear hb2); (try clear hk); (try clear hi)))
         go_roundg k2
         case measure => have := HJ1.out; have := HK2.out; omega
         case rel => exact ⟨(wrap64 (x3_2 + 1)), eqa, H', ⟨by have := HJ1.out; have := HK2.out; omega⟩, ⟨pk BK188.out⟩, ⟨pl1 HB.out GE188.out⟩⟩
        ·replace c11 := Bool.eq_false_iff.mpr c11
         subst c11
         have H1 : (some false) = some r := by rw [if_neg (show ¬ (false = true) by decide)] at H; exact H
         clear H
         have H := H1
         clear H1
         obtain rfl := Option.some.inj H
         obtain ⟨hcz14_0, hcz14_1, hfz14_0, hfz14_1⟩ := z2 BK188.out
         go_wp2_with (first | ((with_reducible refine gate_callee (f := 39) rfl ?_); refine goesL_ (some 23) rfl rfl Try.func39 (by kernel_rfl) rfl #[.agg #[.slice A0_0 l0_0.length c0_0, .int .i64 a0_1], .int .i64 x3_2] rfl (by (try simp only [List.map_toArray, List.map_cons, List.map_nil]); first | done | rfl | (simp only [List.length_drop, List.length_take]; rfl)) ?_; (with_reducible refine (spec_l10Node.calls k2 _ _ l0_0 a0_1 x3_2 false _ ?side1 ?side2 A10.out).mono ?_); (case side1 => exact pc (Kd.C_below HR0_0.out HB.out)); (case side2 => exact HC0_0.out); rintro e w15 ⟨rfl, hb⟩; refine ⟨_, rfl, ?_⟩; have n0_ := Aside0.mk (pb BK188.out hb); have n1_ := Aside0.mk (below_step (pl1 HB.out GE188.out) hb); clear BK188; clear HB; have BK188 := n0_; have HB := n1_; clear n0_ n1_; (try clear hb); (try clear hb2); (try clear hk); (try clear hi)))
         go_ret
         exact ⟨erq, pl1 HB.out GE188.out⟩
       ·rw [if_neg c9] at H
        have c9b0 : decide (x3_2 < (l0_0.length : Int)) = false := decide_eq_false c9
        clear c9
        obtain rfl := Option.some.inj H
        obtain ⟨hcz16_0, hcz16_1, hfz16_0, hfz16_1⟩ := z2 BK188.out
        go_wp2
        go_ret
        exact ⟨erq, pl1 HB.out GE188.out⟩

/-! ### spec_l10Below: function 52 -/
def spec_l10Below.l0 : Nat → Int → Int → Int → List (S52) → Int → Option (Bool)
  | 0, _, _, _, _, _ => none
  | k + 1, x1, x2, x7, x192000, x192001 => if x7 ≤ 14 then (if x1 = x2 then (some true) else ((spec_l10At.f k x192000 x192001 x1).bind fun t192 => (if t192 < 0 then (some false) else (if 0 ≤ t192 then (if t192 < (x192000.length : Int) then (spec_l10Below.l0 k ((rd_T52 x192000 t192).f1) x2 (wrap64 (x7 + 1)) x192000 x192001) else (none)) else (none))))) else (some false)
def spec_l10Below.f (k : Nat) (l0_0 : List (S52)) (a0_1 : Int) (a1 : Int) (a2 : Int) : Option (Bool) := spec_l10Below.l0 k a1 a2 0 l0_0 a0_1
theorem spec_l10Below.mono_l : ∀ k, (∀ y0 y1 y2 y3 y4, LeO (spec_l10Below.l0 k y0 y1 y2 y3 y4) (spec_l10Below.l0 (k + 1) y0 y1 y2 y3 y4))
  | 0 => fun _ _ _ _ _ r h => by simp [spec_l10Below.l0] at h
  | k + 1 => by
    have ih0 := spec_l10Below.mono_l k
    · intro y0 y1 y2 y3 y4
      unfold spec_l10Below.l0
      repeat' first
      | (with_reducible exact ih0 _ _ _ _ _)
      | (with_reducible exact spec_l10At.mono _ _ _ _)
      | (with_reducible exact LeO.refl _)
      | (with_reducible exact LeO.none _)
      | (with_reducible refine LeO.ite ?_ ?_)
      | (with_reducible refine LeO.bind ?_ (fun _ => ?_))
      | exact ih0 _ _ _ _ _
      | exact spec_l10At.mono _ _ _ _
      | exact LeO.none _
      | refine LeO.ite ?_ ?_
      | refine LeO.bind ?_ (fun _ => ?_)
theorem spec_l10Below.mono : ∀ a0 a1 a2 a3 k, LeO (spec_l10Below.f k a0 a1 a2 a3) (spec_l10Below.f (k + 1) a0 a1 a2 a3) := by
  intro a0 a1 a2 a3 k
  have ih0 := spec_l10Below.mono_l k
  unfold spec_l10Below.f
  repeat' first
      | (with_reducible exact ih0 _ _ _ _ _)
      | (with_reducible exact spec_l10At.mono _ _ _ _)
      | (with_reducible exact LeO.refl _)
      | (with_reducible exact LeO.none _)
      | (with_reducible refine LeO.ite ?_ ?_)
      | (with_reducible refine LeO.bind ?_ (fun _ => ?_))
      | exact ih0 _ _ _ _ _
      | exact spec_l10At.mono _ _ _ _
      | exact LeO.none _
      | refine LeO.ite ?_ ?_
      | refine LeO.bind ?_ (fun _ => ?_)
set_option maxHeartbeats 8000000 in
set_option maxRecDepth 100000 in
theorem spec_l10Below.calls (k : Nat) (A0_0 : Option Addr) (c0_0 : Nat) (l0_0 : List (S52)) (a0_1 : Int) (a1 : Int) (a2 : Int) (r : Bool) (w : World) (hr0_0 : Kd.C k52 w A0_0 l0_0.length l0_0) (hc0_0 : l0_0.length ≤ c0_0) (h : spec_l10Below.f k l0_0 a0_1 a1 a2 = some r) :
    Calls Try.prog 52 #[.agg #[.slice A0_0 l0_0.length c0_0, .int .i64 a0_1], .int .i64 a1, .int .i64 a2] w fun e w' => e = .returned (.bool r) ∧ Below w.heap.size w w' := by
  have hu29 := Try.underlying29
  have HR0_0 := Aside0.mk hr0_0
  have HC0_0 := Aside0.mk hc0_0
  clear hr0_0 hc0_0
  have HB := Aside0.mk (Below.refl w.heap.size w)
  have H : (spec_l10Below.l0 k a1 a2 0 l0_0 a0_1) = some r := h
  clear h
  have H' := Aside0.mk H
  clear H
  go_enter Try.func52, Try.ntmps52
  go_wp2_with (first | ((with_reducible refine gate_dst (N := 3) rfl ?_); refine box_event ?hg (N := 3) ?hd (cs := #[.slice A0_0 l0_0.length c0_0, .int .i64 a0_1]) (t := 29) ?hr ?_; (case hd => rfl); (case hg => rfl); (case hr => first | (go_simp; done) | (go_simp; rfl)); intro gb191 hg w4 hbox hb; have n0_ := Aside0.mk (below_step (pl0 HB.out) hb); have n1_ := Aside0.mk (hbox); have n2_ := Aside0.mk ((by rw [hg]; exact (below_size (pl0 HB.out)) : w.heap.size ≤ gb191)); have n3_ := Aside0.mk ((by rw [hg]; exact (below_size (pl0 HB.out)) : w.heap.size ≤ gb191)); clear HB; have HB := n0_; have BK191 := n1_; have GW191 := n2_; have GE191 := n3_; clear n0_ n1_ n2_ n3_; clear hb hbox hg))
  go_loopg [1, 7] k (fun kq v1 v7 w' => ∃ (x1_1 : Int) (x7_1 : Int), v1 = .int .i64 x1_1 ∧ v7 = .int .i64 x7_1 ∧ Aside0 (spec_l10Below.l0 kq x1_1 a2 x7_1 l0_0 a0_1 = some r) ∧ Aside0 (kq ≤ k) ∧ Aside0 (w'.heap[gb191]? = some (.cells #[(.slice A0_0 l0_0.length c0_0), .int .i64 a0_1] 29 (0, 0))) ∧ Aside0 (Below w.heap.size w w'))
  case atStart => exact ⟨(a1), (0), eqa, eqa, H', ⟨Nat.le_refl _⟩, ⟨pk BK191.out⟩, ⟨pl1 HB.out GE191.out⟩⟩
  case round =>
   clear H'
   obtain ⟨x1_1, x7_1, rfl, rfl, HA, HK1, BK191, HB⟩ := hrel
   cases gk with
   | zero => exact absurd HA.out (by simp [spec_l10Below.l0])
   | succ k1 =>
    have H := HA.out
    clear HA
    simp only [spec_l10Below.l0] at H
    by_cases c5 : x7_1 ≤ 14
    ·rw [if_pos c5] at H
     have c5b0 : decide (x7_1 ≤ 14) = true := decide_eq_true c5
     clear c5
     by_cases c6 : x1_1 = a2
     ·rw [if_pos c6] at H
      have c6b0 : (x1_1 == a2) = true := beq_iff_eq.mpr c6
      have c6b1 : (x1_1 != a2) = false := bne_eq_false_iff_eq.mpr c6
      clear c6
      obtain rfl := Option.some.inj H
      go_wp2
      go_ret
      exact ⟨erq, pl1 HB.out GE191.out⟩
     ·rw [if_neg c6] at H
      have c6b0 : (x1_1 == a2) = false := beq_eq_false_iff_ne.mpr c6
      have c6b1 : (x1_1 != a2) = true := bne_iff_ne.mpr c6
      replace H := Option.bind_eq_some_iff.mp H
      obtain ⟨t192, A70, H⟩ := H
      replace H : (if t192 < 0 then (some false) else (if 0 ≤ t192 then (if t192 < (l0_0.length : Int) then (spec_l10Below.l0 k1 ((rd_T52 l0_0 t192).f1) a2 (wrap64 (x7_1 + 1)) l0_0 a0_1) else (none)) else (none))) = some r := H
      have A7 := Aside0.mk A70
      clear A70
      by_cases c8 : t192 < 0
      ·rw [if_pos c8] at H
       have c8b0 : decide (t192 < 0) = true := decide_eq_true c8
       clear c8
       obtain rfl := Option.some.inj H
       obtain ⟨hcz9_0, hcz9_1, hfz9_0, hfz9_1⟩ := z2 BK191.out
       go_wp2_with (first | ((with_reducible refine gate_callee (f := 48) rfl ?_); refine goesL_ (some 18) rfl rfl Try.func48 (by kernel_rfl) rfl #[.agg #[.slice A0_0 l0_0.length c0_0, .int .i64 a0_1], .int .i64 x1_1] rfl (by (try simp only [List.map_toArray, List.map_cons, List.map_nil]); first | done | rfl | (simp only [List.length_drop, List.length_take]; rfl)) ?_; (with_reducible refine (spec_l10At.calls k1 _ _ l0_0 a0_1 x1_1 t192 _ ?side1 ?side2 A7.out).mono ?_); (case side1 => exact pc (Kd.C_below HR0_0.out HB.out)); (case side2 => exact HC0_0.out); rintro e w10 ⟨rfl, hb⟩; refine ⟨_, rfl, ?_⟩; have n0_ := Aside0.mk (pb BK191.out hb); have n1_ := Aside0.mk (below_step (pl1 HB.out GE191.out) hb); clear BK191; clear HB; have BK191 := n0_; have HB := n1_; clear n0_ n1_; (try clear hb); (try clear hb2); (try clear hk); (try clear hi)))
       go_ret
       exact ⟨erq, pl1 HB.out GE191.out⟩
      ·rw [if_neg c8] at H
       have c8b0 : decide (t192 < 0) = false := decide_eq_false c8
       clear c8
       by_cases c11 : 0 ≤ t192
       ·rw [if_pos c11] at H
        have c11b0 : decide (0 ≤ t192) = true := decide_eq_true c11
        clear c11
        by_cases c12 : t192 < (l0_0.length : Int)
        ·rw [if_pos c12] at H
         have c12b0 : decide (t192 < (l0_0.length : Int)) = true := decide_eq_true c12
         clear c12
         have H' := Aside0.mk H
         clear H
         obtain ⟨hcz13_0, hcz13_1, hfz13_0, hfz13_1⟩ := z2 BK191.out
         go_wp2_with (first | ((with_reducible refine gate_callee (f := 48) rfl ?_); refine goesL_ (some 18) rfl rfl Try.func48 (by kernel_rfl) rfl #[.agg #[.slice A0_0 l0_0.length c0_0, .int .i64 a0_1], .int .i64 x1_1] rfl (by (try simp only [List.map_toArray, List.map_cons, List.map_nil]); first | done | rfl | (simp only [List.length_drop, List.length_take]; rfl)) ?_; (with_reducible refine (spec_l10At.calls k1 _ _ l0_0 a0_1 x1_1 t192 _ ?side1 ?side2 A7.out).mono ?_); (case side1 => exact pc (Kd.C_below HR0_0.out HB.out)); (case side2 => exact HC0_0.out); rintro e w14 ⟨rfl, hb⟩; refine ⟨_, rfl, ?_⟩; have n0_ := Aside0.mk (pb BK191.out hb); have n1_ := Aside0.mk (below_step (pl1 HB.out GE191.out) hb); clear BK191; clear HB; have BK191 := n0_; have HB := n1_; clear n0_ n1_; (try clear hb); (try clear hb2); (try clear hk); (try clear hi); have hcz15_0 : w14.cell? ⟨gb191, 0, none⟩ = some (.slice A0_0 l0_0.length c0_0) := (blk_cell BK191.out 0).trans rfl; have hcz15_1 : w14.cell? ⟨gb191, 1, none⟩ = some (.int .i64 a0_1) := (blk_cell BK191.out 1).trans rfl; have hfz15_0 := blk_frozen BK191.out 0; have hfz15_1 := blk_frozen BK191.out 1; have p193 : 0 ≤ (t192 : Int) := oda; have q193 : t192 < (l0_0.length : Int) := oda; obtain ⟨ad193, A193_7, c193_7, e193, hx193_0, hx193_1, hx193_2, hx193_3, hx193_4, hx193_5, hx193_6, hx193_7, hx193_8, hl193_7, hi193_7⟩ := at_T52 HR0_0.out t192 p193 q193; cases e193; replace hx193_0 := hbc HB.out hx193_0; replace hx193_1 := hbc HB.out hx193_1; replace hx193_2 := hbc HB.out hx193_2; replace hx193_3 := hbc HB.out hx193_3; replace hx193_4 := hbc HB.out hx193_4; replace hx193_5 := hbc HB.out hx193_5; replace hx193_6 := hbc HB.out hx193_6; replace hx193_7 := hbc HB.out hx193_7; replace hx193_8 := hbc HB.out hx193_8; have HR193_7 := Aside0.mk hi193_7; have HC193_7 := Aside0.mk hl193_7; clear hi193_7 hl193_7; replace p193 := eq_true p193; replace q193 := eq_true q193))
         go_roundg k1
         case measure => have := HK1.out; omega
         case rel => exact ⟨((rd_T52 l0_0 t192).f1), (wrap64 (x7_1 + 1)), eqa, eqa, H', ⟨by have := HK1.out; omega⟩, ⟨pk BK191.out⟩, ⟨pl1 HB.out GE191.out⟩⟩
        ·rw [if_neg c12] at H
         exact absurd H (by simp)
       ·rw [if_neg c11] at H
        exact absurd H (by simp)
    ·rw [if_neg c5] at H
     have c5b0 : decide (x7_1 ≤ 14) = false := decide_eq_false c5
     clear c5
     obtain rfl := Option.some.inj H
     go_wp2
     go_ret
     exact ⟨erq, pl1 HB.out GE191.out⟩

/-! ### spec_BelowOf: function 24 -/
def spec_BelowOf.l0 : Nat → Int → List Int → Int → List (S52) → Int → Option (List Int)
  | 0, _, _, _, _, _ => none
  | k + 1, x1, x5, x6, x195000, x195001 => if x6 < (x195000.length : Int) then (if 0 ≤ x6 then ((spec_l10Below.f k x195000 x195001 ((rd_T52 x195000 x6).f0) x1).bind fun t204 => (if t204 = true then (if x5.length < 17592186044416 then (spec_BelowOf.l0 k x1 (x5 ++ [(rd_T52 x195000 x6).f0]) (wrap64 (x6 + 1)) x195000 x195001) else (none)) else (spec_BelowOf.l0 k x1 x5 (wrap64 (x6 + 1)) x195000 x195001))) else (none)) else (some x5)
def spec_BelowOf.f (k : Nat) (l0_0 : List (S52)) (a0_1 : Int) (a1 : Int) : Option (List Int) := (spec_TreeOk.f k l0_0 a0_1).bind fun t195 => (if t195 = true then ((some (([] : List Int) : List Int)).bind fun y199 => ((spec_l10At.f k l0_0 a0_1 a1).bind fun t202 => (if t202 < 0 then (some y199) else (spec_BelowOf.l0 k a1 y199 0 l0_0 a0_1)))) else (some (([] : List Int))))
theorem spec_BelowOf.mono_l : ∀ k, (∀ y0 y1 y2 y3 y4, LeO (spec_BelowOf.l0 k y0 y1 y2 y3 y4) (spec_BelowOf.l0 (k + 1) y0 y1 y2 y3 y4))
  | 0 => fun _ _ _ _ _ r h => by simp [spec_BelowOf.l0] at h
  | k + 1 => by
    have ih0 := spec_BelowOf.mono_l k
    · intro y0 y1 y2 y3 y4
      unfold spec_BelowOf.l0
      repeat' first
      | (with_reducible exact ih0 _ _ _ _ _)
      | (with_reducible exact spec_TreeOk.mono _ _ _)
      | (with_reducible exact spec_l10At.mono _ _ _ _)
      | (with_reducible exact spec_l10Below.mono _ _ _ _ _)
      | (with_reducible exact LeO.refl _)
      | (with_reducible exact LeO.none _)
      | (with_reducible refine LeO.ite ?_ ?_)
      | (with_reducible refine LeO.bind ?_ (fun _ => ?_))
      | exact ih0 _ _ _ _ _
      | exact spec_TreeOk.mono _ _ _
      | exact spec_l10At.mono _ _ _ _
      | exact spec_l10Below.mono _ _ _ _ _
      | exact LeO.none _
      | refine LeO.ite ?_ ?_
      | refine LeO.bind ?_ (fun _ => ?_)
theorem spec_BelowOf.mono : ∀ a0 a1 a2 k, LeO (spec_BelowOf.f k a0 a1 a2) (spec_BelowOf.f (k + 1) a0 a1 a2) := by
  intro a0 a1 a2 k
  have ih0 := spec_BelowOf.mono_l k
  unfold spec_BelowOf.f
  repeat' first
      | (with_reducible exact ih0 _ _ _ _ _)
      | (with_reducible exact spec_TreeOk.mono _ _ _)
      | (with_reducible exact spec_l10At.mono _ _ _ _)
      | (with_reducible exact spec_l10Below.mono _ _ _ _ _)
      | (with_reducible exact LeO.refl _)
      | (with_reducible exact LeO.none _)
      | (with_reducible refine LeO.ite ?_ ?_)
      | (with_reducible refine LeO.bind ?_ (fun _ => ?_))
      | exact ih0 _ _ _ _ _
      | exact spec_TreeOk.mono _ _ _
      | exact spec_l10At.mono _ _ _ _
      | exact spec_l10Below.mono _ _ _ _ _
      | exact LeO.none _
      | refine LeO.ite ?_ ?_
      | refine LeO.bind ?_ (fun _ => ?_)
def spec_BelowOf.T9 : Bool × List (List Nat × List Nat) := (true, [([], []), ([], []), ([1], [1]), ([], []), ([2, 3], [2, 3]), ([4], [4]), ([5], [5]), ([], []), ([0, 6, 7], [0, 6, 7])])
def spec_BelowOf.B9 : List Nat := [0, 0, 2, 0, 14, 30, 62, 0, 255]
theorem spec_BelowOf.tab9 : rtab .any (opsOf Try.f24 9) = spec_BelowOf.T9 := by kernel_rfl
theorem spec_BelowOf.bits9 : waitsOk spec_BelowOf.T9.2 spec_BelowOf.B9 = true := by kernel_rfl
set_option maxHeartbeats 8000000 in
set_option maxRecDepth 100000 in
theorem spec_BelowOf.calls (k : Nat) (A0_0 : Option Addr) (c0_0 : Nat) (l0_0 : List (S52)) (a0_1 : Int) (a1 : Int) (r : List Int) (w : World) (hr0_0 : Kd.C k52 w A0_0 l0_0.length l0_0) (hc0_0 : l0_0.length ≤ c0_0) (h : spec_BelowOf.f k l0_0 a0_1 a1 = some r) :
    Calls Try.prog 24 #[.agg #[.slice A0_0 l0_0.length c0_0, .int .i64 a0_1], .int .i64 a1] w fun e w' => ∃ v0_ : Value, e = .returned (v0_) ∧ Kd.R (Kd.int .i64) 3 w' w.heap.size (fun _ => True) v0_ r ∧ Below w.heap.size w w' := by
  have hu29 := Try.underlying29
  have HR0_0 := Aside0.mk hr0_0
  have HC0_0 := Aside0.mk hc0_0
  clear hr0_0 hc0_0
  have HB := Aside0.mk (Below.refl w.heap.size w)
  have H : ((spec_TreeOk.f k l0_0 a0_1).bind fun t195 => (if t195 = true then ((some (([] : List Int) : List Int)).bind fun y199 => ((spec_l10At.f k l0_0 a0_1 a1).bind fun t202 => (if t202 < 0 then (some y199) else (spec_BelowOf.l0 k a1 y199 0 l0_0 a0_1)))) else (some (([] : List Int))))) = some r := h
  clear h
  replace H := Option.bind_eq_some_iff.mp H
  obtain ⟨t195, A30, H⟩ := H
  replace H : (if t195 = true then ((some (([] : List Int) : List Int)).bind fun y199 => ((spec_l10At.f k l0_0 a0_1 a1).bind fun t202 => (if t202 < 0 then (some y199) else (spec_BelowOf.l0 k a1 y199 0 l0_0 a0_1)))) else (some (([] : List Int)))) = some r := H
  have A3 := Aside0.mk A30
  clear A30
  by_cases c4 : t195 = true
  ·subst c4
   have H1 : ((some (([] : List Int) : List Int)).bind fun y199 => ((spec_l10At.f k l0_0 a0_1 a1).bind fun t202 => (if t202 < 0 then (some y199) else (spec_BelowOf.l0 k a1 y199 0 l0_0 a0_1)))) = some r := by rw [if_pos rfl] at H; exact H
   clear H
   have H := H1
   clear H1
   obtain ⟨y199, hy199⟩ : ∃ y_ : List Int, y_ = (([] : List Int)) := ⟨_, rfl⟩
   replace H : ((spec_l10At.f k l0_0 a0_1 a1).bind fun t202 => (if t202 < 0 then (some y199) else (spec_BelowOf.l0 k a1 y199 0 l0_0 a0_1))) = some r := by first | (rw [hy199]; with_reducible exact H) | (have H2_ := (Option.bind_some _ _).symm.trans H; rw [hy199]; with_reducible exact H2_) | (have H2_ := (Option.bind_some _ _).symm.trans H; with_reducible exact H2_) | with_reducible exact H | (rw [hy199]; exact H) | exact H
   have Ny199 := Aside0.mk hy199
   clear hy199
   replace H := Option.bind_eq_some_iff.mp H
   obtain ⟨t202, A50, H⟩ := H
   replace H : (if t202 < 0 then (some y199) else (spec_BelowOf.l0 k a1 y199 0 l0_0 a0_1)) = some r := H
   have A5 := Aside0.mk A50
   clear A50
   by_cases c6 : t202 < 0
   ·rw [if_pos c6] at H
    have c6b0 : decide (t202 < 0) = true := decide_eq_true c6
    clear c6
    obtain rfl := Option.some.inj H
    go_enter Try.func24, Try.ntmps24
    go_wp2_with (first | ((with_reducible refine gate_dst (N := 2) rfl ?_); refine box_event ?hg (N := 2) ?hd (cs := #[.slice A0_0 l0_0.length c0_0, .int .i64 a0_1]) (t := 29) ?hr ?_; (case hd => rfl); (case hg => rfl); (case hr => first | (go_simp; done) | (go_simp; rfl)); intro gb194 hg w7 hbox hb; have n0_ := Aside0.mk (below_step (pl0 HB.out) hb); have n1_ := Aside0.mk (hbox); have n2_ := Aside0.mk ((by rw [hg]; exact (below_size (pl0 HB.out)) : w.heap.size ≤ gb194)); have n3_ := Aside0.mk ((by rw [hg]; exact (below_size (pl0 HB.out)) : w.heap.size ≤ gb194)); clear HB; have HB := n0_; have BK194 := n1_; have GW194 := n2_; have GE194 := n3_; clear n0_ n1_ n2_ n3_; clear hb hbox hg; have hcz8_0 : w7.cell? ⟨gb194, 0, none⟩ = some (.slice A0_0 l0_0.length c0_0) := (blk_cell BK194.out 0).trans rfl; have hcz8_1 : w7.cell? ⟨gb194, 1, none⟩ = some (.int .i64 a0_1) := (blk_cell BK194.out 1).trans rfl; have hfz8_0 := blk_frozen BK194.out 0; have hfz8_1 := blk_frozen BK194.out 1) | ((with_reducible refine gate_callee (f := 12) rfl ?_); refine goesL_ (some 8) rfl rfl Try.func12 (by kernel_rfl) rfl #[.agg #[.slice A0_0 l0_0.length c0_0, .int .i64 a0_1]] rfl (by (try simp only [List.map_toArray, List.map_cons, List.map_nil]); first | done | rfl | (simp only [List.length_drop, List.length_take]; rfl)) ?_; (with_reducible refine (spec_TreeOk.calls k _ _ l0_0 a0_1 true _ ?side1 ?side2 A3.out).mono ?_); (case side1 => exact pc (Kd.C_below HR0_0.out HB.out)); (case side2 => exact HC0_0.out); rintro e w9 ⟨rfl, hb⟩; refine ⟨_, rfl, ?_⟩; have n0_ := Aside0.mk (pb BK194.out hb); have n1_ := Aside0.mk (below_step (pl1 HB.out GE194.out) hb); clear BK194; clear HB; have BK194 := n0_; have HB := n1_; clear n0_ n1_; (try clear hb); (try clear hb2); (try clear hk); (try clear hi)) | ((with_reducible refine gate_dst (N := 11) rfl ?_); refine Kd.R_lit (Kd.int .i64) _ 3 ?hg (N := 11) ?hd (xs := ([] : List Int)) (inner := []) (ok := fun _ => True) (okp := fun _ => True) ?hr ?hp (fun _ hk => hk) trivial (Below.refl _ _) (Nat.le_refl _) (by simp) ?_; (case hd => rfl); (case hg => rfl); (case hr => first | (go_simp; done) | (go_simp; rfl)); (case hp => exact (Reps.none _ _)); intro v200 w10 ho11 hb hg_ hnew_; clear hg_ hnew_; (first | rw [← Ny199.out] at ho11 | (simp only [Int.reduceToNat] at ho11; rw [← Ny199.out] at ho11)); have n0_ := Aside0.mk (Kd.R_lower ho11 (below_size (pl1 HB.out GE194.out))); have n1_ := Aside0.mk (pb BK194.out hb); have n2_ := Aside0.mk (below_step (pl1 HB.out GE194.out) hb); clear BK194; clear HB; have HO201 := n0_; have BK194 := n1_; have HB := n2_; clear n0_ n1_ n2_; clear hb ho11; have hcz12_0 : w10.cell? ⟨gb194, 0, none⟩ = some (.slice A0_0 l0_0.length c0_0) := (blk_cell BK194.out 0).trans rfl; have hcz12_1 : w10.cell? ⟨gb194, 1, none⟩ = some (.int .i64 a0_1) := (blk_cell BK194.out 1).trans rfl; have hfz12_0 := blk_frozen BK194.out 0; have hfz12_1 := blk_frozen BK194.out 1) | ((with_reducible refine gate_callee (f := 48) rfl ?_); refine goesL_ (some 14) rfl rfl Try.func48 (by kernel_rfl) rfl #[.agg #[.slice A0_0 l0_0.length c0_0, .int .i64 a0_1], .int .i64 a1] rfl (by (try simp only [List.map_toArray, List.map_cons, List.map_nil]); first | done | rfl | (simp only [List.length_drop, List.length_take]; rfl)) ?_; (with_reducible refine (spec_l10At.calls k _ _ l0_0 a0_1 a1 t202 _ ?side1 ?side2 A5.out).mono ?_); (case side1 => exact pc (Kd.C_below HR0_0.out HB.out)); (case side2 => exact HC0_0.out); rintro e w13 ⟨rfl, hb⟩; refine ⟨_, rfl, ?_⟩; have n0_ := Aside0.mk (Kd.R_below (by (with_reducible repeat (first | apply Kd.R_alloc | apply Kd.R_drewN | apply Kd.R_drew)); exact HO201.out) hb); have n1_ := Aside0.mk (pb BK194.out hb); have n2_ := Aside0.mk (below_step (pl1 HB.out GE194.out) hb); clear HO201; clear BK194; clear HB; have HO201 := n0_; have BK194 := n1_; have HB := n2_; clear n0_ n1_ n2_; (try clear hb); (try clear hb2); (try clear hk); (try clear hi)))
    go_ret
    exact ⟨_, erq, by (with_reducible repeat (first | apply Kd.R_alloc | apply Kd.R_drewN | apply Kd.R_drew)); exact HO201.out, pl1 HB.out GE194.out⟩
   ·rw [if_neg c6] at H
    have c6b0 : decide (t202 < 0) = false := decide_eq_false c6
    clear c6
    have H' := Aside0.mk H
    clear H
    go_enter Try.func24, Try.ntmps24
    go_wp2_with (first | ((with_reducible refine gate_dst (N := 2) rfl ?_); refine box_event ?hg (N := 2) ?hd (cs := #[.slice A0_0 l0_0.length c0_0, .int .i64 a0_1]) (t := 29) ?hr ?_; (case hd => rfl); (case hg => rfl); (case hr => first | (go_simp; done) | (go_simp; rfl)); intro gb194 hg w14 hbox hb; have n0_ := Aside0.mk (below_step (pl0 HB.out) hb); have n1_ := Aside0.mk (hbox); have n2_ := Aside0.mk ((by rw [hg]; exact (below_size (pl0 HB.out)) : w.heap.size ≤ gb194)); have n3_ := Aside0.mk ((by rw [hg]; exact (below_size (pl0 HB.out)) : w.heap.size ≤ gb194)); clear HB; have HB := n0_; have BK194 := n1_; have GW194 := n2_; have GE194 := n3_; clear n0_ n1_ n2_ n3_; clear hb hbox hg; have hcz15_0 : w14.cell? ⟨gb194, 0, none⟩ = some (.slice A0_0 l0_0.length c0_0) := (blk_cell BK194.out 0).trans rfl; have hcz15_1 : w14.cell? ⟨gb194, 1, none⟩ = some (.int .i64 a0_1) := (blk_cell BK194.out 1).trans rfl; have hfz15_0 := blk_frozen BK194.out 0; have hfz15_1 := blk_frozen BK194.out 1) | ((with_reducible refine gate_callee (f := 12) rfl ?_); refine goesL_ (some 8) rfl rfl Try.func12 (by kernel_rfl) rfl #[.agg #[.slice A0_0 l0_0.length c0_0, .int .i64 a0_1]] rfl (by (try simp only [List.map_toArray, List.map_cons, List.map_nil]); first | done | rfl | (simp only [List.length_drop, List.length_take]; rfl)) ?_; (with_reducible refine (spec_TreeOk.calls k _ _ l0_0 a0_1 true _ ?side1 ?side2 A3.out).mono ?_); (case side1 => exact pc (Kd.C_below HR0_0.out HB.out)); (case side2 => exact HC0_0.out); rintro e w16 ⟨rfl, hb⟩; refine ⟨_, rfl, ?_⟩; have n0_ := Aside0.mk (pb BK194.out hb); have n1_ := Aside0.mk (below_step (pl1 HB.out GE194.out) hb); clear BK194; clear HB; have BK194 := n0_; have HB := n1_; clear n0_ n1_; (try clear hb); (try clear hb2); (try clear hk); (try clear hi)) | ((with_reducible refine gate_dst (N := 11) rfl ?_); refine Kd.R_lit (Kd.int .i64) _ 3 ?hg (N := 11) ?hd (xs := ([] : List Int)) (inner := []) (ok := fun _ => True) (okp := fun _ => True) ?hr ?hp (fun _ hk => hk) trivial (Below.refl _ _) (Nat.le_refl _) (by simp) ?_; (case hd => rfl); (case hg => rfl); (case hr => first | (go_simp; done) | (go_simp; rfl)); (case hp => exact (Reps.none _ _)); intro v200 w17 ho18 hb hg_ hnew_; clear hg_ hnew_; (first | rw [← Ny199.out] at ho18 | (simp only [Int.reduceToNat] at ho18; rw [← Ny199.out] at ho18)); have n0_ := Aside0.mk (Kd.R_lower ho18 (below_size (pl1 HB.out GE194.out))); have n1_ := Aside0.mk (pb BK194.out hb); have n2_ := Aside0.mk (below_step (pl1 HB.out GE194.out) hb); clear BK194; clear HB; have HO201 := n0_; have BK194 := n1_; have HB := n2_; clear n0_ n1_ n2_; clear hb ho18; have hcz19_0 : w17.cell? ⟨gb194, 0, none⟩ = some (.slice A0_0 l0_0.length c0_0) := (blk_cell BK194.out 0).trans rfl; have hcz19_1 : w17.cell? ⟨gb194, 1, none⟩ = some (.int .i64 a0_1) := (blk_cell BK194.out 1).trans rfl; have hfz19_0 := blk_frozen BK194.out 0; have hfz19_1 := blk_frozen BK194.out 1) | ((with_reducible refine gate_callee (f := 48) rfl ?_); refine goesL_ (some 14) rfl rfl Try.func48 (by kernel_rfl) rfl #[.agg #[.slice A0_0 l0_0.length c0_0, .int .i64 a0_1], .int .i64 a1] rfl (by (try simp only [List.map_toArray, List.map_cons, List.map_nil]); first | done | rfl | (simp only [List.length_drop, List.length_take]; rfl)) ?_; (with_reducible refine (spec_l10At.calls k _ _ l0_0 a0_1 a1 t202 _ ?side1 ?side2 A5.out).mono ?_); (case side1 => exact pc (Kd.C_below HR0_0.out HB.out)); (case side2 => exact HC0_0.out); rintro e w20 ⟨rfl, hb⟩; refine ⟨_, rfl, ?_⟩; have n0_ := Aside0.mk (Kd.R_below (by (with_reducible repeat (first | apply Kd.R_alloc | apply Kd.R_drewN | apply Kd.R_drew)); exact HO201.out) hb); have n1_ := Aside0.mk (pb BK194.out hb); have n2_ := Aside0.mk (below_step (pl1 HB.out GE194.out) hb); clear HO201; clear BK194; clear HB; have HO201 := n0_; have BK194 := n1_; have HB := n2_; clear n0_ n1_ n2_; (try clear hb); (try clear hb2); (try clear hk); (try clear hi)))
    go_loopg [5, 6] k (fun kq v5 v6 w' => ∃ (x5_1 : List Int) (x6_1 : Int), v6 = .int .i64 x6_1 ∧ Aside0 (spec_BelowOf.l0 kq a1 x5_1 x6_1 l0_0 a0_1 = some r) ∧ Aside0 (kq ≤ k) ∧ Aside0 (Kd.R (Kd.int .i64) 3 w' w.heap.size (fun _ => True) v5 x5_1) ∧ Aside0 (w'.heap[gb194]? = some (.cells #[(.slice A0_0 l0_0.length c0_0), .int .i64 a0_1] 29 (0, 0))) ∧ Aside0 (Below w.heap.size w w'))
    case atStart => exact ⟨(y199), (0), eqa, H', ⟨Nat.le_refl _⟩, ⟨by (with_reducible repeat (first | apply Kd.R_alloc | apply Kd.R_drewN | apply Kd.R_drew)); exact HO201.out⟩, ⟨pk BK194.out⟩, ⟨pl1 HB.out GE194.out⟩⟩
    case round =>
     clear H'
     try clear c4; try clear c6; try clear c6b0; try clear hcz15_0; try clear hcz15_1; try clear hcz19_0; try clear hcz19_1; try clear hfz15_0; try clear hfz15_1; try clear hfz19_0; try clear hfz19_1
     obtain ⟨x5_1, x6_1, rfl, HA, HK1, HO_5, BK194, HB⟩ := hrel
     cases gk with
     | zero => exact absurd HA.out (by simp [spec_BelowOf.l0])
     | succ k1 =>
      have H := HA.out
      clear HA
      simp only [spec_BelowOf.l0] at H
      by_cases c21 : x6_1 < (l0_0.length : Int)
      ·rw [if_pos c21] at H
       have c21b0 : decide (x6_1 < (l0_0.length : Int)) = true := decide_eq_true c21
       clear c21
       by_cases c22 : 0 ≤ x6_1
       ·rw [if_pos c22] at H
        have c22b0 : decide (0 ≤ x6_1) = true := decide_eq_true c22
        clear c22
        replace H := Option.bind_eq_some_iff.mp H
        obtain ⟨t204, A230, H⟩ := H
        replace H : (if t204 = true then (if x5_1.length < 17592186044416 then (spec_BelowOf.l0 k1 a1 (x5_1 ++ [(rd_T52 l0_0 x6_1).f0]) (wrap64 (x6_1 + 1)) l0_0 a0_1) else (none)) else (spec_BelowOf.l0 k1 a1 x5_1 (wrap64 (x6_1 + 1)) l0_0 a0_1)) = some r := H
        have A23 := Aside0.mk A230
        clear A230
        by_cases c24 : t204 = true
        ·subst c24
         have H1 : (if x5_1.length < 17592186044416 then (spec_BelowOf.l0 k1 a1 (x5_1 ++ [(rd_T52 l0_0 x6_1).f0]) (wrap64 (x6_1 + 1)) l0_0 a0_1) else (none)) = some r := by rw [if_pos rfl] at H; exact H
         clear H
         have H := H1
         clear H1
         by_cases c25 : x5_1.length < 17592186044416
         ·rw [if_pos c25] at H
          have LMc25 := Aside0.mk c25
          clear c25
          obtain ⟨y206, hy206⟩ : ∃ y_ : List Int, y_ = (x5_1 ++ [(rd_T52 l0_0 x6_1).f0]) := ⟨_, rfl⟩
          replace H : (spec_BelowOf.l0 k1 a1 y206 (wrap64 (x6_1 + 1)) l0_0 a0_1) = some r := by first | (rw [hy206]; with_reducible exact H) | (have H2_ := (Option.bind_some _ _).symm.trans H; rw [hy206]; with_reducible exact H2_) | (have H2_ := (Option.bind_some _ _).symm.trans H; with_reducible exact H2_) | with_reducible exact H | (rw [hy206]; exact H) | exact H
          have Ny206 := Aside0.mk hy206
          clear hy206
          have H' := Aside0.mk H
          clear H
          obtain ⟨hcz26_0, hcz26_1, hfz26_0, hfz26_1⟩ := z2 BK194.out
          try go_wp2
          have n0_ := Aside0.mk (Kd.R_drew HO_5.out)
          have n1_ := Aside0.mk (blk_drew BK194.out)
          have n2_ := Aside0.mk (below_drew1 HB.out)
          clear HO_5
          clear BK194
          clear HB
          have HO_5 := n0_
          have BK194 := n1_
          have HB := n2_
          clear n0_ n1_ n2_
          have p203 : 0 ≤ (x6_1 : Int) := oda
          have q203 : x6_1 < (l0_0.length : Int) := oda
          obtain ⟨ad203, A203_7, c203_7, e203, hx203_0, hx203_1, hx203_2, hx203_3, hx203_4, hx203_5, hx203_6, hx203_7, hx203_8, hl203_7, hi203_7⟩ := at_T52 HR0_0.out x6_1 p203 q203
          have hw203_8 := hx203_8
          have hw203_7 := hx203_7
          have hw203_6 := hx203_6
          have hw203_5 := hx203_5
          have hw203_4 := hx203_4
          have hw203_3 := hx203_3
          have hw203_2 := hx203_2
          have hw203_1 := hx203_1
          have hw203_0 := hx203_0
          cases e203
          replace hx203_0 := hbc HB.out hx203_0
          replace hx203_1 := hbc HB.out hx203_1
          replace hx203_2 := hbc HB.out hx203_2
          replace hx203_3 := hbc HB.out hx203_3
          replace hx203_4 := hbc HB.out hx203_4
          replace hx203_5 := hbc HB.out hx203_5
          replace hx203_6 := hbc HB.out hx203_6
          replace hx203_7 := hbc HB.out hx203_7
          replace hx203_8 := hbc HB.out hx203_8
          have HR203_7 := Aside0.mk hi203_7
          have HC203_7 := Aside0.mk hl203_7
          clear hi203_7 hl203_7
          replace p203 := eq_true p203
          replace q203 := eq_true q203
          refine start_ (n := 9) (S := fun w' => w'.cell? ⟨gb194, 0, none⟩ = some (.slice (some ad203) l0_0.length c0_0) ∧ w'.cell? ⟨gb194, 1, none⟩ = some (.int .i64 a0_1) ∧ w'.cell? (ad203.add ((x6_1).toNat * 9)) = some (.int .i64 ((rd_T52 l0_0 x6_1).f0)) ∧ w'.cell? ⟨(ad203.add ((x6_1).toNat * 9)).block, (ad203.add ((x6_1).toNat * 9)).off + 1, none⟩ = some (.int .i64 ((rd_T52 l0_0 x6_1).f1)) ∧ w'.cell? ⟨(ad203.add ((x6_1).toNat * 9)).block, (ad203.add ((x6_1).toNat * 9)).off + 2, none⟩ = some (.string ((rd_T52 l0_0 x6_1).f2)) ∧ w'.cell? ⟨(ad203.add ((x6_1).toNat * 9)).block, (ad203.add ((x6_1).toNat * 9)).off + 3, none⟩ = some (.bool ((rd_T52 l0_0 x6_1).f3)) ∧ w'.cell? ⟨(ad203.add ((x6_1).toNat * 9)).block, (ad203.add ((x6_1).toNat * 9)).off + 4, none⟩ = some (.int .i64 ((rd_T52 l0_0 x6_1).f4)) ∧ w'.cell? ⟨(ad203.add ((x6_1).toNat * 9)).block, (ad203.add ((x6_1).toNat * 9)).off + 5, none⟩ = some (.int .i64 ((rd_T52 l0_0 x6_1).f5)) ∧ w'.cell? ⟨(ad203.add ((x6_1).toNat * 9)).block, (ad203.add ((x6_1).toNat * 9)).off + 6, none⟩ = some (.int .i64 ((rd_T52 l0_0 x6_1).f6)) ∧ w'.cell? ⟨(ad203.add ((x6_1).toNat * 9)).block, (ad203.add ((x6_1).toNat * 9)).off + 7, none⟩ = some (.slice A203_7 ((rd_T52 l0_0 x6_1).f7).length c203_7) ∧ w'.cell? ⟨(ad203.add ((x6_1).toNat * 9)).block, (ad203.add ((x6_1).toNat * 9)).off + 8, none⟩ = some (.int .i64 ((rd_T52 l0_0 x6_1).f8))) (ds := []) #[O,O,O,O,O,O,O,O,O] (by kernel_rfl) rfl rfl ⟨(blk_cell BK194.out 0).trans rfl, (blk_cell BK194.out 1).trans rfl, ((HB.out.cell (World.block_lt_of_cell? w _ hw203_0)).trans hw203_0), ((HB.out.cell (World.block_lt_of_cell? w _ hw203_1)).trans hw203_1), ((HB.out.cell (World.block_lt_of_cell? w _ hw203_2)).trans hw203_2), ((HB.out.cell (World.block_lt_of_cell? w _ hw203_3)).trans hw203_3), ((HB.out.cell (World.block_lt_of_cell? w _ hw203_4)).trans hw203_4), ((HB.out.cell (World.block_lt_of_cell? w _ hw203_5)).trans hw203_5), ((HB.out.cell (World.block_lt_of_cell? w _ hw203_6)).trans hw203_6), ((HB.out.cell (World.block_lt_of_cell? w _ hw203_7)).trans hw203_7), ((HB.out.cell (World.block_lt_of_cell? w _ hw203_8)).trans hw203_8)⟩ (fun hHeld => ?_); refine with_tabW spec_BelowOf.tab9 spec_BelowOf.bits9 (fun HT_ HW_ => ?_)
          generalize wr.drew = w27 at HO_5 BK194 HB HR203_7 hx203_0 hx203_1 hx203_2 hx203_3 hx203_4 hx203_5 hx203_6 hx203_7 hx203_8 hHeld ⊢
          refine pure_ (i := 1) (N := some 25) (v := ?_) (a' := ?_) #[O,Y,O,O,O,O,O,O,O] rfl rfl (any_of HT_.out (by kernel_rfl)) (fun _ _ _ h => h) (Or.inl ⟨by rfl, ?_⟩) ?_ ?_
          rotate_left
          ·intro w'
           go_simp
           with_reducible rfl
          rotate_left
          ·simp only [Act.put, List.setIfInBounds_toArray, List.set_cons_zero, List.set_cons_succ, i64_w, i32_w]
           rfl
          refine pure_ (i := 3) (N := some 27) (v := ?_) (a' := ?_) #[O,Y,O,Y,O,O,O,O,O] rfl rfl (any_of HT_.out (by kernel_rfl)) (fun _ _ _ h => h) (Or.inl ⟨by rfl, ?_⟩) ?_ ?_
          rotate_left
          ·intro w'
           go_simp
           with_reducible rfl
          rotate_left
          ·simp only [Act.put, List.setIfInBounds_toArray, List.set_cons_zero, List.set_cons_succ, i64_w, i32_w]
           rfl
          refine pure_ (i := 7) (N := some 31) (v := ?_) (a' := ?_) #[O,Y,O,Y,O,O,O,Y,O] rfl rfl (any_of HT_.out (by kernel_rfl)) (fun _ _ _ h => h) (Or.inl ⟨by rfl, ?_⟩) ?_ ?_
          rotate_left
          ·intro w'
           go_simp
           with_reducible rfl
          rotate_left
          ·simp only [Act.put, List.setIfInBounds_toArray, List.set_cons_zero, List.set_cons_succ, i64_w, i32_w]
           rfl
          refine take_ (i := 0) (N := some 24) (v := ?_) (a' := ?_) #[Y,Y,O,Y,O,O,O,Y,O] rfl rfl (take_ofW HT_.out HW_.out (by kernel_rfl)) (fun _ _ _ h => h) (Or.inl ⟨by rfl, ?_⟩) hHeld ?_ ?_
          rotate_left
          ·rintro w' ⟨s0, s1, s2, s3, s4, s5, s6, s7, s8, s9, s10⟩
           go_simp
           with_reducible rfl
          rotate_left
          ·simp only [Act.put, List.setIfInBounds_toArray, List.set_cons_zero, List.set_cons_succ, i64_w, i32_w]
           rfl
          refine take_ (i := 2) (N := some 26) (v := ?_) (a' := ?_) #[Y,Y,Y,Y,O,O,O,Y,O] rfl rfl (take_ofW HT_.out HW_.out (by kernel_rfl)) (fun _ _ _ h => h) (Or.inl ⟨by rfl, ?_⟩) hHeld ?_ ?_
          rotate_left
          ·rintro w' ⟨s0, s1, s2, s3, s4, s5, s6, s7, s8, s9, s10⟩
           go_simp
           with_reducible rfl
          rotate_left
          ·simp only [Act.put, List.setIfInBounds_toArray, List.set_cons_zero, List.set_cons_succ, i64_w, i32_w]
           rfl
          refine pure_ (i := 4) (N := some 28) (v := ?_) (a' := ?_) #[Y,Y,Y,Y,Y,O,O,Y,O] rfl rfl (any_of HT_.out (by kernel_rfl)) (fun _ _ _ h => h) (Or.inl ⟨by rfl, ?_⟩) ?_ ?_
          rotate_left
          ·intro w'
           go_simp
           with_reducible rfl
          rotate_left
          ·simp only [Act.put, List.setIfInBounds_toArray, List.set_cons_zero, List.set_cons_succ, i64_w, i32_w]
           rfl
          refine pure_ (i := 5) (N := some 29) (v := ?_) (a' := ?_) #[Y,Y,Y,Y,Y,Y,O,Y,O] rfl rfl (any_of HT_.out (by kernel_rfl)) (fun _ _ _ h => h) (Or.inl ⟨by rfl, ?_⟩) ?_ ?_
          rotate_left
          ·intro w'
           go_simp
           with_reducible rfl
          rotate_left
          ·simp only [Act.put, List.setIfInBounds_toArray, List.set_cons_zero, List.set_cons_succ, i64_w, i32_w]
           rfl
          refine take_ (i := 6) (N := some 30) (v := ?_) (a' := ?_) #[Y,Y,Y,Y,Y,Y,Y,Y,O] rfl rfl (take_ofW HT_.out HW_.out (by kernel_rfl)) (fun _ _ _ h => h) (Or.inl ⟨by rfl, ?_⟩) hHeld ?_ ?_
          rotate_left
          ·rintro w' ⟨s0, s1, s2, s3, s4, s5, s6, s7, s8, s9, s10⟩
           go_simp
           with_reducible rfl
          rotate_left
          ·simp only [Act.put, List.setIfInBounds_toArray, List.set_cons_zero, List.set_cons_succ, i64_w, i32_w]
           rfl
          refine one_ (i := 8) (N := some 32) #[Y,Y,Y,Y,Y,Y,Y,Y,Y] rfl rfl (one_of HT_.out (by kernel_rfl)) (by decide) (fun K hK => ?_)
          refine goes_ Try.func52 (by kernel_rfl) rfl #[.agg #[.slice (some ad203) l0_0.length c0_0, .int .i64 a0_1], .int .i64 ((rd_T52 l0_0 x6_1).f0), .int .i64 a1] (by rfl) rfl rfl (by (try simp only [List.map_toArray, List.map_cons, List.map_nil]); first | done | rfl | (simp only [List.length_drop, List.length_take]; rfl)) ?_
          with_reducible refine (spec_l10Below.calls k1 _ _ l0_0 a0_1 ((rd_T52 l0_0 x6_1).f0) a1 true _ ?side1 ?side2 A23.out).mono ?_
          (case side1 => exact pc (Kd.C_below HR0_0.out HB.out))
          (case side2 => exact HC0_0.out)
          rintro e w28 ⟨rfl, hb⟩
          refine ⟨_, rfl, ?_⟩
          have n0_ := Aside0.mk (Kd.R_below (by (with_reducible repeat (first | apply Kd.R_alloc | apply Kd.R_drewN | apply Kd.R_drew)); exact HO_5.out) hb)
          have n1_ := Aside0.mk (pb BK194.out hb)
          have n2_ := Aside0.mk (below_step (pl1 HB.out GE194.out) hb)
          clear HO_5
          clear BK194
          clear HB
          have HO_5 := n0_
          have BK194 := n1_
          have HB := n2_
          clear n0_ n1_ n2_
          (try clear hb)
          (try clear hb2)
          (try clear hk)
          (try clear hi)
          refine hK.out _ _ ⟨(blk_cell BK194.out 0).trans rfl, (blk_cell BK194.out 1).trans rfl, ((HB.out.cell (World.block_lt_of_cell? w _ hw203_0)).trans hw203_0), ((HB.out.cell (World.block_lt_of_cell? w _ hw203_1)).trans hw203_1), ((HB.out.cell (World.block_lt_of_cell? w _ hw203_2)).trans hw203_2), ((HB.out.cell (World.block_lt_of_cell? w _ hw203_3)).trans hw203_3), ((HB.out.cell (World.block_lt_of_cell? w _ hw203_4)).trans hw203_4), ((HB.out.cell (World.block_lt_of_cell? w _ hw203_5)).trans hw203_5), ((HB.out.cell (World.block_lt_of_cell? w _ hw203_6)).trans hw203_6), ((HB.out.cell (World.block_lt_of_cell? w _ hw203_7)).trans hw203_7), ((HB.out.cell (World.block_lt_of_cell? w _ hw203_8)).trans hw203_8)⟩ (fun hHeld => ?_)
          clear hK K
          refine norm_ (a' := ?_) ?_ ?_
          rotate_left
          ·show Act.put _ (some 32) _ = _
           simp only [Act.put, List.setIfInBounds_toArray, List.set_cons_zero, List.set_cons_succ, i64_w, i32_w]
           rfl
          refine done_ (done_of HT_.out (by kernel_rfl)) ?_
          obtain ⟨hcz29_0, hcz29_1, hfz29_0, hfz29_1⟩ := z2 BK194.out
          have p205 : 0 ≤ (x6_1 : Int) := oda
          have q205 : x6_1 < (l0_0.length : Int) := oda
          obtain ⟨ad205, A205_7, c205_7, e205, hx205_0, hx205_1, hx205_2, hx205_3, hx205_4, hx205_5, hx205_6, hx205_7, hx205_8, hl205_7, hi205_7⟩ := at_T52 HR0_0.out x6_1 p205 q205
          obtain rfl : ad203 = ad205 := (by injection e205)
          replace hx205_0 := hbc HB.out hx205_0
          have HR205_7 := Aside0.mk hi205_7
          have HC205_7 := Aside0.mk hl205_7
          clear hi205_7 hl205_7
          replace p205 := eq_true p205
          replace q205 := eq_true q205
          try go_wp2_with (first | ((with_reducible refine gate_builtin (b := .append) (xs := #[.tmp 33, .tmp 40]) rfl ?_); at_builtin; refine Kd.R_append (Kd.int .i64) (w0 := w) w.heap.size rfl (.tmp 33) (.tmp 40) 38 3 (.int .i64 0) 8 rfl Try.underlying38 info3 rfl (by decide) (by omega) u5 x5_1 ((rd_T52 l0_0 x6_1).f0) [.int .i64 ((rd_T52 l0_0 x6_1).f0)] (fun _ => True) (fun _ => False) rfl rfl ?aP (fun _ hk => hk.elim) ?aF ?aO ?aB ?aS ?aL ?_; (case aP => exact rfl); (case aB => exact (pl1 HB.out GE194.out)); (case aF => exact (fun _ _ => trivial)); (case aO => exact (by (with_reducible repeat (first | apply Kd.R_alloc | apply Kd.R_drewN | apply Kd.R_drew)); exact HO_5.out)); (case aS => exact (below_size (pl1 HB.out GE194.out))); (case aL => have := LMc25.out; omega); intro v207 w30 ho hb hg hat; rw [← Ny206.out] at ho; have n0_ := Aside0.mk (blk_grown (g := gb194) (o := .cells #[.slice (some ad203) l0_0.length c0_0, .int .i64 a0_1] 29 (0, 0)) (pk BK194.out) hg (Kd.R_ne HO_5.out BK194.out (by decide))); have n1_ := Aside0.mk (hb); have n2_ := Aside0.mk (ho); clear BK194; clear HB; clear HO_5; have BK194 := n0_; have HB := n1_; have HO208 := n2_; clear n0_ n1_ n2_; clear ho hb hg hat))
          go_roundg k1
          case measure => have := HK1.out; omega
          case rel => exact ⟨(y206), (wrap64 (x6_1 + 1)), eqa, H', ⟨by have := HK1.out; omega⟩, ⟨by (with_reducible repeat (first | apply Kd.R_alloc | apply Kd.R_drewN | apply Kd.R_drew)); exact HO208.out⟩, ⟨pk BK194.out⟩, ⟨pl1 HB.out GE194.out⟩⟩
         ·rw [if_neg c25] at H
          exact absurd H (by simp)
        ·replace c24 := Bool.eq_false_iff.mpr c24
         subst c24
         have H1 : (spec_BelowOf.l0 k1 a1 x5_1 (wrap64 (x6_1 + 1)) l0_0 a0_1) = some r := by rw [if_neg (show ¬ (false = true) by decide)] at H; exact H
         clear H
         have H := H1
         clear H1
         have H' := Aside0.mk H
         clear H
         obtain ⟨hcz31_0, hcz31_1, hfz31_0, hfz31_1⟩ := z2 BK194.out
         try go_wp2
         have n0_ := Aside0.mk (Kd.R_drew HO_5.out)
         have n1_ := Aside0.mk (blk_drew BK194.out)
         have n2_ := Aside0.mk (below_drew1 HB.out)
         clear HO_5
         clear BK194
         clear HB
         have HO_5 := n0_
         have BK194 := n1_
         have HB := n2_
         clear n0_ n1_ n2_
         have p203 : 0 ≤ (x6_1 : Int) := oda
         have q203 : x6_1 < (l0_0.length : Int) := oda
         obtain ⟨ad203, A203_7, c203_7, e203, hx203_0, hx203_1, hx203_2, hx203_3, hx203_4, hx203_5, hx203_6, hx203_7, hx203_8, hl203_7, hi203_7⟩ := at_T52 HR0_0.out x6_1 p203 q203
         have hw203_8 := hx203_8
         have hw203_7 := hx203_7
         have hw203_6 := hx203_6
         have hw203_5 := hx203_5
         have hw203_4 := hx203_4
         have hw203_3 := hx203_3
         have hw203_2 := hx203_2
         have hw203_1 := hx203_1
         have hw203_0 := hx203_0
         cases e203
         replace hx203_0 := hbc HB.out hx203_0
         replace hx203_1 := hbc HB.out hx203_1
         replace hx203_2 := hbc HB.out hx203_2
         replace hx203_3 := hbc HB.out hx203_3
         replace hx203_4 := hbc HB.out hx203_4
         replace hx203_5 := hbc HB.out hx203_5
         replace hx203_6 := hbc HB.out hx203_6
         replace hx203_7 := hbc HB.out hx203_7
         replace hx203_8 := hbc HB.out hx203_8
         have HR203_7 := Aside0.mk hi203_7
         have HC203_7 := Aside0.mk hl203_7
         clear hi203_7 hl203_7
         replace p203 := eq_true p203
         replace q203 := eq_true q203
         refine start_ (n := 9) (S := fun w' => w'.cell? ⟨gb194, 0, none⟩ = some (.slice (some ad203) l0_0.length c0_0) ∧ w'.cell? ⟨gb194, 1, none⟩ = some (.int .i64 a0_1) ∧ w'.cell? (ad203.add ((x6_1).toNat * 9)) = some (.int .i64 ((rd_T52 l0_0 x6_1).f0)) ∧ w'.cell? ⟨(ad203.add ((x6_1).toNat * 9)).block, (ad203.add ((x6_1).toNat * 9)).off + 1, none⟩ = some (.int .i64 ((rd_T52 l0_0 x6_1).f1)) ∧ w'.cell? ⟨(ad203.add ((x6_1).toNat * 9)).block, (ad203.add ((x6_1).toNat * 9)).off + 2, none⟩ = some (.string ((rd_T52 l0_0 x6_1).f2)) ∧ w'.cell? ⟨(ad203.add ((x6_1).toNat * 9)).block, (ad203.add ((x6_1).toNat * 9)).off + 3, none⟩ = some (.bool ((rd_T52 l0_0 x6_1).f3)) ∧ w'.cell? ⟨(ad203.add ((x6_1).toNat * 9)).block, (ad203.add ((x6_1).toNat * 9)).off + 4, none⟩ = some (.int .i64 ((rd_T52 l0_0 x6_1).f4)) ∧ w'.cell? ⟨(ad203.add ((x6_1).toNat * 9)).block, (ad203.add ((x6_1).toNat * 9)).off + 5, none⟩ = some (.int .i64 ((rd_T52 l0_0 x6_1).f5)) ∧ w'.cell? ⟨(ad203.add ((x6_1).toNat * 9)).block, (ad203.add ((x6_1).toNat * 9)).off + 6, none⟩ = some (.int .i64 ((rd_T52 l0_0 x6_1).f6)) ∧ w'.cell? ⟨(ad203.add ((x6_1).toNat * 9)).block, (ad203.add ((x6_1).toNat * 9)).off + 7, none⟩ = some (.slice A203_7 ((rd_T52 l0_0 x6_1).f7).length c203_7) ∧ w'.cell? ⟨(ad203.add ((x6_1).toNat * 9)).block, (ad203.add ((x6_1).toNat * 9)).off + 8, none⟩ = some (.int .i64 ((rd_T52 l0_0 x6_1).f8))) (ds := []) #[O,O,O,O,O,O,O,O,O] (by kernel_rfl) rfl rfl ⟨(blk_cell BK194.out 0).trans rfl, (blk_cell BK194.out 1).trans rfl, ((HB.out.cell (World.block_lt_of_cell? w _ hw203_0)).trans hw203_0), ((HB.out.cell (World.block_lt_of_cell? w _ hw203_1)).trans hw203_1), ((HB.out.cell (World.block_lt_of_cell? w _ hw203_2)).trans hw203_2), ((HB.out.cell (World.block_lt_of_cell? w _ hw203_3)).trans hw203_3), ((HB.out.cell (World.block_lt_of_cell? w _ hw203_4)).trans hw203_4), ((HB.out.cell (World.block_lt_of_cell? w _ hw203_5)).trans hw203_5), ((HB.out.cell (World.block_lt_of_cell? w _ hw203_6)).trans hw203_6), ((HB.out.cell (World.block_lt_of_cell? w _ hw203_7)).trans hw203_7), ((HB.out.cell (World.block_lt_of_cell? w _ hw203_8)).trans hw203_8)⟩ (fun hHeld => ?_); refine with_tabW spec_BelowOf.tab9 spec_BelowOf.bits9 (fun HT_ HW_ => ?_)
         generalize wr.drew = w32 at HO_5 BK194 HB HR203_7 hx203_0 hx203_1 hx203_2 hx203_3 hx203_4 hx203_5 hx203_6 hx203_7 hx203_8 hHeld ⊢
         refine pure_ (i := 1) (N := some 25) (v := ?_) (a' := ?_) #[O,Y,O,O,O,O,O,O,O] rfl rfl (any_of HT_.out (by kernel_rfl)) (fun _ _ _ h => h) (Or.inl ⟨by rfl, ?_⟩) ?_ ?_
         rotate_left
         ·intro w'
          go_simp
          with_reducible rfl
         rotate_left
         ·simp only [Act.put, List.setIfInBounds_toArray, List.set_cons_zero, List.set_cons_succ, i64_w, i32_w]
          rfl
         refine pure_ (i := 3) (N := some 27) (v := ?_) (a' := ?_) #[O,Y,O,Y,O,O,O,O,O] rfl rfl (any_of HT_.out (by kernel_rfl)) (fun _ _ _ h => h) (Or.inl ⟨by rfl, ?_⟩) ?_ ?_
         rotate_left
         ·intro w'
          go_simp
          with_reducible rfl
         rotate_left
         ·simp only [Act.put, List.setIfInBounds_toArray, List.set_cons_zero, List.set_cons_succ, i64_w, i32_w]
          rfl
         refine pure_ (i := 7) (N := some 31) (v := ?_) (a' := ?_) #[O,Y,O,Y,O,O,O,Y,O] rfl rfl (any_of HT_.out (by kernel_rfl)) (fun _ _ _ h => h) (Or.inl ⟨by rfl, ?_⟩) ?_ ?_
         rotate_left
         ·intro w'
          go_simp
          with_reducible rfl
         rotate_left
         ·simp only [Act.put, List.setIfInBounds_toArray, List.set_cons_zero, List.set_cons_succ, i64_w, i32_w]
          rfl
         refine take_ (i := 0) (N := some 24) (v := ?_) (a' := ?_) #[Y,Y,O,Y,O,O,O,Y,O] rfl rfl (take_ofW HT_.out HW_.out (by kernel_rfl)) (fun _ _ _ h => h) (Or.inl ⟨by rfl, ?_⟩) hHeld ?_ ?_
         rotate_left
         ·rintro w' ⟨s0, s1, s2, s3, s4, s5, s6, s7, s8, s9, s10⟩
          go_simp
          with_reducible rfl
         rotate_left
         ·simp only [Act.put, List.setIfInBounds_toArray, List.set_cons_zero, List.set_cons_succ, i64_w, i32_w]
          rfl
         refine take_ (i := 2) (N := some 26) (v := ?_) (a' := ?_) #[Y,Y,Y,Y,O,O,O,Y,O] rfl rfl (take_ofW HT_.out HW_.out (by kernel_rfl)) (fun _ _ _ h => h) (Or.inl ⟨by rfl, ?_⟩) hHeld ?_ ?_
         rotate_left
         ·rintro w' ⟨s0, s1, s2, s3, s4, s5, s6, s7, s8, s9, s10⟩
          go_simp
          with_reducible rfl
         rotate_left
         ·simp only [Act.put, List.setIfInBounds_toArray, List.set_cons_zero, List.set_cons_succ, i64_w, i32_w]
          rfl
         refine pure_ (i := 4) (N := some 28) (v := ?_) (a' := ?_) #[Y,Y,Y,Y,Y,O,O,Y,O] rfl rfl (any_of HT_.out (by kernel_rfl)) (fun _ _ _ h => h) (Or.inl ⟨by rfl, ?_⟩) ?_ ?_
         rotate_left
         ·intro w'
          go_simp
          with_reducible rfl
         rotate_left
         ·simp only [Act.put, List.setIfInBounds_toArray, List.set_cons_zero, List.set_cons_succ, i64_w, i32_w]
          rfl
         refine pure_ (i := 5) (N := some 29) (v := ?_) (a' := ?_) #[Y,Y,Y,Y,Y,Y,O,Y,O] rfl rfl (any_of HT_.out (by kernel_rfl)) (fun _ _ _ h => h) (Or.inl ⟨by rfl, ?_⟩) ?_ ?_
         rotate_left
         ·intro w'
          go_simp
          with_reducible rfl
         rotate_left
         ·simp only [Act.put, List.setIfInBounds_toArray, List.set_cons_zero, List.set_cons_succ, i64_w, i32_w]
          rfl
         refine take_ (i := 6) (N := some 30) (v := ?_) (a' := ?_) #[Y,Y,Y,Y,Y,Y,Y,Y,O] rfl rfl (take_ofW HT_.out HW_.out (by kernel_rfl)) (fun _ _ _ h => h) (Or.inl ⟨by rfl, ?_⟩) hHeld ?_ ?_
         rotate_left
         ·rintro w' ⟨s0, s1, s2, s3, s4, s5, s6, s7, s8, s9, s10⟩
          go_simp
          with_reducible rfl
         rotate_left
         ·simp only [Act.put, List.setIfInBounds_toArray, List.set_cons_zero, List.set_cons_succ, i64_w, i32_w]
          rfl
         refine one_ (i := 8) (N := some 32) #[Y,Y,Y,Y,Y,Y,Y,Y,Y] rfl rfl (one_of HT_.out (by kernel_rfl)) (by decide) (fun K hK => ?_)
         refine goes_ Try.func52 (by kernel_rfl) rfl #[.agg #[.slice (some ad203) l0_0.length c0_0, .int .i64 a0_1], .int .i64 ((rd_T52 l0_0 x6_1).f0), .int .i64 a1] (by rfl) rfl rfl (by (try simp only [List.map_toArray, List.map_cons, List.map_nil]); first | done | rfl | (simp only [List.length_drop, List.length_take]; rfl)) ?_
         with_reducible refine (spec_l10Below.calls k1 _ _ l0_0 a0_1 ((rd_T52 l0_0 x6_1).f0) a1 false _ ?side1 ?side2 A23.out).mono ?_
         (case side1 => exact pc (Kd.C_below HR0_0.out HB.out))
         (case side2 => exact HC0_0.out)
         rintro e w33 ⟨rfl, hb⟩
         refine ⟨_, rfl, ?_⟩
         have n0_ := Aside0.mk (Kd.R_below (by (with_reducible repeat (first | apply Kd.R_alloc | apply Kd.R_drewN | apply Kd.R_drew)); exact HO_5.out) hb)
         have n1_ := Aside0.mk (pb BK194.out hb)
         have n2_ := Aside0.mk (below_step (pl1 HB.out GE194.out) hb)
         clear HO_5
         clear BK194
         clear HB
         have HO_5 := n0_
         have BK194 := n1_
         have HB := n2_
         clear n0_ n1_ n2_
         (try clear hb)
         (try clear hb2)
         (try clear hk)
         (try clear hi)
         refine hK.out _ _ ⟨(blk_cell BK194.out 0).trans rfl, (blk_cell BK194.out 1).trans rfl, ((HB.out.cell (World.block_lt_of_cell? w _ hw203_0)).trans hw203_0), ((HB.out.cell (World.block_lt_of_cell? w _ hw203_1)).trans hw203_1), ((HB.out.cell (World.block_lt_of_cell? w _ hw203_2)).trans hw203_2), ((HB.out.cell (World.block_lt_of_cell? w _ hw203_3)).trans hw203_3), ((HB.out.cell (World.block_lt_of_cell? w _ hw203_4)).trans hw203_4), ((HB.out.cell (World.block_lt_of_cell? w _ hw203_5)).trans hw203_5), ((HB.out.cell (World.block_lt_of_cell? w _ hw203_6)).trans hw203_6), ((HB.out.cell (World.block_lt_of_cell? w _ hw203_7)).trans hw203_7), ((HB.out.cell (World.block_lt_of_cell? w _ hw203_8)).trans hw203_8)⟩ (fun hHeld => ?_)
         clear hK K
         refine norm_ (a' := ?_) ?_ ?_
         rotate_left
         ·show Act.put _ (some 32) _ = _
          simp only [Act.put, List.setIfInBounds_toArray, List.set_cons_zero, List.set_cons_succ, i64_w, i32_w]
          rfl
         refine done_ (done_of HT_.out (by kernel_rfl)) ?_
         try go_wp2
         go_roundg k1
         case measure => have := HK1.out; omega
         case rel => exact ⟨(x5_1), (wrap64 (x6_1 + 1)), eqa, H', ⟨by have := HK1.out; omega⟩, ⟨by (with_reducible repeat (first | apply Kd.R_alloc | apply Kd.R_drewN | apply Kd.R_drew)); exact HO_5.out⟩, ⟨pk BK194.out⟩, ⟨pl1 HB.out GE194.out⟩⟩
       ·rw [if_neg c22] at H
        exact absurd H (by simp)
      ·rw [if_neg c21] at H
       have c21b0 : decide (x6_1 < (l0_0.length : Int)) = false := decide_eq_false c21
       clear c21
       obtain rfl := Option.some.inj H
       obtain ⟨hcz34_0, hcz34_1, hfz34_0, hfz34_1⟩ := z2 BK194.out
       go_wp2
       go_ret
       exact ⟨_, erq, by (with_reducible repeat (first | apply Kd.R_alloc | apply Kd.R_drewN | apply Kd.R_drew)); exact HO_5.out, pl1 HB.out GE194.out⟩
  ·replace c4 := Bool.eq_false_iff.mpr c4
   subst c4
   have H1 : (some (([] : List Int))) = some r := by rw [if_neg (show ¬ (false = true) by decide)] at H; exact H
   clear H
   have H := H1
   clear H1
   obtain ⟨y196, hy196⟩ : ∃ y_ : List Int, y_ = (([] : List Int)) := ⟨_, rfl⟩
   replace H : (some y196) = some r := by first | (rw [hy196]; with_reducible exact H) | (have H2_ := (Option.bind_some _ _).symm.trans H; rw [hy196]; with_reducible exact H2_) | (have H2_ := (Option.bind_some _ _).symm.trans H; with_reducible exact H2_) | with_reducible exact H | (rw [hy196]; exact H) | exact H
   have Ny196 := Aside0.mk hy196
   clear hy196
   obtain rfl := Option.some.inj H
   go_enter Try.func24, Try.ntmps24
   go_wp2_with (first | ((with_reducible refine gate_dst (N := 2) rfl ?_); refine box_event ?hg (N := 2) ?hd (cs := #[.slice A0_0 l0_0.length c0_0, .int .i64 a0_1]) (t := 29) ?hr ?_; (case hd => rfl); (case hg => rfl); (case hr => first | (go_simp; done) | (go_simp; rfl)); intro gb194 hg w35 hbox hb; have n0_ := Aside0.mk (below_step (pl0 HB.out) hb); have n1_ := Aside0.mk (hbox); have n2_ := Aside0.mk ((by rw [hg]; exact (below_size (pl0 HB.out)) : w.heap.size ≤ gb194)); have n3_ := Aside0.mk ((by rw [hg]; exact (below_size (pl0 HB.out)) : w.heap.size ≤ gb194)); clear HB; have HB := n0_; have BK194 := n1_; have GW194 := n2_; have GE194 := n3_; clear n0_ n1_ n2_ n3_; clear hb hbox hg; have hcz36_0 : w35.cell? ⟨gb194, 0, none⟩ = some (.slice A0_0 l0_0.length c0_0) := (blk_cell BK194.out 0).trans rfl; have hcz36_1 : w35.cell? ⟨gb194, 1, none⟩ = some (.int .i64 a0_1) := (blk_cell BK194.out 1).trans rfl; have hfz36_0 := blk_frozen BK194.out 0; have hfz36_1 := blk_frozen BK194.out 1) | ((with_reducible refine gate_callee (f := 12) rfl ?_); refine goesL_ (some 8) rfl rfl Try.func12 (by kernel_rfl) rfl #[.agg #[.slice A0_0 l0_0.length c0_0, .int .i64 a0_1]] rfl (by (try simp only [List.map_toArray, List.map_cons, List.map_nil]); first | done | rfl | (simp only [List.length_drop, List.length_take]; rfl)) ?_; (with_reducible refine (spec_TreeOk.calls k _ _ l0_0 a0_1 false _ ?side1 ?side2 A3.out).mono ?_); (case side1 => exact pc (Kd.C_below HR0_0.out HB.out)); (case side2 => exact HC0_0.out); rintro e w37 ⟨rfl, hb⟩; refine ⟨_, rfl, ?_⟩; have n0_ := Aside0.mk (pb BK194.out hb); have n1_ := Aside0.mk (below_step (pl1 HB.out GE194.out) hb); clear BK194; clear HB; have BK194 := n0_; have HB := n1_; clear n0_ n1_; (try clear hb); (try clear hb2); (try clear hk); (try clear hi)) | ((with_reducible refine gate_dst (N := 10) rfl ?_); refine Kd.R_lit (Kd.int .i64) _ 3 ?hg (N := 10) ?hd (xs := ([] : List Int)) (inner := []) (ok := fun _ => True) (okp := fun _ => True) ?hr ?hp (fun _ hk => hk) trivial (Below.refl _ _) (Nat.le_refl _) (by simp) ?_; (case hd => rfl); (case hg => rfl); (case hr => first | (go_simp; done) | (go_simp; rfl)); (case hp => exact (Reps.none _ _)); intro v197 w38 ho39 hb hg_ hnew_; clear hg_ hnew_; (first | rw [← Ny196.out] at ho39 | (simp only [Int.reduceToNat] at ho39; rw [← Ny196.out] at ho39)); have n0_ := Aside0.mk (Kd.R_lower ho39 (below_size (pl1 HB.out GE194.out))); have n1_ := Aside0.mk (pb BK194.out hb); have n2_ := Aside0.mk (below_step (pl1 HB.out GE194.out) hb); clear BK194; clear HB; have HO198 := n0_; have BK194 := n1_; have HB := n2_; clear n0_ n1_ n2_; clear hb ho39))
   go_ret
   exact ⟨_, erq, by (with_reducible repeat (first | apply Kd.R_alloc | apply Kd.R_drewN | apply Kd.R_drew)); exact HO198.out, pl1 HB.out GE194.out⟩

end Go.Proofs.Ytnhbfbgflgplcaa.QTW
