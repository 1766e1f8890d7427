/- Walks, as the kit's print writes them, run with stubs of my own and mended: TW. -/
import Derived.Test.YtnhbfbgflgplcaaQTW0
import Derived.Test.YtnhbfbgflgplcaaQTW5
namespace Go.Proofs.Ytnhbfbgflgplcaa.QTW
open Go.Proofs.YtnhbfbgflgplcaaW Go.Proofs.YtnhbfbgflgplcaaW.Zip
open Go.RowKit Go.Proofs.YtnhbfbgflgplcaaW.PrintWords Go.Proofs.YtnhbfbgflgplcaaW.PrintLast Go.Proofs.YtnhbfbgflgplcaaW.PrintMore
attribute [local go_sem] max2_int min2_int max_two min_two max_three min_three max_four min_four   -- for this text's walks alone
set_option linter.unusedVariables false
set_option linter.unusedSimpArgs false

/-! ### spec_l10File: function 60 -/
mutual
def spec_l10File.j0 : Nat → Bool → Int → Int → ByteArray → Bool → Int → Int → Int → List (S64) → Int → Option (Bool)
  | 0, _, _, _, _, _, _, _, _, _, _ => none
  | k + 1, x25, x165000, x165001, x165002, x165003, x165004, x165005, x165006, x165007, x165008 => if x25 = true then (some false) else (spec_l10File.l0 k 0 0 x165000 x165001 x165002 x165003 x165004 x165005 x165006 x165007 x165008)
def spec_l10File.l0 : Nat → Int → Int → Int → Int → ByteArray → Bool → Int → Int → Int → List (S64) → Int → Option (Bool)
  | 0, _, _, _, _, _, _, _, _, _, _, _ => none
  | k + 1, x3, x4, x165000, x165001, x165002, x165003, x165004, x165005, x165006, x165007, x165008 => if x4 < (x165007.length : Int) then (if 0 ≤ x4 then ((spec_l01In.f ((rd_T64 x165007 x4).f0) 1 100000).bind fun t168 => (if t168 = true then ((spec_GroupSize.f x165004).bind fun t170 => ((spec_l01In.f ((rd_T64 x165007 x4).f1) 1 t170).bind fun t171 => (if t171 = true then (spec_l10File.l0 k (wrap64 (x3 + ((rd_T64 x165007 x4).f1))) (wrap64 (x4 + 1)) x165000 x165001 x165002 x165003 x165004 x165005 x165006 x165007 x165008) else (some false)))) else (some false))) else (none)) else (if x3 = x165006 then (some (decide (x3 ≤ 1000))) else (some false))
end
def spec_l10File.f (k : Nat) (a0_0 : Int) (a0_1 : Int) (a0_2 : ByteArray) (a0_3 : Bool) (a0_4 : Int) (a0_5 : Int) (a0_6 : Int) (l0_7 : List (S64)) (a0_8 : Int) : Option (Bool) := (spec_l01In.f a0_4 1 3).bind fun t165 => (if t165 = true then (if a0_5 = 0 then (if (l0_7.length : Int) > 40 then (spec_l10File.j0 k true a0_0 a0_1 a0_2 a0_3 a0_4 a0_5 a0_6 l0_7 a0_8) else ((spec_l01In.f a0_8 0 9).bind fun t166 => (spec_l10File.j0 k (!t166) a0_0 a0_1 a0_2 a0_3 a0_4 a0_5 a0_6 l0_7 a0_8))) else (spec_l10File.j0 k true a0_0 a0_1 a0_2 a0_3 a0_4 a0_5 a0_6 l0_7 a0_8)) else (spec_l10File.j0 k true a0_0 a0_1 a0_2 a0_3 a0_4 a0_5 a0_6 l0_7 a0_8))
theorem spec_l10File.mono_l : ∀ k, (∀ y0 y1 y2 y3 y4 y5 y6 y7 y8 y9, LeO (spec_l10File.j0 k y0 y1 y2 y3 y4 y5 y6 y7 y8 y9) (spec_l10File.j0 (k + 1) y0 y1 y2 y3 y4 y5 y6 y7 y8 y9)) ∧ (∀ y0 y1 y2 y3 y4 y5 y6 y7 y8 y9 y10, LeO (spec_l10File.l0 k y0 y1 y2 y3 y4 y5 y6 y7 y8 y9 y10) (spec_l10File.l0 (k + 1) y0 y1 y2 y3 y4 y5 y6 y7 y8 y9 y10))
  | 0 => ⟨fun _ _ _ _ _ _ _ _ _ _ r h => by simp [spec_l10File.j0] at h, fun _ _ _ _ _ _ _ _ _ _ _ r h => by simp [spec_l10File.l0] at h⟩
  | k + 1 => by
    obtain ⟨ih0, ih1⟩ := spec_l10File.mono_l k
    refine ⟨?_, ?_⟩
    · intro y0 y1 y2 y3 y4 y5 y6 y7 y8 y9
      unfold spec_l10File.j0
      repeat' first
      | (with_reducible exact ih0 _ _ _ _ _ _ _ _ _ _)
      | (with_reducible exact ih1 _ _ _ _ _ _ _ _ _ _ _)
      | (with_reducible exact LeO.refl _)
      | (with_reducible exact LeO.none _)
      | (with_reducible refine LeO.ite ?_ ?_)
      | (with_reducible refine LeO.bind ?_ (fun _ => ?_))
      | exact ih0 _ _ _ _ _ _ _ _ _ _
      | exact ih1 _ _ _ _ _ _ _ _ _ _ _
      | exact LeO.none _
      | refine LeO.ite ?_ ?_
      | refine LeO.bind ?_ (fun _ => ?_)
    · intro y0 y1 y2 y3 y4 y5 y6 y7 y8 y9 y10
      unfold spec_l10File.l0
      repeat' first
      | (with_reducible exact ih0 _ _ _ _ _ _ _ _ _ _)
      | (with_reducible exact ih1 _ _ _ _ _ _ _ _ _ _ _)
      | (with_reducible exact LeO.refl _)
      | (with_reducible exact LeO.none _)
      | (with_reducible refine LeO.ite ?_ ?_)
      | (with_reducible refine LeO.bind ?_ (fun _ => ?_))
      | exact ih0 _ _ _ _ _ _ _ _ _ _
      | exact ih1 _ _ _ _ _ _ _ _ _ _ _
      | exact LeO.none _
      | refine LeO.ite ?_ ?_
      | refine LeO.bind ?_ (fun _ => ?_)
theorem spec_l10File.mono : ∀ a0 a1 a2 a3 a4 a5 a6 a7 a8 k, LeO (spec_l10File.f k a0 a1 a2 a3 a4 a5 a6 a7 a8) (spec_l10File.f (k + 1) a0 a1 a2 a3 a4 a5 a6 a7 a8) := by
  intro a0 a1 a2 a3 a4 a5 a6 a7 a8 k
  obtain ⟨ih0, ih1⟩ := spec_l10File.mono_l k
  unfold spec_l10File.f
  repeat' first
      | (with_reducible exact ih0 _ _ _ _ _ _ _ _ _ _)
      | (with_reducible exact ih1 _ _ _ _ _ _ _ _ _ _ _)
      | (with_reducible exact LeO.refl _)
      | (with_reducible exact LeO.none _)
      | (with_reducible refine LeO.ite ?_ ?_)
      | (with_reducible refine LeO.bind ?_ (fun _ => ?_))
      | exact ih0 _ _ _ _ _ _ _ _ _ _
      | exact ih1 _ _ _ _ _ _ _ _ _ _ _
      | exact LeO.none _
      | refine LeO.ite ?_ ?_
      | refine LeO.bind ?_ (fun _ => ?_)
set_option maxHeartbeats 8000000 in
set_option maxRecDepth 100000 in
theorem spec_l10File.calls (k : Nat) (a0_0 : Int) (a0_1 : Int) (a0_2 : ByteArray) (a0_3 : Bool) (a0_4 : Int) (a0_5 : Int) (a0_6 : Int) (A0_7 : Option Addr) (c0_7 : Nat) (l0_7 : List (S64)) (a0_8 : Int) (r : Bool) (w : World) (hr0_7 : Kd.C k64 w A0_7 l0_7.length l0_7) (hc0_7 : l0_7.length ≤ c0_7) (h : spec_l10File.f k a0_0 a0_1 a0_2 a0_3 a0_4 a0_5 a0_6 l0_7 a0_8 = some r) :
    Calls Try.prog 60 #[.agg #[.int .i64 a0_0, .int .i64 a0_1, .string a0_2, .bool a0_3, .int .i64 a0_4, .int .i64 a0_5, .int .i64 a0_6, .slice A0_7 l0_7.length c0_7, .int .i64 a0_8]] w fun e w' => e = .returned (.bool r) ∧ Below w.heap.size w w' := by
  have hu52 := Try.underlying52
  have HR0_7 := Aside0.mk hr0_7
  have HC0_7 := Aside0.mk hc0_7
  clear hr0_7 hc0_7
  have HB := Aside0.mk (Below.refl w.heap.size w)
  have H : ((spec_l01In.f a0_4 1 3).bind fun t165 => (if t165 = true then (if a0_5 = 0 then (if (l0_7.length : Int) > 40 then (spec_l10File.j0 k true a0_0 a0_1 a0_2 a0_3 a0_4 a0_5 a0_6 l0_7 a0_8) else ((spec_l01In.f a0_8 0 9).bind fun t166 => (spec_l10File.j0 k (!t166) a0_0 a0_1 a0_2 a0_3 a0_4 a0_5 a0_6 l0_7 a0_8))) else (spec_l10File.j0 k true a0_0 a0_1 a0_2 a0_3 a0_4 a0_5 a0_6 l0_7 a0_8)) else (spec_l10File.j0 k true a0_0 a0_1 a0_2 a0_3 a0_4 a0_5 a0_6 l0_7 a0_8))) = some r := h
  clear h
  have HC2 := Aside0.mk H
  clear H
  go_enter Try.func60, Try.ntmps60
  go_upto_region 1 with (first | ((with_reducible refine gate_dst (N := 1) rfl ?_); (try (refine gate_guard (by rfl) ?_; dsimp only)); refine box_event ?hg (N := 1) ?hd (cs := #[.int .i64 a0_0, .int .i64 a0_1, .string a0_2, .bool a0_3, .int .i64 a0_4, .int .i64 a0_5, .int .i64 a0_6, .slice A0_7 l0_7.length c0_7, .int .i64 a0_8]) (t := 52) ?hr ?_; (case hd => rfl); (case hg => rfl); (case hr => first | (go_simp; done) | (go_simp; rfl)); intro gb164 hg w3 hbox hb; have n0_ := Aside0.mk (below_step (pl0 HB.out) hb); have n1_ := Aside0.mk (hbox); have n2_ := Aside0.mk ((by rw [hg]; exact (below_size (pl0 HB.out)) : w.heap.size ≤ gb164)); have n3_ := Aside0.mk ((by rw [hg]; exact (below_size (pl0 HB.out)) : w.heap.size ≤ gb164)); clear HB; have HB := n0_; have BK164 := n1_; have GW164 := n2_; have GE164 := n3_; clear n0_ n1_ n2_ n3_; clear hb hbox hg))
  repeat (go_quiet (first | ((with_reducible refine gate_dst (N := 1) rfl ?_); (try (refine gate_guard (by rfl) ?_; dsimp only)); refine box_event ?hg (N := 1) ?hd (cs := #[.int .i64 a0_0, .int .i64 a0_1, .string a0_2, .bool a0_3, .int .i64 a0_4, .int .i64 a0_5, .int .i64 a0_6, .slice A0_7 l0_7.length c0_7, .int .i64 a0_8]) (t := 52) ?hr ?_; (case hd => rfl); (case hg => rfl); (case hr => first | (go_simp; done) | (go_simp; rfl)); intro gb164 hg w3 hbox hb; have n0_ := Aside0.mk (below_step (pl0 HB.out) hb); have n1_ := Aside0.mk (hbox); have n2_ := Aside0.mk ((by rw [hg]; exact (below_size (pl0 HB.out)) : w.heap.size ≤ gb164)); have n3_ := Aside0.mk ((by rw [hg]; exact (below_size (pl0 HB.out)) : w.heap.size ≤ gb164)); clear HB; have HB := n0_; have BK164 := n1_; have GW164 := n2_; have GE164 := n3_; clear n0_ n1_ n2_ n3_; clear hb hbox hg)); go_upto_region 1 with (first | ((with_reducible refine gate_dst (N := 1) rfl ?_); (try (refine gate_guard (by rfl) ?_; dsimp only)); refine box_event ?hg (N := 1) ?hd (cs := #[.int .i64 a0_0, .int .i64 a0_1, .string a0_2, .bool a0_3, .int .i64 a0_4, .int .i64 a0_5, .int .i64 a0_6, .slice A0_7 l0_7.length c0_7, .int .i64 a0_8]) (t := 52) ?hr ?_; (case hd => rfl); (case hg => rfl); (case hr => first | (go_simp; done) | (go_simp; rfl)); intro gb164 hg w3 hbox hb; have n0_ := Aside0.mk (below_step (pl0 HB.out) hb); have n1_ := Aside0.mk (hbox); have n2_ := Aside0.mk ((by rw [hg]; exact (below_size (pl0 HB.out)) : w.heap.size ≤ gb164)); have n3_ := Aside0.mk ((by rw [hg]; exact (below_size (pl0 HB.out)) : w.heap.size ≤ gb164)); clear HB; have HB := n0_; have BK164 := n1_; have GW164 := n2_; have GE164 := n3_; clear n0_ n1_ n2_ n3_; clear hb hbox hg)))
  (try simp only [Act.put, List.setIfInBounds_toArray, List.set_cons_zero, List.set_cons_succ])
  go_cut [25] (fun v25 wc => ∃ (kq : Nat) (x25_1 : Bool), v25 = .bool x25_1 ∧ Aside0 (spec_l10File.j0 kq x25_1 a0_0 a0_1 a0_2 a0_3 a0_4 a0_5 a0_6 l0_7 a0_8 = some r) ∧ Aside0 (kq ≤ k) ∧ Aside0 (wc.heap[gb164]? = some (.cells #[.int .i64 a0_0, .int .i64 a0_1, .string a0_2, .bool a0_3, .int .i64 a0_4, .int .i64 a0_5, .int .i64 a0_6, (.slice A0_7 l0_7.length c0_7), .int .i64 a0_8] 52 (0, 0))) ∧ Aside0 (Below w.heap.size w wc))
  case first =>
   have H := HC2.out
   clear HC2
   replace H := Option.bind_eq_some_iff.mp H
   obtain ⟨t165, A40, H⟩ := H
   replace H : (if t165 = true then (if a0_5 = 0 then (if (l0_7.length : Int) > 40 then (spec_l10File.j0 k true a0_0 a0_1 a0_2 a0_3 a0_4 a0_5 a0_6 l0_7 a0_8) else ((spec_l01In.f a0_8 0 9).bind fun t166 => (spec_l10File.j0 k (!t166) a0_0 a0_1 a0_2 a0_3 a0_4 a0_5 a0_6 l0_7 a0_8))) else (spec_l10File.j0 k true a0_0 a0_1 a0_2 a0_3 a0_4 a0_5 a0_6 l0_7 a0_8)) else (spec_l10File.j0 k true a0_0 a0_1 a0_2 a0_3 a0_4 a0_5 a0_6 l0_7 a0_8)) = some r := H
   have A4 := Aside0.mk A40
   clear A40
   by_cases c5 : t165 = true
   ·subst c5
    have H1 : (if a0_5 = 0 then (if (l0_7.length : Int) > 40 then (spec_l10File.j0 k true a0_0 a0_1 a0_2 a0_3 a0_4 a0_5 a0_6 l0_7 a0_8) else ((spec_l01In.f a0_8 0 9).bind fun t166 => (spec_l10File.j0 k (!t166) a0_0 a0_1 a0_2 a0_3 a0_4 a0_5 a0_6 l0_7 a0_8))) else (spec_l10File.j0 k true a0_0 a0_1 a0_2 a0_3 a0_4 a0_5 a0_6 l0_7 a0_8)) = some r := by rw [if_pos rfl] at H; exact H
    clear H
    have H := H1
    clear H1
    by_cases c6 : a0_5 = 0
    ·rw [if_pos c6] at H
     have c6b0 : (a0_5 == 0) = true := beq_iff_eq.mpr c6
     have c6b1 : (a0_5 != 0) = false := bne_eq_false_iff_eq.mpr c6
     clear c6
     (first | rw [c6b0] | (simp only [i64_w, i32_w]; rw [c6b0]) | skip)
     by_cases c7 : (l0_7.length : Int) > 40
     ·rw [if_pos c7] at H
      have c7b0 : decide (40 < (l0_7.length : Int)) = true := decide_eq_true c7
      have c7b1 : decide (40 < l0_7.length) = true := decide_eq_true (by omega)
      clear c7
      have H' := Aside0.mk H
      clear H
      obtain ⟨hcz8_0, hcz8_1, hcz8_2, hcz8_3, hcz8_4, hcz8_5, hcz8_6, hcz8_7, hcz8_8, hfz8_0, hfz8_1, hfz8_2, hfz8_3, hfz8_4, hfz8_5, hfz8_6, hfz8_7, hfz8_8⟩ := z9 BK164.out
      go_wp2_with (first | (go_at_call 38; (with_reducible refine (spec_l01In.calls a0_4 1 3 true _ A4.out).mono ?_); rintro e w' ⟨rfl, ⟨nd, rfl⟩⟩; (try exact dw)))
      repeat (go_quiet (first | (go_at_call 38; (with_reducible refine (spec_l01In.calls a0_4 1 3 true _ A4.out).mono ?_); rintro e w' ⟨rfl, ⟨nd, rfl⟩⟩; (try exact dw))); try go_wp2_with (first | (go_at_call 38; (with_reducible refine (spec_l01In.calls a0_4 1 3 true _ A4.out).mono ?_); rintro e w' ⟨rfl, ⟨nd, rfl⟩⟩; (try exact dw))))
      go_meet
      case rel => exact ⟨_, (true), eqa, H', ⟨by first | omega | exact Nat.le_refl _⟩, ⟨pk BK164.out⟩, ⟨pl1 HB.out GE164.out⟩⟩
     ·rw [if_neg c7] at H
      have c7b0 : decide (40 < (l0_7.length : Int)) = false := decide_eq_false c7
      have c7b1 : decide (40 < l0_7.length) = false := decide_eq_false (by omega)
      clear c7
      replace H := Option.bind_eq_some_iff.mp H
      obtain ⟨t166, A90, H⟩ := H
      replace H : (spec_l10File.j0 k (!t166) a0_0 a0_1 a0_2 a0_3 a0_4 a0_5 a0_6 l0_7 a0_8) = some r := H
      have A9 := Aside0.mk A90
      clear A90
      have H' := Aside0.mk H
      clear H
      obtain ⟨hcz10_0, hcz10_1, hcz10_2, hcz10_3, hcz10_4, hcz10_5, hcz10_6, hcz10_7, hcz10_8, hfz10_0, hfz10_1, hfz10_2, hfz10_3, hfz10_4, hfz10_5, hfz10_6, hfz10_7, hfz10_8⟩ := z9 BK164.out
      go_wp2_with (first | (go_at_call 38; (with_reducible refine (spec_l01In.calls a0_4 1 3 true _ A4.out).mono ?_); rintro e w' ⟨rfl, ⟨nd, rfl⟩⟩; (try exact dw)) | (go_at_call 38; (with_reducible refine (spec_l01In.calls a0_8 0 9 t166 _ A9.out).mono ?_); rintro e w' ⟨rfl, ⟨nd, rfl⟩⟩; (try exact dw)))
      repeat (go_quiet (first | (go_at_call 38; (with_reducible refine (spec_l01In.calls a0_4 1 3 true _ A4.out).mono ?_); rintro e w' ⟨rfl, ⟨nd, rfl⟩⟩; (try exact dw)) | (go_at_call 38; (with_reducible refine (spec_l01In.calls a0_8 0 9 t166 _ A9.out).mono ?_); rintro e w' ⟨rfl, ⟨nd, rfl⟩⟩; (try exact dw))); try go_wp2_with (first | (go_at_call 38; (with_reducible refine (spec_l01In.calls a0_4 1 3 true _ A4.out).mono ?_); rintro e w' ⟨rfl, ⟨nd, rfl⟩⟩; (try exact dw)) | (go_at_call 38; (with_reducible refine (spec_l01In.calls a0_8 0 9 t166 _ A9.out).mono ?_); rintro e w' ⟨rfl, ⟨nd, rfl⟩⟩; (try exact dw))))
      go_meet
      case rel => exact ⟨_, (!t166), eqa, H', ⟨by first | omega | exact Nat.le_refl _⟩, ⟨pk BK164.out⟩, ⟨pl1 HB.out GE164.out⟩⟩
    ·rw [if_neg c6] at H
     have c6b0 : (a0_5 == 0) = false := beq_eq_false_iff_ne.mpr c6
     have c6b1 : (a0_5 != 0) = true := bne_iff_ne.mpr c6
     (first | rw [c6b0] | (simp only [i64_w, i32_w]; rw [c6b0]) | skip)
     have H' := Aside0.mk H
     clear H
     obtain ⟨hcz11_0, hcz11_1, hcz11_2, hcz11_3, hcz11_4, hcz11_5, hcz11_6, hcz11_7, hcz11_8, hfz11_0, hfz11_1, hfz11_2, hfz11_3, hfz11_4, hfz11_5, hfz11_6, hfz11_7, hfz11_8⟩ := z9 BK164.out
     go_wp2_with (first | (go_at_call 38; (with_reducible refine (spec_l01In.calls a0_4 1 3 true _ A4.out).mono ?_); rintro e w' ⟨rfl, ⟨nd, rfl⟩⟩; (try exact dw)))
     repeat (go_quiet (first | (go_at_call 38; (with_reducible refine (spec_l01In.calls a0_4 1 3 true _ A4.out).mono ?_); rintro e w' ⟨rfl, ⟨nd, rfl⟩⟩; (try exact dw))); try go_wp2_with (first | (go_at_call 38; (with_reducible refine (spec_l01In.calls a0_4 1 3 true _ A4.out).mono ?_); rintro e w' ⟨rfl, ⟨nd, rfl⟩⟩; (try exact dw))))
     go_meet
     case rel => exact ⟨_, (true), eqa, H', ⟨by first | omega | exact Nat.le_refl _⟩, ⟨pk BK164.out⟩, ⟨pl1 HB.out GE164.out⟩⟩
   ·replace c5 := Bool.eq_false_iff.mpr c5
    subst c5
    have H1 : (spec_l10File.j0 k true a0_0 a0_1 a0_2 a0_3 a0_4 a0_5 a0_6 l0_7 a0_8) = some r := by rw [if_neg (show ¬ (false = true) by decide)] at H; exact H
    clear H
    have H := H1
    clear H1
    have H' := Aside0.mk H
    clear H
    obtain ⟨hcz12_0, hcz12_1, hcz12_2, hcz12_3, hcz12_4, hcz12_5, hcz12_6, hcz12_7, hcz12_8, hfz12_0, hfz12_1, hfz12_2, hfz12_3, hfz12_4, hfz12_5, hfz12_6, hfz12_7, hfz12_8⟩ := z9 BK164.out
    go_wp2_with (first | (go_at_call 38; (with_reducible refine (spec_l01In.calls a0_4 1 3 false _ A4.out).mono ?_); rintro e w' ⟨rfl, ⟨nd, rfl⟩⟩; (try exact dw)))
    repeat (go_quiet (first | (go_at_call 38; (with_reducible refine (spec_l01In.calls a0_4 1 3 false _ A4.out).mono ?_); rintro e w' ⟨rfl, ⟨nd, rfl⟩⟩; (try exact dw))); try go_wp2_with (first | (go_at_call 38; (with_reducible refine (spec_l01In.calls a0_4 1 3 false _ A4.out).mono ?_); rintro e w' ⟨rfl, ⟨nd, rfl⟩⟩; (try exact dw))))
    go_meet
    case rel => exact ⟨_, (true), eqa, H', ⟨by first | omega | exact Nat.le_refl _⟩, ⟨pk BK164.out⟩, ⟨pl1 HB.out GE164.out⟩⟩
  case rest =>
   clear HC2
   obtain ⟨kq, x25_1, rfl, HA, HJ1, BK164, HB⟩ := hcut
   cases kq with
   | zero => exact absurd HA.out (by simp [spec_l10File.j0])
   | succ kj1 =>
    have H := HA.out
    clear HA
    simp only [spec_l10File.j0] at H
    by_cases c13 : x25_1 = true
    ·subst c13
     have H1 : (some false) = some r := by rw [if_pos rfl] at H; exact H
     clear H
     have H := H1
     clear H1
     obtain rfl := Option.some.inj H
     go_wp2
     repeat (go_quiet (fail); try go_wp2)
     go_ret
     exact ⟨erq, pl1 HB.out GE164.out⟩
    ·replace c13 := Bool.eq_false_iff.mpr c13
     subst c13
     have H1 : (spec_l10File.l0 kj1 0 0 a0_0 a0_1 a0_2 a0_3 a0_4 a0_5 a0_6 l0_7 a0_8) = some r := by rw [if_neg (show ¬ (false = true) by decide)] at H; exact H
     clear H
     have H := H1
     clear H1
     have H' := Aside0.mk H
     clear H
     go_wp2
     repeat (go_quiet (fail); try go_wp2)
     go_loopg [3, 4] kj1 (fun kq v3 v4 w' => ∃ (x3_2 : Int) (x4_2 : Int), v3 = .int .i64 x3_2 ∧ v4 = .int .i64 x4_2 ∧ Aside0 (spec_l10File.l0 kq x3_2 x4_2 a0_0 a0_1 a0_2 a0_3 a0_4 a0_5 a0_6 l0_7 a0_8 = some r) ∧ Aside0 (kq ≤ kj1) ∧ Aside0 (w'.heap[gb164]? = some (.cells #[.int .i64 a0_0, .int .i64 a0_1, .string a0_2, .bool a0_3, .int .i64 a0_4, .int .i64 a0_5, .int .i64 a0_6, (.slice A0_7 l0_7.length c0_7), .int .i64 a0_8] 52 (0, 0))) ∧ Aside0 (Below w.heap.size w w'))
     case atStart => exact ⟨(0), (0), eqa, eqa, H', ⟨Nat.le_refl _⟩, ⟨pk BK164.out⟩, ⟨pl1 HB.out GE164.out⟩⟩
     case round =>
      clear H'
      try clear c13
      obtain ⟨x3_2, x4_2, rfl, rfl, HA, HK2, BK164, HB⟩ := hrel
      cases gk with
      | zero => exact absurd HA.out (by simp [spec_l10File.l0])
      | succ k2 =>
       have H := HA.out
       clear HA
       simp only [spec_l10File.l0] at H
       by_cases c14 : x4_2 < (l0_7.length : Int)
       ·rw [if_pos c14] at H
        have c14b0 : decide (x4_2 < (l0_7.length : Int)) = true := decide_eq_true c14
        clear c14
        by_cases c15 : 0 ≤ x4_2
        ·rw [if_pos c15] at H
         have c15b0 : decide (0 ≤ x4_2) = true := decide_eq_true c15
         clear c15
         replace H := Option.bind_eq_some_iff.mp H
         obtain ⟨t168, A160, H⟩ := H
         replace H : (if t168 = true then ((spec_GroupSize.f a0_4).bind fun t170 => ((spec_l01In.f ((rd_T64 l0_7 x4_2).f1) 1 t170).bind fun t171 => (if t171 = true then (spec_l10File.l0 k2 (wrap64 (x3_2 + ((rd_T64 l0_7 x4_2).f1))) (wrap64 (x4_2 + 1)) a0_0 a0_1 a0_2 a0_3 a0_4 a0_5 a0_6 l0_7 a0_8) else (some false)))) else (some false)) = some r := H
         have A16 := Aside0.mk A160
         clear A160
         by_cases c17 : t168 = true
         ·subst c17
          have H1 : ((spec_GroupSize.f a0_4).bind fun t170 => ((spec_l01In.f ((rd_T64 l0_7 x4_2).f1) 1 t170).bind fun t171 => (if t171 = true then (spec_l10File.l0 k2 (wrap64 (x3_2 + ((rd_T64 l0_7 x4_2).f1))) (wrap64 (x4_2 + 1)) a0_0 a0_1 a0_2 a0_3 a0_4 a0_5 a0_6 l0_7 a0_8) else (some false)))) = some r := by rw [if_pos rfl] at H; exact H
          clear H
          have H := H1
          clear H1
          replace H := Option.bind_eq_some_iff.mp H
          obtain ⟨t170, A180, H⟩ := H
          replace H : ((spec_l01In.f ((rd_T64 l0_7 x4_2).f1) 1 t170).bind fun t171 => (if t171 = true then (spec_l10File.l0 k2 (wrap64 (x3_2 + ((rd_T64 l0_7 x4_2).f1))) (wrap64 (x4_2 + 1)) a0_0 a0_1 a0_2 a0_3 a0_4 a0_5 a0_6 l0_7 a0_8) else (some false))) = some r := H
          have A18 := Aside0.mk A180
          clear A180
          replace H := Option.bind_eq_some_iff.mp H
          obtain ⟨t171, A190, H⟩ := H
          replace H : (if t171 = true then (spec_l10File.l0 k2 (wrap64 (x3_2 + ((rd_T64 l0_7 x4_2).f1))) (wrap64 (x4_2 + 1)) a0_0 a0_1 a0_2 a0_3 a0_4 a0_5 a0_6 l0_7 a0_8) else (some false)) = some r := H
          have A19 := Aside0.mk A190
          clear A190
          by_cases c20 : t171 = true
          ·subst c20
           have H1 : (spec_l10File.l0 k2 (wrap64 (x3_2 + ((rd_T64 l0_7 x4_2).f1))) (wrap64 (x4_2 + 1)) a0_0 a0_1 a0_2 a0_3 a0_4 a0_5 a0_6 l0_7 a0_8) = some r := by rw [if_pos rfl] at H; exact H
           clear H
           have H := H1
           clear H1
           have H' := Aside0.mk H
           clear H
           obtain ⟨hcz21_0, hcz21_1, hcz21_2, hcz21_3, hcz21_4, hcz21_5, hcz21_6, hcz21_7, hcz21_8, hfz21_0, hfz21_1, hfz21_2, hfz21_3, hfz21_4, hfz21_5, hfz21_6, hfz21_7, hfz21_8⟩ := z9 BK164.out
           have p167 : 0 ≤ (x4_2 : Int) := oda
           have q167 : x4_2 < (l0_7.length : Int) := oda
           obtain ⟨ad167, e167, hx167_0, hx167_1⟩ := at_T64 HR0_7.out x4_2 p167 q167
           cases e167
           replace hx167_0 := hbc HB.out hx167_0
           replace hx167_1 := hbc HB.out hx167_1
           replace p167 := eq_true p167
           replace q167 := eq_true q167
           go_wp2_with (first | (go_at_call 38; (with_reducible refine (spec_l01In.calls ((rd_T64 l0_7 x4_2).f0) 1 100000 true _ A16.out).mono ?_); rintro e w' ⟨rfl, ⟨nd, rfl⟩⟩; (try exact dw); have p169 : 0 ≤ (x4_2 : Int) := oda; have q169 : x4_2 < (l0_7.length : Int) := oda; obtain ⟨ad169, e169, hx169_0, hx169_1⟩ := at_T64 HR0_7.out x4_2 p169 q169; obtain rfl : ad167 = ad169 := (by injection e169); replace hx169_0 := hbc HB.out hx169_0; replace hx169_1 := hbc HB.out hx169_1; replace p169 := eq_true p169; replace q169 := eq_true q169) | (go_at_call 73; (with_reducible refine (spec_GroupSize.calls a0_4 t170 _ A18.out).mono ?_); rintro e w' ⟨rfl, ⟨nd, rfl⟩⟩; (try exact dw)) | (go_at_call 38; (with_reducible refine (spec_l01In.calls ((rd_T64 l0_7 x4_2).f1) 1 t170 true _ A19.out).mono ?_); rintro e w' ⟨rfl, ⟨nd, rfl⟩⟩; (try exact dw); have p172 : 0 ≤ (x4_2 : Int) := oda; have q172 : x4_2 < (l0_7.length : Int) := oda; obtain ⟨ad172, e172, hx172_0, hx172_1⟩ := at_T64 HR0_7.out x4_2 p172 q172; obtain rfl : ad167 = ad172 := (by injection e172); replace hx172_0 := hbc HB.out hx172_0; replace hx172_1 := hbc HB.out hx172_1; replace p172 := eq_true p172; replace q172 := eq_true q172))
           repeat (go_quiet (first | (go_at_call 38; (with_reducible refine (spec_l01In.calls ((rd_T64 l0_7 x4_2).f0) 1 100000 true _ A16.out).mono ?_); rintro e w' ⟨rfl, ⟨nd, rfl⟩⟩; (try exact dw); have p169 : 0 ≤ (x4_2 : Int) := oda; have q169 : x4_2 < (l0_7.length : Int) := oda; obtain ⟨ad169, e169, hx169_0, hx169_1⟩ := at_T64 HR0_7.out x4_2 p169 q169; obtain rfl : ad167 = ad169 := (by injection e169); replace hx169_0 := hbc HB.out hx169_0; replace hx169_1 := hbc HB.out hx169_1; replace p169 := eq_true p169; replace q169 := eq_true q169) | (go_at_call 73; (with_reducible refine (spec_GroupSize.calls a0_4 t170 _ A18.out).mono ?_); rintro e w' ⟨rfl, ⟨nd, rfl⟩⟩; (try exact dw)) | (go_at_call 38; (with_reducible refine (spec_l01In.calls ((rd_T64 l0_7 x4_2).f1) 1 t170 true _ A19.out).mono ?_); rintro e w' ⟨rfl, ⟨nd, rfl⟩⟩; (try exact dw); have p172 : 0 ≤ (x4_2 : Int) := oda; have q172 : x4_2 < (l0_7.length : Int) := oda; obtain ⟨ad172, e172, hx172_0, hx172_1⟩ := at_T64 HR0_7.out x4_2 p172 q172; obtain rfl : ad167 = ad172 := (by injection e172); replace hx172_0 := hbc HB.out hx172_0; replace hx172_1 := hbc HB.out hx172_1; replace p172 := eq_true p172; replace q172 := eq_true q172)); try go_wp2_with (first | (go_at_call 38; (with_reducible refine (spec_l01In.calls ((rd_T64 l0_7 x4_2).f0) 1 100000 true _ A16.out).mono ?_); rintro e w' ⟨rfl, ⟨nd, rfl⟩⟩; (try exact dw); have p169 : 0 ≤ (x4_2 : Int) := oda; have q169 : x4_2 < (l0_7.length : Int) := oda; obtain ⟨ad169, e169, hx169_0, hx169_1⟩ := at_T64 HR0_7.out x4_2 p169 q169; obtain rfl : ad167 = ad169 := (by injection e169); replace hx169_0 := hbc HB.out hx169_0; replace hx169_1 := hbc HB.out hx169_1; replace p169 := eq_true p169; replace q169 := eq_true q169) | (go_at_call 73; (with_reducible refine (spec_GroupSize.calls a0_4 t170 _ A18.out).mono ?_); rintro e w' ⟨rfl, ⟨nd, rfl⟩⟩; (try exact dw)) | (go_at_call 38; (with_reducible refine (spec_l01In.calls ((rd_T64 l0_7 x4_2).f1) 1 t170 true _ A19.out).mono ?_); rintro e w' ⟨rfl, ⟨nd, rfl⟩⟩; (try exact dw); have p172 : 0 ≤ (x4_2 : Int) := oda; have q172 : x4_2 < (l0_7.length : Int) := oda; obtain ⟨ad172, e172, hx172_0, hx172_1⟩ := at_T64 HR0_7.out x4_2 p172 q172; obtain rfl : ad167 = ad172 := (by injection e172); replace hx172_0 := hbc HB.out hx172_0; replace hx172_1 := hbc HB.out hx172_1; replace p172 := eq_true p172; replace q172 := eq_true q172)))
           go_roundg k2
           case measure => have := HJ1.out; have := HK2.out; omega
           case rel => exact ⟨(wrap64 (x3_2 + ((rd_T64 l0_7 x4_2).f1))), (wrap64 (x4_2 + 1)), eqa, eqa, H', ⟨by have := HJ1.out; have := HK2.out; omega⟩, ⟨pk BK164.out⟩, ⟨pl1 HB.out GE164.out⟩⟩
          ·replace c20 := Bool.eq_false_iff.mpr c20
           subst c20
           have H1 : (some false) = some r := by rw [if_neg (show ¬ (false = true) by decide)] at H; exact H
           clear H
           have H := H1
           clear H1
           obtain rfl := Option.some.inj H
           obtain ⟨hcz22_0, hcz22_1, hcz22_2, hcz22_3, hcz22_4, hcz22_5, hcz22_6, hcz22_7, hcz22_8, hfz22_0, hfz22_1, hfz22_2, hfz22_3, hfz22_4, hfz22_5, hfz22_6, hfz22_7, hfz22_8⟩ := z9 BK164.out
           have p167 : 0 ≤ (x4_2 : Int) := oda
           have q167 : x4_2 < (l0_7.length : Int) := oda
           obtain ⟨ad167, e167, hx167_0, hx167_1⟩ := at_T64 HR0_7.out x4_2 p167 q167
           cases e167
           replace hx167_0 := hbc HB.out hx167_0
           replace hx167_1 := hbc HB.out hx167_1
           replace p167 := eq_true p167
           replace q167 := eq_true q167
           go_wp2_with (first | (go_at_call 38; (with_reducible refine (spec_l01In.calls ((rd_T64 l0_7 x4_2).f0) 1 100000 true _ A16.out).mono ?_); rintro e w' ⟨rfl, ⟨nd, rfl⟩⟩; (try exact dw); have p169 : 0 ≤ (x4_2 : Int) := oda; have q169 : x4_2 < (l0_7.length : Int) := oda; obtain ⟨ad169, e169, hx169_0, hx169_1⟩ := at_T64 HR0_7.out x4_2 p169 q169; obtain rfl : ad167 = ad169 := (by injection e169); replace hx169_0 := hbc HB.out hx169_0; replace hx169_1 := hbc HB.out hx169_1; replace p169 := eq_true p169; replace q169 := eq_true q169) | (go_at_call 73; (with_reducible refine (spec_GroupSize.calls a0_4 t170 _ A18.out).mono ?_); rintro e w' ⟨rfl, ⟨nd, rfl⟩⟩; (try exact dw)) | (go_at_call 38; (with_reducible refine (spec_l01In.calls ((rd_T64 l0_7 x4_2).f1) 1 t170 false _ A19.out).mono ?_); rintro e w' ⟨rfl, ⟨nd, rfl⟩⟩; (try exact dw)))
           repeat (go_quiet (first | (go_at_call 38; (with_reducible refine (spec_l01In.calls ((rd_T64 l0_7 x4_2).f0) 1 100000 true _ A16.out).mono ?_); rintro e w' ⟨rfl, ⟨nd, rfl⟩⟩; (try exact dw); have p169 : 0 ≤ (x4_2 : Int) := oda; have q169 : x4_2 < (l0_7.length : Int) := oda; obtain ⟨ad169, e169, hx169_0, hx169_1⟩ := at_T64 HR0_7.out x4_2 p169 q169; obtain rfl : ad167 = ad169 := (by injection e169); replace hx169_0 := hbc HB.out hx169_0; replace hx169_1 := hbc HB.out hx169_1; replace p169 := eq_true p169; replace q169 := eq_true q169) | (go_at_call 73; (with_reducible refine (spec_GroupSize.calls a0_4 t170 _ A18.out).mono ?_); rintro e w' ⟨rfl, ⟨nd, rfl⟩⟩; (try exact dw)) | (go_at_call 38; (with_reducible refine (spec_l01In.calls ((rd_T64 l0_7 x4_2).f1) 1 t170 false _ A19.out).mono ?_); rintro e w' ⟨rfl, ⟨nd, rfl⟩⟩; (try exact dw))); try go_wp2_with (first | (go_at_call 38; (with_reducible refine (spec_l01In.calls ((rd_T64 l0_7 x4_2).f0) 1 100000 true _ A16.out).mono ?_); rintro e w' ⟨rfl, ⟨nd, rfl⟩⟩; (try exact dw); have p169 : 0 ≤ (x4_2 : Int) := oda; have q169 : x4_2 < (l0_7.length : Int) := oda; obtain ⟨ad169, e169, hx169_0, hx169_1⟩ := at_T64 HR0_7.out x4_2 p169 q169; obtain rfl : ad167 = ad169 := (by injection e169); replace hx169_0 := hbc HB.out hx169_0; replace hx169_1 := hbc HB.out hx169_1; replace p169 := eq_true p169; replace q169 := eq_true q169) | (go_at_call 73; (with_reducible refine (spec_GroupSize.calls a0_4 t170 _ A18.out).mono ?_); rintro e w' ⟨rfl, ⟨nd, rfl⟩⟩; (try exact dw)) | (go_at_call 38; (with_reducible refine (spec_l01In.calls ((rd_T64 l0_7 x4_2).f1) 1 t170 false _ A19.out).mono ?_); rintro e w' ⟨rfl, ⟨nd, rfl⟩⟩; (try exact dw))))
           go_ret
           exact ⟨erq, pl1 HB.out GE164.out⟩
         ·replace c17 := Bool.eq_false_iff.mpr c17
          subst c17
          have H1 : (some false) = some r := by rw [if_neg (show ¬ (false = true) by decide)] at H; exact H
          clear H
          have H := H1
          clear H1
          obtain rfl := Option.some.inj H
          obtain ⟨hcz23_0, hcz23_1, hcz23_2, hcz23_3, hcz23_4, hcz23_5, hcz23_6, hcz23_7, hcz23_8, hfz23_0, hfz23_1, hfz23_2, hfz23_3, hfz23_4, hfz23_5, hfz23_6, hfz23_7, hfz23_8⟩ := z9 BK164.out
          have p167 : 0 ≤ (x4_2 : Int) := oda
          have q167 : x4_2 < (l0_7.length : Int) := oda
          obtain ⟨ad167, e167, hx167_0, hx167_1⟩ := at_T64 HR0_7.out x4_2 p167 q167
          cases e167
          replace hx167_0 := hbc HB.out hx167_0
          replace hx167_1 := hbc HB.out hx167_1
          replace p167 := eq_true p167
          replace q167 := eq_true q167
          go_wp2_with (first | (go_at_call 38; (with_reducible refine (spec_l01In.calls ((rd_T64 l0_7 x4_2).f0) 1 100000 false _ A16.out).mono ?_); rintro e w' ⟨rfl, ⟨nd, rfl⟩⟩; (try exact dw)))
          repeat (go_quiet (first | (go_at_call 38; (with_reducible refine (spec_l01In.calls ((rd_T64 l0_7 x4_2).f0) 1 100000 false _ A16.out).mono ?_); rintro e w' ⟨rfl, ⟨nd, rfl⟩⟩; (try exact dw))); try go_wp2_with (first | (go_at_call 38; (with_reducible refine (spec_l01In.calls ((rd_T64 l0_7 x4_2).f0) 1 100000 false _ A16.out).mono ?_); rintro e w' ⟨rfl, ⟨nd, rfl⟩⟩; (try exact dw))))
          go_ret
          exact ⟨erq, pl1 HB.out GE164.out⟩
        ·rw [if_neg c15] at H
         exact absurd H (by simp)
       ·rw [if_neg c14] at H
        have c14b0 : decide (x4_2 < (l0_7.length : Int)) = false := decide_eq_false c14
        clear c14
        by_cases c24 : x3_2 = a0_6
        ·rw [if_pos c24] at H
         have c24b0 : (x3_2 == a0_6) = true := beq_iff_eq.mpr c24
         have c24b1 : (x3_2 != a0_6) = false := bne_eq_false_iff_eq.mpr c24
         clear c24
         obtain rfl := Option.some.inj H
         obtain ⟨hcz25_0, hcz25_1, hcz25_2, hcz25_3, hcz25_4, hcz25_5, hcz25_6, hcz25_7, hcz25_8, hfz25_0, hfz25_1, hfz25_2, hfz25_3, hfz25_4, hfz25_5, hfz25_6, hfz25_7, hfz25_8⟩ := z9 BK164.out
         go_wp2
         repeat (go_quiet (fail); try go_wp2)
         go_ret
         exact ⟨erq, pl1 HB.out GE164.out⟩
        ·rw [if_neg c24] at H
         have c24b0 : (x3_2 == a0_6) = false := beq_eq_false_iff_ne.mpr c24
         have c24b1 : (x3_2 != a0_6) = true := bne_iff_ne.mpr c24
         obtain rfl := Option.some.inj H
         obtain ⟨hcz26_0, hcz26_1, hcz26_2, hcz26_3, hcz26_4, hcz26_5, hcz26_6, hcz26_7, hcz26_8, hfz26_0, hfz26_1, hfz26_2, hfz26_3, hfz26_4, hfz26_5, hfz26_6, hfz26_7, hfz26_8⟩ := z9 BK164.out
         go_wp2
         repeat (go_quiet (fail); try go_wp2)
         go_ret
         exact ⟨erq, pl1 HB.out GE164.out⟩

/-! ### spec_NameOk: function 61 -/
def spec_NameOk.l0 : Nat → ByteArray → Int → Option (Bool)
  | 0, _, _ => none
  | k + 1, x0, x3 => if x3 < (x0.size : Int) then (if 0 ≤ x3 then (if (bt x0 x3) < 97 then (if (bt x0 x3) < 48 then (some false) else (if (bt x0 x3) > 57 then (some false) else (spec_NameOk.l0 k x0 (wrap64 (x3 + 1))))) else (if (bt x0 x3) > 122 then (if (bt x0 x3) < 48 then (some false) else (if (bt x0 x3) > 57 then (some false) else (spec_NameOk.l0 k x0 (wrap64 (x3 + 1))))) else (spec_NameOk.l0 k x0 (wrap64 (x3 + 1))))) else (none)) else ((spec_l01In.f (x0.size : Int) 1 8).bind fun t173 => (some t173))
def spec_NameOk.f (k : Nat) (a0 : ByteArray) : Option (Bool) := spec_NameOk.l0 k a0 0
theorem spec_NameOk.mono_l : ∀ k, (∀ y0 y1, LeO (spec_NameOk.l0 k y0 y1) (spec_NameOk.l0 (k + 1) y0 y1))
  | 0 => fun _ _ r h => by simp [spec_NameOk.l0] at h
  | k + 1 => by
    have ih0 := spec_NameOk.mono_l k
    · intro y0 y1
      unfold spec_NameOk.l0
      repeat' first
      | (with_reducible exact ih0 _ _)
      | (with_reducible exact LeO.refl _)
      | (with_reducible exact LeO.none _)
      | (with_reducible refine LeO.ite ?_ ?_)
      | (with_reducible refine LeO.bind ?_ (fun _ => ?_))
      | exact ih0 _ _
      | exact LeO.none _
      | refine LeO.ite ?_ ?_
      | refine LeO.bind ?_ (fun _ => ?_)
theorem spec_NameOk.mono : ∀ a0 k, LeO (spec_NameOk.f k a0) (spec_NameOk.f (k + 1) a0) := by
  intro a0 k
  have ih0 := spec_NameOk.mono_l k
  unfold spec_NameOk.f
  repeat' first
      | (with_reducible exact ih0 _ _)
      | (with_reducible exact LeO.refl _)
      | (with_reducible exact LeO.none _)
      | (with_reducible refine LeO.ite ?_ ?_)
      | (with_reducible refine LeO.bind ?_ (fun _ => ?_))
      | exact ih0 _ _
      | exact LeO.none _
      | refine LeO.ite ?_ ?_
      | refine LeO.bind ?_ (fun _ => ?_)
set_option maxHeartbeats 8000000 in
set_option maxRecDepth 100000 in
theorem spec_NameOk.calls (k : Nat) (a0 : ByteArray) (r : Bool) (w : World) (h : spec_NameOk.f k a0 = some r) :
    Calls Try.prog 61 #[.string a0] w fun e w' => e = .returned (.bool r) ∧ Drawn0 w w' := by
  have H : (spec_NameOk.l0 k a0 0) = some r := h
  clear h
  have H' := Aside0.mk H
  clear H
  go_enter Try.func61, Try.ntmps61
  go_wp2
  go_loopg [3] k (fun kq v3 w' => ∃ (x3_1 : Int), v3 = .int .i64 x3_1 ∧ Aside0 (spec_NameOk.l0 kq a0 x3_1 = some r) ∧ Aside0 (kq ≤ k) ∧ Drawn0 w w')
  case atStart => exact ⟨(0), eqa, H', ⟨Nat.le_refl _⟩, by repeat (first | exact Drawn0.refl _ | apply Drawn0.step)⟩
  case round =>
   clear H'
   obtain ⟨x3_1, rfl, HA, HK1, ⟨m1, rfl⟩⟩ := hrel
   cases gk with
   | zero => exact absurd HA.out (by simp [spec_NameOk.l0])
   | succ k1 =>
    have H := HA.out
    clear HA
    simp only [spec_NameOk.l0] at H
    by_cases c2 : x3_1 < (a0.size : Int)
    ·rw [if_pos c2] at H
     have c2b0 : decide (x3_1 < (a0.size : Int)) = true := decide_eq_true c2
     clear c2
     by_cases c3 : 0 ≤ x3_1
     ·rw [if_pos c3] at H
      have c3b0 : decide (0 ≤ x3_1) = true := decide_eq_true c3
      clear c3
      by_cases c5 : (bt a0 x3_1) < 97
      ·rw [if_pos c5] at H
       have c5b0 : decide ((bt a0 x3_1) < 97) = true := decide_eq_true c5
       clear c5
       by_cases c7 : (bt a0 x3_1) < 48
       ·rw [if_pos c7] at H
        have c7b0 : decide ((bt a0 x3_1) < 48) = true := decide_eq_true c7
        clear c7
        obtain rfl := Option.some.inj H
        have p4 : 0 ≤ (x3_1 : Int) := oda
        have q4 : x3_1 < (a0.size : Int) := oda
        have hx4 := bt_at a0 x3_1
        replace p4 := eq_true p4
        replace q4 := eq_true q4
        have p6 : 0 ≤ (x3_1 : Int) := oda
        have q6 : x3_1 < (a0.size : Int) := oda
        have hx6 := bt_at a0 x3_1
        replace p6 := eq_true p6
        replace q6 := eq_true q6
        go_wp2
        go_ret
        exact ⟨by first | rfl | (simp; done) | (simp [*]; done), by repeat (first | exact Drawn0.refl _ | apply Drawn0.step)⟩
       ·rw [if_neg c7] at H
        have c7b0 : decide ((bt a0 x3_1) < 48) = false := decide_eq_false c7
        clear c7
        by_cases c9 : (bt a0 x3_1) > 57
        ·rw [if_pos c9] at H
         have c9b0 : decide (57 < (bt a0 x3_1)) = true := decide_eq_true c9
         clear c9
         obtain rfl := Option.some.inj H
         have p4 : 0 ≤ (x3_1 : Int) := oda
         have q4 : x3_1 < (a0.size : Int) := oda
         have hx4 := bt_at a0 x3_1
         replace p4 := eq_true p4
         replace q4 := eq_true q4
         have p6 : 0 ≤ (x3_1 : Int) := oda
         have q6 : x3_1 < (a0.size : Int) := oda
         have hx6 := bt_at a0 x3_1
         replace p6 := eq_true p6
         replace q6 := eq_true q6
         have p8 : 0 ≤ (x3_1 : Int) := oda
         have q8 : x3_1 < (a0.size : Int) := oda
         have hx8 := bt_at a0 x3_1
         replace p8 := eq_true p8
         replace q8 := eq_true q8
         go_wp2
         go_ret
         exact ⟨by first | rfl | (simp; done) | (simp [*]; done), by repeat (first | exact Drawn0.refl _ | apply Drawn0.step)⟩
        ·rw [if_neg c9] at H
         have c9b0 : decide (57 < (bt a0 x3_1)) = false := decide_eq_false c9
         clear c9
         have H' := Aside0.mk H
         clear H
         have p4 : 0 ≤ (x3_1 : Int) := oda
         have q4 : x3_1 < (a0.size : Int) := oda
         have hx4 := bt_at a0 x3_1
         replace p4 := eq_true p4
         replace q4 := eq_true q4
         have p6 : 0 ≤ (x3_1 : Int) := oda
         have q6 : x3_1 < (a0.size : Int) := oda
         have hx6 := bt_at a0 x3_1
         replace p6 := eq_true p6
         replace q6 := eq_true q6
         have p8 : 0 ≤ (x3_1 : Int) := oda
         have q8 : x3_1 < (a0.size : Int) := oda
         have hx8 := bt_at a0 x3_1
         replace p8 := eq_true p8
         replace q8 := eq_true q8
         go_wp2
         go_roundg k1
         case measure => have := HK1.out; omega
         case rel => exact ⟨(wrap64 (x3_1 + 1)), eqa, H', ⟨by have := HK1.out; omega⟩, by repeat (first | exact Drawn0.refl _ | apply Drawn0.step)⟩
      ·rw [if_neg c5] at H
       have c5b0 : decide ((bt a0 x3_1) < 97) = false := decide_eq_false c5
       clear c5
       by_cases c11 : (bt a0 x3_1) > 122
       ·rw [if_pos c11] at H
        have c11b0 : decide (122 < (bt a0 x3_1)) = true := decide_eq_true c11
        clear c11
        by_cases c13 : (bt a0 x3_1) < 48
        ·rw [if_pos c13] at H
         have c13b0 : decide ((bt a0 x3_1) < 48) = true := decide_eq_true c13
         clear c13
         obtain rfl := Option.some.inj H
         have p4 : 0 ≤ (x3_1 : Int) := oda
         have q4 : x3_1 < (a0.size : Int) := oda
         have hx4 := bt_at a0 x3_1
         replace p4 := eq_true p4
         replace q4 := eq_true q4
         have p10 : 0 ≤ (x3_1 : Int) := oda
         have q10 : x3_1 < (a0.size : Int) := oda
         have hx10 := bt_at a0 x3_1
         replace p10 := eq_true p10
         replace q10 := eq_true q10
         have p12 : 0 ≤ (x3_1 : Int) := oda
         have q12 : x3_1 < (a0.size : Int) := oda
         have hx12 := bt_at a0 x3_1
         replace p12 := eq_true p12
         replace q12 := eq_true q12
         go_wp2
         go_ret
         exact ⟨by first | rfl | (simp; done) | (simp [*]; done), by repeat (first | exact Drawn0.refl _ | apply Drawn0.step)⟩
        ·rw [if_neg c13] at H
         have c13b0 : decide ((bt a0 x3_1) < 48) = false := decide_eq_false c13
         clear c13
         by_cases c15 : (bt a0 x3_1) > 57
         ·rw [if_pos c15] at H
          have c15b0 : decide (57 < (bt a0 x3_1)) = true := decide_eq_true c15
          clear c15
          obtain rfl := Option.some.inj H
          have p4 : 0 ≤ (x3_1 : Int) := oda
          have q4 : x3_1 < (a0.size : Int) := oda
          have hx4 := bt_at a0 x3_1
          replace p4 := eq_true p4
          replace q4 := eq_true q4
          have p10 : 0 ≤ (x3_1 : Int) := oda
          have q10 : x3_1 < (a0.size : Int) := oda
          have hx10 := bt_at a0 x3_1
          replace p10 := eq_true p10
          replace q10 := eq_true q10
          have p12 : 0 ≤ (x3_1 : Int) := oda
          have q12 : x3_1 < (a0.size : Int) := oda
          have hx12 := bt_at a0 x3_1
          replace p12 := eq_true p12
          replace q12 := eq_true q12
          have p14 : 0 ≤ (x3_1 : Int) := oda
          have q14 : x3_1 < (a0.size : Int) := oda
          have hx14 := bt_at a0 x3_1
          replace p14 := eq_true p14
          replace q14 := eq_true q14
          go_wp2
          go_ret
          exact ⟨by first | rfl | (simp; done) | (simp [*]; done), by repeat (first | exact Drawn0.refl _ | apply Drawn0.step)⟩
         ·rw [if_neg c15] at H
          have c15b0 : decide (57 < (bt a0 x3_1)) = false := decide_eq_false c15
          clear c15
          have H' := Aside0.mk H
          clear H
          have p4 : 0 ≤ (x3_1 : Int) := oda
          have q4 : x3_1 < (a0.size : Int) := oda
          have hx4 := bt_at a0 x3_1
          replace p4 := eq_true p4
          replace q4 := eq_true q4
          have p10 : 0 ≤ (x3_1 : Int) := oda
          have q10 : x3_1 < (a0.size : Int) := oda
          have hx10 := bt_at a0 x3_1
          replace p10 := eq_true p10
          replace q10 := eq_true q10
          have p12 : 0 ≤ (x3_1 : Int) := oda
          have q12 : x3_1 < (a0.size : Int) := oda
          have hx12 := bt_at a0 x3_1
          replace p12 := eq_true p12
          replace q12 := eq_true q12
          have p14 : 0 ≤ (x3_1 : Int) := oda
          have q14 : x3_1 < (a0.size : Int) := oda
          have hx14 := bt_at a0 x3_1
          replace p14 := eq_true p14
          replace q14 := eq_true q14
          go_wp2
          go_roundg k1
          case measure => have := HK1.out; omega
          case rel => exact ⟨(wrap64 (x3_1 + 1)), eqa, H', ⟨by have := HK1.out; omega⟩, by repeat (first | exact Drawn0.refl _ | apply Drawn0.step)⟩
       ·rw [if_neg c11] at H
        have c11b0 : decide (122 < (bt a0 x3_1)) = false := decide_eq_false c11
        clear c11
        have H' := Aside0.mk H
        clear H
        have p4 : 0 ≤ (x3_1 : Int) := oda
        have q4 : x3_1 < (a0.size : Int) := oda
        have hx4 := bt_at a0 x3_1
        replace p4 := eq_true p4
        replace q4 := eq_true q4
        have p10 : 0 ≤ (x3_1 : Int) := oda
        have q10 : x3_1 < (a0.size : Int) := oda
        have hx10 := bt_at a0 x3_1
        replace p10 := eq_true p10
        replace q10 := eq_true q10
        go_wp2
        go_roundg k1
        case measure => have := HK1.out; omega
        case rel => exact ⟨(wrap64 (x3_1 + 1)), eqa, H', ⟨by have := HK1.out; omega⟩, by repeat (first | exact Drawn0.refl _ | apply Drawn0.step)⟩
     ·rw [if_neg c3] at H
      exact absurd H (by simp)
    ·rw [if_neg c2] at H
     have c2b0 : decide (x3_1 < (a0.size : Int)) = false := decide_eq_false c2
     clear c2
     replace H := Option.bind_eq_some_iff.mp H
     obtain ⟨t173, A160, H⟩ := H
     replace H : (some t173) = some r := H
     have A16 := Aside0.mk A160
     clear A160
     obtain rfl := Option.some.inj H
     go_wp2_with (first | ((with_reducible refine gate_callee (f := 38) rfl ?_); refine goesL_ (some 34) rfl rfl Try.func38 (by kernel_rfl) rfl #[.int .i64 (a0.size : Int), .int .i64 1, .int .i64 8] rfl (by (try simp only [List.map_toArray, List.map_cons, List.map_nil]); first | done | rfl | (simp only [List.length_drop, List.length_take]; rfl)) ?_; (with_reducible refine (spec_l01In.calls (a0.size : Int) 1 8 t173 _ A16.out).mono ?_); rintro e w' ⟨rfl, ⟨nd, rfl⟩⟩; refine ⟨_, rfl, ?_⟩))
     go_ret
     exact ⟨by first | rfl | (simp; done) | (simp [*]; done), by repeat (first | exact Drawn0.refl _ | apply Drawn0.step)⟩

end Go.Proofs.Ytnhbfbgflgplcaa.QTW
