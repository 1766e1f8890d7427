/- The walks that FnCuts leans on, after a printed text of the kit's print, mended by a program of mine. -/
import Derived.Test.YtgmmihbogfcppaaOCuts0
import Derived.Test.YtgmmihbogfcppaaOCuts1
import Derived.Test.YtgmmihbogfcppaaOCuts2
namespace Go.Proofs.Ytgmmihbogfcppaa.OCuts
open Go.RowKit Go.Proofs.YtgmmihbogfcppaaW.PrintWords Go.Proofs.YtgmmihbogfcppaaW.PrintLast Go.Proofs.YtgmmihbogfcppaaW.PrintMore
attribute [local go_sem] max2_int min2_int max_two min_two max_three min_three max_four min_four   -- for this text's walks alone
set_option linter.unusedVariables false
set_option linter.unusedSimpArgs false

/-! ### laws_FnCuts: function 3 -/
def laws_FnCuts.l0 : Nat → ByteArray → List ByteArray → Bool → ByteArray → Bool → Int → ByteArray → Bool → Bool → Int → Int → Option (Bool)
  | 0, _, _, _, _, _, _, _, _, _, _, _ => none
  | k + 1, x4, x5, x6, x7, x8, x9, x10, x11, x13, x14, x15 => if x15 < (x5.length : Int) then (if 0 ≤ x15 then (if ((rdOf ByteArray.empty x5 x15).size : Int) > 8 then (some false) else (laws_FnCuts.l0 k x4 x5 x6 x7 x8 x9 x10 x11 x13 (wrap64 (x14 + ((rdOf ByteArray.empty x5 x15).size : Int))) (wrap64 (x15 + 1)))) else (none)) else (if x6 = true then (if x8 = true then (if x7.toList = x4.toList then (if x11 = true then (if 0 ≤ x9 then (if x9 ≤ (x4.size : Int) then (if x10.toList = (x4.extract 0 (x9 : Int).toNat).toList then (if x13 = true then (some false) else (some (x14 == (x4.size : Int)))) else (some false)) else (none)) else (none)) else (some false)) else (some false)) else (some false)) else (some false))
def laws_FnCuts.f (k : Nat) (l0 : List Int) : Option (Bool) := (laws_big.f l0).bind fun t197 => (if t197 = true then (some true) else ((spec_DrawGroup.f k l0).bind fun bt198 => ((impl_CutUnits.f k bt198.1 bt198.2).bind fun bt200 => ((impl_JoinUnits.f k bt198.1 bt200.1 (bt198.2.size : Int)).bind fun bt204 => ((spec_DrawPlaces.f k l0).bind fun t206 => (if 0 < (t206.length : Int) then (if (wrap64 ((bt198.2.size : Int) + 1)) = 0 then (none) else ((impl_JoinUnits.f k bt198.1 bt200.1 (Int.tmod (rd t206 0) (wrap64 ((bt198.2.size : Int) + 1)))).bind fun bt210 => (if bt198.2.size + 40 ≤ 9223372036854775807 then ((impl_CutUnits.f k bt198.1 (bt198.2 ++ (⟨#[48, 49, 50, 51, 52, 53, 54, 55, 56, 57, 48, 49, 50, 51, 52, 53, 54, 55, 56, 57, 48, 49, 50, 51, 52, 53, 54, 55, 56, 57, 48, 49, 50, 51, 52, 53, 54, 55, 56, 57]⟩ : ByteArray))).bind fun bt212 => (laws_FnCuts.l0 k bt198.2 bt200.1 bt200.2 bt204.1 bt204.2 (Int.tmod (rd t206 0) (wrap64 ((bt198.2.size : Int) + 1))) bt210.1 bt210.2 bt212.2 0 0)) else (none)))) else (none)))))))
theorem laws_FnCuts.mono_l : ∀ k, (∀ y0 y1 y2 y3 y4 y5 y6 y7 y8 y9 y10, LeO (laws_FnCuts.l0 k y0 y1 y2 y3 y4 y5 y6 y7 y8 y9 y10) (laws_FnCuts.l0 (k + 1) y0 y1 y2 y3 y4 y5 y6 y7 y8 y9 y10))
  | 0 => fun _ _ _ _ _ _ _ _ _ _ _ r h => by simp [laws_FnCuts.l0] at h
  | k + 1 => by
    have ih0 := laws_FnCuts.mono_l k
    · intro y0 y1 y2 y3 y4 y5 y6 y7 y8 y9 y10
      unfold laws_FnCuts.l0
      repeat' first
      | (with_reducible exact ih0 _ _ _ _ _ _ _ _ _ _ _)
      | (with_reducible exact impl_CutUnits.mono _ _ _)
      | (with_reducible exact impl_JoinUnits.mono _ _ _ _)
      | (with_reducible exact spec_DrawGroup.mono _ _)
      | (with_reducible exact spec_DrawPlaces.mono _ _)
      | (with_reducible exact LeO.refl _)
      | (with_reducible exact LeO.none _)
      | (with_reducible refine LeO.ite ?_ ?_)
      | (with_reducible refine LeO.bind ?_ (fun _ => ?_))
      | exact ih0 _ _ _ _ _ _ _ _ _ _ _
      | exact impl_CutUnits.mono _ _ _
      | exact impl_JoinUnits.mono _ _ _ _
      | exact spec_DrawGroup.mono _ _
      | exact spec_DrawPlaces.mono _ _
      | exact LeO.none _
      | refine LeO.ite ?_ ?_
      | refine LeO.bind ?_ (fun _ => ?_)
theorem laws_FnCuts.mono : ∀ a0 k, LeO (laws_FnCuts.f k a0) (laws_FnCuts.f (k + 1) a0) := by
  intro a0 k
  have ih0 := laws_FnCuts.mono_l k
  unfold laws_FnCuts.f
  repeat' first
      | (with_reducible exact ih0 _ _ _ _ _ _ _ _ _ _ _)
      | (with_reducible exact impl_CutUnits.mono _ _ _)
      | (with_reducible exact impl_JoinUnits.mono _ _ _ _)
      | (with_reducible exact spec_DrawGroup.mono _ _)
      | (with_reducible exact spec_DrawPlaces.mono _ _)
      | (with_reducible exact LeO.refl _)
      | (with_reducible exact LeO.none _)
      | (with_reducible refine LeO.ite ?_ ?_)
      | (with_reducible refine LeO.bind ?_ (fun _ => ?_))
      | exact ih0 _ _ _ _ _ _ _ _ _ _ _
      | exact impl_CutUnits.mono _ _ _
      | exact impl_JoinUnits.mono _ _ _ _
      | exact spec_DrawGroup.mono _ _
      | exact spec_DrawPlaces.mono _ _
      | exact LeO.none _
      | refine LeO.ite ?_ ?_
      | refine LeO.bind ?_ (fun _ => ?_)
set_option maxHeartbeats 8000000 in
set_option maxRecDepth 100000 in
theorem laws_FnCuts.calls (k : Nat) (A0 : Option Addr) (c0 : Nat) (l0 : List Int) (r : Bool) (w : World) (hr0 : Kd.C (Kd.int .u8) w A0 l0.length l0) (hc0 : l0.length ≤ c0) (h : laws_FnCuts.f k l0 = some r) :
    Calls Try.prog 3 #[.slice A0 l0.length c0] w fun e w' => e = .returned (.bool r) ∧ Below w.heap.size w w' := by
  have HR0 := Aside0.mk hr0
  have HC0 := Aside0.mk hc0
  clear hr0 hc0
  have HB := Aside0.mk (Below.refl w.heap.size w)
  have H : ((laws_big.f l0).bind fun t197 => (if t197 = true then (some true) else ((spec_DrawGroup.f k l0).bind fun bt198 => ((impl_CutUnits.f k bt198.1 bt198.2).bind fun bt200 => ((impl_JoinUnits.f k bt198.1 bt200.1 (bt198.2.size : Int)).bind fun bt204 => ((spec_DrawPlaces.f k l0).bind fun t206 => (if 0 < (t206.length : Int) then (if (wrap64 ((bt198.2.size : Int) + 1)) = 0 then (none) else ((impl_JoinUnits.f k bt198.1 bt200.1 (Int.tmod (rd t206 0) (wrap64 ((bt198.2.size : Int) + 1)))).bind fun bt210 => (if bt198.2.size + 40 ≤ 9223372036854775807 then ((impl_CutUnits.f k bt198.1 (bt198.2 ++ (⟨#[48, 49, 50, 51, 52, 53, 54, 55, 56, 57, 48, 49, 50, 51, 52, 53, 54, 55, 56, 57, 48, 49, 50, 51, 52, 53, 54, 55, 56, 57, 48, 49, 50, 51, 52, 53, 54, 55, 56, 57]⟩ : ByteArray))).bind fun bt212 => (laws_FnCuts.l0 k bt198.2 bt200.1 bt200.2 bt204.1 bt204.2 (Int.tmod (rd t206 0) (wrap64 ((bt198.2.size : Int) + 1))) bt210.1 bt210.2 bt212.2 0 0)) else (none)))) else (none)))))))) = some r := h
  clear h
  replace H := Option.bind_eq_some_iff.mp H
  obtain ⟨t197, A20, H⟩ := H
  replace H : (if t197 = true then (some true) else ((spec_DrawGroup.f k l0).bind fun bt198 => ((impl_CutUnits.f k bt198.1 bt198.2).bind fun bt200 => ((impl_JoinUnits.f k bt198.1 bt200.1 (bt198.2.size : Int)).bind fun bt204 => ((spec_DrawPlaces.f k l0).bind fun t206 => (if 0 < (t206.length : Int) then (if (wrap64 ((bt198.2.size : Int) + 1)) = 0 then (none) else ((impl_JoinUnits.f k bt198.1 bt200.1 (Int.tmod (rd t206 0) (wrap64 ((bt198.2.size : Int) + 1)))).bind fun bt210 => (if bt198.2.size + 40 ≤ 9223372036854775807 then ((impl_CutUnits.f k bt198.1 (bt198.2 ++ (⟨#[48, 49, 50, 51, 52, 53, 54, 55, 56, 57, 48, 49, 50, 51, 52, 53, 54, 55, 56, 57, 48, 49, 50, 51, 52, 53, 54, 55, 56, 57, 48, 49, 50, 51, 52, 53, 54, 55, 56, 57]⟩ : ByteArray))).bind fun bt212 => (laws_FnCuts.l0 k bt198.2 bt200.1 bt200.2 bt204.1 bt204.2 (Int.tmod (rd t206 0) (wrap64 ((bt198.2.size : Int) + 1))) bt210.1 bt210.2 bt212.2 0 0)) else (none)))) else (none))))))) = some r := H
  have A2 := Aside0.mk A20
  clear A20
  by_cases c3 : t197 = true
  · subst c3
    have H1 : (some true) = some r := by rw [if_pos rfl] at H; exact H
    clear H
    have H := H1
    clear H1
    obtain rfl := Option.some.inj H
    go_enter Try.func3, Try.ntmps3
    go_wp2_with (first | ((with_reducible refine gate_callee (f := 10) rfl ?_); refine goesL_ (some 17) rfl rfl Try.func10 (by kernel_rfl) rfl #[.slice A0 l0.length c0] rfl (by (try simp only [List.map_toArray, List.map_cons, List.map_nil]); first | done | rfl | (simp only [List.length_drop, List.length_take]; rfl)) ?_; (with_reducible refine (laws_big.calls _ _ l0 true _ ?side1 ?side2 A2.out).mono ?_); (case side1 => repeat (first | exact HR0.out | (with_reducible refine Kd.C_alloc ?_ _) | (with_reducible refine Kd.C_drewN ?_ _) | (with_reducible refine Kd.C_drew ?_))); (case side2 => exact HC0.out); rintro e w' ⟨rfl, ⟨nd, rfl⟩⟩; refine ⟨_, rfl, ?_⟩))
    go_ret
    exact ⟨by first | rfl | (simp [errW_none, errW_some] <;> rfl) | (simp [*, errW_none, errW_some] <;> rfl), by repeat (first | (with_reducible first | exact HB.out | apply below_alloc | apply pw_below_drewN | apply below_drew1) | exact HB.out)⟩
  · replace c3 := Bool.eq_false_iff.mpr c3
    subst c3
    have H1 : ((spec_DrawGroup.f k l0).bind fun bt198 => ((impl_CutUnits.f k bt198.1 bt198.2).bind fun bt200 => ((impl_JoinUnits.f k bt198.1 bt200.1 (bt198.2.size : Int)).bind fun bt204 => ((spec_DrawPlaces.f k l0).bind fun t206 => (if 0 < (t206.length : Int) then (if (wrap64 ((bt198.2.size : Int) + 1)) = 0 then (none) else ((impl_JoinUnits.f k bt198.1 bt200.1 (Int.tmod (rd t206 0) (wrap64 ((bt198.2.size : Int) + 1)))).bind fun bt210 => (if bt198.2.size + 40 ≤ 9223372036854775807 then ((impl_CutUnits.f k bt198.1 (bt198.2 ++ (⟨#[48, 49, 50, 51, 52, 53, 54, 55, 56, 57, 48, 49, 50, 51, 52, 53, 54, 55, 56, 57, 48, 49, 50, 51, 52, 53, 54, 55, 56, 57, 48, 49, 50, 51, 52, 53, 54, 55, 56, 57]⟩ : ByteArray))).bind fun bt212 => (laws_FnCuts.l0 k bt198.2 bt200.1 bt200.2 bt204.1 bt204.2 (Int.tmod (rd t206 0) (wrap64 ((bt198.2.size : Int) + 1))) bt210.1 bt210.2 bt212.2 0 0)) else (none)))) else (none)))))) = some r := by rw [if_neg (show ¬ (false = true) by decide)] at H; exact H
    clear H
    have H := H1
    clear H1
    replace H := Option.bind_eq_some_iff.mp H
    obtain ⟨⟨t198, t199⟩, A40, H⟩ := H
    replace H : ((impl_CutUnits.f k t198 t199).bind fun bt200 => ((impl_JoinUnits.f k t198 bt200.1 (t199.size : Int)).bind fun bt204 => ((spec_DrawPlaces.f k l0).bind fun t206 => (if 0 < (t206.length : Int) then (if (wrap64 ((t199.size : Int) + 1)) = 0 then (none) else ((impl_JoinUnits.f k t198 bt200.1 (Int.tmod (rd t206 0) (wrap64 ((t199.size : Int) + 1)))).bind fun bt210 => (if t199.size + 40 ≤ 9223372036854775807 then ((impl_CutUnits.f k t198 (t199 ++ (⟨#[48, 49, 50, 51, 52, 53, 54, 55, 56, 57, 48, 49, 50, 51, 52, 53, 54, 55, 56, 57, 48, 49, 50, 51, 52, 53, 54, 55, 56, 57, 48, 49, 50, 51, 52, 53, 54, 55, 56, 57]⟩ : ByteArray))).bind fun bt212 => (laws_FnCuts.l0 k t199 bt200.1 bt200.2 bt204.1 bt204.2 (Int.tmod (rd t206 0) (wrap64 ((t199.size : Int) + 1))) bt210.1 bt210.2 bt212.2 0 0)) else (none)))) else (none))))) = some r := H
    have A4 := Aside0.mk A40
    clear A40
    replace H := Option.bind_eq_some_iff.mp H
    obtain ⟨⟨t200, t201⟩, A50, H⟩ := H
    replace H : ((impl_JoinUnits.f k t198 t200 (t199.size : Int)).bind fun bt204 => ((spec_DrawPlaces.f k l0).bind fun t206 => (if 0 < (t206.length : Int) then (if (wrap64 ((t199.size : Int) + 1)) = 0 then (none) else ((impl_JoinUnits.f k t198 t200 (Int.tmod (rd t206 0) (wrap64 ((t199.size : Int) + 1)))).bind fun bt210 => (if t199.size + 40 ≤ 9223372036854775807 then ((impl_CutUnits.f k t198 (t199 ++ (⟨#[48, 49, 50, 51, 52, 53, 54, 55, 56, 57, 48, 49, 50, 51, 52, 53, 54, 55, 56, 57, 48, 49, 50, 51, 52, 53, 54, 55, 56, 57, 48, 49, 50, 51, 52, 53, 54, 55, 56, 57]⟩ : ByteArray))).bind fun bt212 => (laws_FnCuts.l0 k t199 t200 t201 bt204.1 bt204.2 (Int.tmod (rd t206 0) (wrap64 ((t199.size : Int) + 1))) bt210.1 bt210.2 bt212.2 0 0)) else (none)))) else (none)))) = some r := H
    have A5 := Aside0.mk A50
    clear A50
    replace H := Option.bind_eq_some_iff.mp H
    obtain ⟨⟨t204, t205⟩, A60, H⟩ := H
    replace H : ((spec_DrawPlaces.f k l0).bind fun t206 => (if 0 < (t206.length : Int) then (if (wrap64 ((t199.size : Int) + 1)) = 0 then (none) else ((impl_JoinUnits.f k t198 t200 (Int.tmod (rd t206 0) (wrap64 ((t199.size : Int) + 1)))).bind fun bt210 => (if t199.size + 40 ≤ 9223372036854775807 then ((impl_CutUnits.f k t198 (t199 ++ (⟨#[48, 49, 50, 51, 52, 53, 54, 55, 56, 57, 48, 49, 50, 51, 52, 53, 54, 55, 56, 57, 48, 49, 50, 51, 52, 53, 54, 55, 56, 57, 48, 49, 50, 51, 52, 53, 54, 55, 56, 57]⟩ : ByteArray))).bind fun bt212 => (laws_FnCuts.l0 k t199 t200 t201 t204 t205 (Int.tmod (rd t206 0) (wrap64 ((t199.size : Int) + 1))) bt210.1 bt210.2 bt212.2 0 0)) else (none)))) else (none))) = some r := H
    have A6 := Aside0.mk A60
    clear A60
    replace H := Option.bind_eq_some_iff.mp H
    obtain ⟨t206, A70, H⟩ := H
    replace H : (if 0 < (t206.length : Int) then (if (wrap64 ((t199.size : Int) + 1)) = 0 then (none) else ((impl_JoinUnits.f k t198 t200 (Int.tmod (rd t206 0) (wrap64 ((t199.size : Int) + 1)))).bind fun bt210 => (if t199.size + 40 ≤ 9223372036854775807 then ((impl_CutUnits.f k t198 (t199 ++ (⟨#[48, 49, 50, 51, 52, 53, 54, 55, 56, 57, 48, 49, 50, 51, 52, 53, 54, 55, 56, 57, 48, 49, 50, 51, 52, 53, 54, 55, 56, 57, 48, 49, 50, 51, 52, 53, 54, 55, 56, 57]⟩ : ByteArray))).bind fun bt212 => (laws_FnCuts.l0 k t199 t200 t201 t204 t205 (Int.tmod (rd t206 0) (wrap64 ((t199.size : Int) + 1))) bt210.1 bt210.2 bt212.2 0 0)) else (none)))) else (none)) = some r := H
    have A7 := Aside0.mk A70
    clear A70
    by_cases c8 : 0 < (t206.length : Int)
    · rw [if_pos c8] at H
      have c8b0 : decide (0 < (t206.length : Int)) = true := decide_eq_true c8
      have c8b1 : decide (0 < t206.length) = true := decide_eq_true (by omega)
      clear c8
      by_cases c9 : (wrap64 ((t199.size : Int) + 1)) = 0
      · rw [if_pos c9] at H
        exact absurd H (by simp)
      · rw [if_neg c9] at H
        have c9b0 : ((wrap64 ((t199.size : Int) + 1)) == 0) = false := beq_eq_false_iff_ne.mpr c9
        have c9b1 : ((wrap64 ((t199.size : Int) + 1)) != 0) = true := bne_iff_ne.mpr c9
        replace H := Option.bind_eq_some_iff.mp H
        obtain ⟨⟨t210, t211⟩, A100, H⟩ := H
        replace H : (if t199.size + 40 ≤ 9223372036854775807 then ((impl_CutUnits.f k t198 (t199 ++ (⟨#[48, 49, 50, 51, 52, 53, 54, 55, 56, 57, 48, 49, 50, 51, 52, 53, 54, 55, 56, 57, 48, 49, 50, 51, 52, 53, 54, 55, 56, 57, 48, 49, 50, 51, 52, 53, 54, 55, 56, 57]⟩ : ByteArray))).bind fun bt212 => (laws_FnCuts.l0 k t199 t200 t201 t204 t205 (Int.tmod (rd t206 0) (wrap64 ((t199.size : Int) + 1))) t210 t211 bt212.2 0 0)) else (none)) = some r := H
        have A10 := Aside0.mk A100
        clear A100
        by_cases c11 : t199.size + 40 ≤ 9223372036854775807
        · rw [if_pos c11] at H
          have c11b0 := eq_true c11
          have hz : wrap64 ((t199.size : Int) + 1) = (t199.size : Int) + 1 := by unfold wrap64; omega
          simp only [hz] at H A10 c9b0 c9b1
          have c11b1 : decide (t199.size + 40 ≤ 9223372036854775807) = true := decide_eq_true c11
          try have c11b2 : (9223372036854775807 < t199.size + 40) = False := eq_false (Nat.not_lt.2 c11)
          replace H := Option.bind_eq_some_iff.mp H
          obtain ⟨⟨t212, t213⟩, A120, H⟩ := H
          replace H : (laws_FnCuts.l0 k t199 t200 t201 t204 t205 (Int.tmod (rd t206 0) ((t199.size : Int) + 1)) t210 t211 t213 0 0) = some r := H
          have A12 := Aside0.mk A120
          clear A120
          have H' := Aside0.mk H
          clear H
          go_enter Try.func3, Try.ntmps3
          go_wp2_with (first | ((with_reducible refine gate_callee (f := 10) rfl ?_); refine goesL_ (some 17) rfl rfl Try.func10 (by kernel_rfl) rfl #[.slice A0 l0.length c0] rfl (by (try simp only [List.map_toArray, List.map_cons, List.map_nil]); first | done | rfl | (simp only [List.length_drop, List.length_take]; rfl)) ?_; (with_reducible refine (laws_big.calls _ _ l0 false _ ?side1 ?side2 A2.out).mono ?_); (case side1 => repeat (first | exact HR0.out | (with_reducible refine Kd.C_alloc ?_ _) | (with_reducible refine Kd.C_drewN ?_ _) | (with_reducible refine Kd.C_drew ?_))); (case side2 => exact HC0.out); rintro e w' ⟨rfl, ⟨nd, rfl⟩⟩; refine ⟨_, rfl, ?_⟩) | ((with_reducible refine gate_callee (f := 11) rfl ?_); refine goesL_ (some 20) rfl rfl Try.func11 (by kernel_rfl) rfl #[.slice A0 l0.length c0] rfl (by (try simp only [List.map_toArray, List.map_cons, List.map_nil]); first | done | rfl | (simp only [List.length_drop, List.length_take]; rfl)) ?_; (with_reducible refine (spec_DrawGroup.calls k _ _ l0 t198 t199 _ ?side1 ?side2 A4.out).mono ?_); (case side1 => repeat (first | exact HR0.out | (with_reducible refine Kd.C_alloc ?_ _) | (with_reducible refine Kd.C_drewN ?_ _) | (with_reducible refine Kd.C_drew ?_))); (case side2 => exact HC0.out); rintro e w13 ⟨rfl, hb⟩; refine ⟨_, rfl, ?_⟩; have n0_ := Aside0.mk (below_step (by repeat (first | (with_reducible first | exact HB.out | apply below_alloc | apply pw_below_drewN | apply below_drew1) | exact HB.out)) hb); clear HB; have HB := n0_; clear n0_; (try clear hb); (try clear hb2); (try clear hk); (try clear hi)) | ((with_reducible refine gate_callee (f := 12) rfl ?_); refine goesL_ (some 26) rfl rfl Try.func12 (by kernel_rfl) rfl #[.int .i64 t198, .string t199] rfl (by (try simp only [List.map_toArray, List.map_cons, List.map_nil]); first | done | rfl | (simp only [List.length_drop, List.length_take]; rfl)) ?_; (with_reducible refine (impl_CutUnits.calls k t198 t199 t200 t201 _ A5.out).mono ?_); rintro e w14 ⟨v202, rfl, ho0, hb⟩; refine ⟨_, rfl, ?_⟩; have n0_ := Aside0.mk (Kd.R_lower ho0 (below_size (by repeat (first | (with_reducible first | exact HB.out | apply below_alloc | apply pw_below_drewN | apply below_drew1) | exact HB.out)))); have n1_ := Aside0.mk (below_step (by repeat (first | (with_reducible first | exact HB.out | apply below_alloc | apply pw_below_drewN | apply below_drew1) | exact HB.out)) hb); clear HB; have HO203 := n0_; have HB := n1_; clear n0_ n1_; (try clear hb); (try clear hb2); (try clear hk); (try clear hi); (try clear ho0); obtain ⟨Ao15, co15, eo15⟩ := Kd.R_slice HO203.out; subst eo15) | ((with_reducible refine gate_callee (f := 13) rfl ?_); refine goesL_ (some 34) rfl rfl Try.func13 (by kernel_rfl) rfl #[.int .i64 t198, .slice Ao15 t200.length co15, .int .i64 (t199.size : Int)] rfl (by (try simp only [List.map_toArray, List.map_cons, List.map_nil]); first | done | rfl | (simp only [List.length_drop, List.length_take]; rfl)) ?_; (with_reducible refine (impl_JoinUnits.calls k t198 _ _ t200 (t199.size : Int) t204 t205 _ ?side1 ?side2 A6.out).mono ?_); (case side1 => repeat (first | exact (Kd.R_reads' HO203.out).2.2 | (with_reducible refine Kd.C_alloc ?_ _) | (with_reducible refine Kd.C_drewN ?_ _) | (with_reducible refine Kd.C_drew ?_))); (case side2 => exact (Kd.R_reads' HO203.out).2.1); rintro e w16 ⟨rfl, hb⟩; refine ⟨_, rfl, ?_⟩; have n0_ := Aside0.mk (Kd.R_below (by (with_reducible repeat (first | apply Kd.R_alloc | apply Kd.R_drewN | apply Kd.R_drew)); exact HO203.out) hb); have n1_ := Aside0.mk (below_step (by repeat (first | (with_reducible first | exact HB.out | apply below_alloc | apply pw_below_drewN | apply below_drew1) | exact HB.out)) hb); clear HO203; clear HB; have HO203 := n0_; have HB := n1_; clear n0_ n1_; (try clear hb); (try clear hb2); (try clear hk); (try clear hi)) | ((with_reducible refine gate_callee (f := 14) rfl ?_); refine goesL_ (some 38) rfl rfl Try.func14 (by kernel_rfl) rfl #[.slice A0 l0.length c0] rfl (by (try simp only [List.map_toArray, List.map_cons, List.map_nil]); first | done | rfl | (simp only [List.length_drop, List.length_take]; rfl)) ?_; (with_reducible refine (spec_DrawPlaces.calls k _ _ l0 t206 _ ?side1 ?side2 A7.out).mono ?_); (case side1 => repeat (first | exact (Kd.C_below HR0.out HB.out) | (with_reducible refine Kd.C_alloc ?_ _) | (with_reducible refine Kd.C_drewN ?_ _) | (with_reducible refine Kd.C_drew ?_))); (case side2 => exact HC0.out); rintro e w17 ⟨v207, rfl, ho0, hb⟩; refine ⟨_, rfl, ?_⟩; have n0_ := Aside0.mk (Kd.R_below (by (with_reducible repeat (first | apply Kd.R_alloc | apply Kd.R_drewN | apply Kd.R_drew)); exact HO203.out) hb); have n1_ := Aside0.mk (Kd.R_lower ho0 (below_size (by repeat (first | (with_reducible first | exact HB.out | apply below_alloc | apply pw_below_drewN | apply below_drew1) | exact HB.out)))); have n2_ := Aside0.mk (below_step (by repeat (first | (with_reducible first | exact HB.out | apply below_alloc | apply pw_below_drewN | apply below_drew1) | exact HB.out)) hb); clear HO203; clear HB; have HO203 := n0_; have HO208 := n1_; have HB := n2_; clear n0_ n1_ n2_; (try clear hb); (try clear hb2); (try clear hk); (try clear hi); (try clear ho0); obtain ⟨Ao18, co18, eo18⟩ := Kd.R_slice HO208.out; subst eo18; have p209 : 0 ≤ (0 : Int) := (by omega); have q209 : 0 < (t206.length : Int) := of_decide_eq_true (by first | (with_reducible assumption) | assumption); obtain ⟨ad209, e209, hx209_0⟩ := Kd.at_int (Kd.R_reads' HO208.out).2.2 0 p209 q209; cases e209; have qi209 : (0 < t206.length) = True := eq_true (by omega); (try rw [show ((0 : Int)).toNat = 0 from rfl] at hx209_0); (try rw [Addr.add_zero'] at hx209_0); replace p209 := eq_true p209; replace q209 := eq_true q209) | ((with_reducible refine gate_callee (f := 13) rfl ?_); refine goesL_ (some 49) rfl rfl Try.func13 (by kernel_rfl) rfl #[.int .i64 t198, .slice Ao15 t200.length co15, .int .i64 (Int.tmod (rd t206 0) ((t199.size : Int) + 1))] rfl (by (try simp only [List.map_toArray, List.map_cons, List.map_nil]); first | done | rfl | (simp only [List.length_drop, List.length_take]; rfl)) ?_; (with_reducible refine (impl_JoinUnits.calls k t198 _ _ t200 (Int.tmod (rd t206 0) ((t199.size : Int) + 1)) t210 t211 _ ?side1 ?side2 A10.out).mono ?_); (case side1 => repeat (first | exact (Kd.R_reads' HO203.out).2.2 | (with_reducible refine Kd.C_alloc ?_ _) | (with_reducible refine Kd.C_drewN ?_ _) | (with_reducible refine Kd.C_drew ?_))); (case side2 => exact (Kd.R_reads' HO203.out).2.1); rintro e w19 ⟨rfl, hb⟩; refine ⟨_, rfl, ?_⟩; have n0_ := Aside0.mk (Kd.R_below (by (with_reducible repeat (first | apply Kd.R_alloc | apply Kd.R_drewN | apply Kd.R_drew)); exact HO203.out) hb); have n1_ := Aside0.mk (Kd.R_below (by (with_reducible repeat (first | apply Kd.R_alloc | apply Kd.R_drewN | apply Kd.R_drew)); exact HO208.out) hb); have n2_ := Aside0.mk (below_step (by repeat (first | (with_reducible first | exact HB.out | apply below_alloc | apply pw_below_drewN | apply below_drew1) | exact HB.out)) hb); clear HO203; clear HO208; clear HB; have HO203 := n0_; have HO208 := n1_; have HB := n2_; clear n0_ n1_ n2_; (try clear hb); (try clear hb2); (try clear hk); (try clear hi)) | ((with_reducible refine gate_callee (f := 12) rfl ?_); refine goesL_ (some 56) rfl rfl Try.func12 (by kernel_rfl) rfl #[.int .i64 t198, .string (t199 ++ (⟨#[48, 49, 50, 51, 52, 53, 54, 55, 56, 57, 48, 49, 50, 51, 52, 53, 54, 55, 56, 57, 48, 49, 50, 51, 52, 53, 54, 55, 56, 57, 48, 49, 50, 51, 52, 53, 54, 55, 56, 57]⟩ : ByteArray))] rfl (by (try simp only [List.map_toArray, List.map_cons, List.map_nil]); first | done | rfl | (simp only [List.length_drop, List.length_take]; rfl)) ?_; (with_reducible refine (impl_CutUnits.calls k t198 (t199 ++ (⟨#[48, 49, 50, 51, 52, 53, 54, 55, 56, 57, 48, 49, 50, 51, 52, 53, 54, 55, 56, 57, 48, 49, 50, 51, 52, 53, 54, 55, 56, 57, 48, 49, 50, 51, 52, 53, 54, 55, 56, 57]⟩ : ByteArray)) t212 t213 _ A12.out).mono ?_); rintro e w20 ⟨v214, rfl, ho0, hb⟩; refine ⟨_, rfl, ?_⟩; have n0_ := Aside0.mk (Kd.R_elder' (by (with_reducible repeat (first | apply Kd.R_alloc | apply Kd.R_drewN | apply Kd.R_drew)); exact HO203.out) (Kd.R_base ho0) hb); have n1_ := Aside0.mk (Kd.R_below (by (with_reducible repeat (first | apply Kd.R_alloc | apply Kd.R_drewN | apply Kd.R_drew)); exact HO208.out) hb); have n2_ := Aside0.mk (Kd.R_lower (Kd.R_new' ho0 (Kd.R_lt (by (with_reducible repeat (first | apply Kd.R_alloc | apply Kd.R_drewN | apply Kd.R_drew)); exact HO203.out))) (below_size (by repeat (first | (with_reducible first | exact HB.out | apply below_alloc | apply pw_below_drewN | apply below_drew1) | exact HB.out)))); have n3_ := Aside0.mk (below_step (by repeat (first | (with_reducible first | exact HB.out | apply below_alloc | apply pw_below_drewN | apply below_drew1) | exact HB.out)) hb); clear HO203; clear HO208; clear HB; have HO203 := n0_; have HO208 := n1_; have HO215 := n2_; have HB := n3_; clear n0_ n1_ n2_ n3_; (try clear hb); (try clear hb2); (try clear hk); (try clear hi); (try clear ho0)))
          go_loopg [14, 15] k (fun kq v14 v15 w' => ∃ (x14_1 : Int) (x15_1 : Int), v14 = .int .i64 x14_1 ∧ v15 = .int .i64 x15_1 ∧ Aside0 (laws_FnCuts.l0 kq t199 t200 t201 t204 t205 (Int.tmod (rd t206 0) ((t199.size : Int) + 1)) t210 t211 t213 x14_1 x15_1 = some r) ∧ Aside0 (kq ≤ k) ∧ Aside0 (Kd.R Kd.string 9 w' w.heap.size (fun _ => True) (.slice Ao15 t200.length co15) t200) ∧ Aside0 (Below w.heap.size w w'))
          case atStart => exact ⟨(0), (0), (by first | rfl | (simp; done) | (simp [*]; done)), (by first | rfl | (simp; done) | (simp [*]; done)), H', ⟨Nat.le_refl _⟩, ⟨by (with_reducible repeat (first | apply Kd.R_alloc | apply Kd.R_drewN | apply Kd.R_drew)); exact Kd.R_mono HO203.out (fun _ hk => trivial)⟩, ⟨by repeat (first | (with_reducible first | exact HB.out | apply below_alloc | apply pw_below_drewN | apply below_drew1) | exact HB.out)⟩⟩
          case round =>
            clear H'
            try clear c1
            try clear p2
            try clear q2
            try clear hx2
            try clear qi2
            try clear c3
            try clear p6
            try clear c8
            try clear c8b0
            try clear c8b1
            try clear c9
            try clear c9b0
            try clear c9b1
            try clear c10
            try clear c11
            try clear c11b0
            try clear c11b1
            try clear c11b2
            try clear c12
            try clear c13
            try clear c14
            try clear p20
            try clear q20
            try clear hx20
            try clear qi20
            try clear hx209_0
            try clear p209
            try clear q209
            obtain ⟨x14_1, x15_1, rfl, rfl, HA, HK1, HO_5, HB⟩ := hrel
            cases gk with
            | zero => exact absurd HA.out (by simp [laws_FnCuts.l0])
            | succ k1 =>
              have H := HA.out
              clear HA
              simp only [laws_FnCuts.l0] at H
              by_cases c21 : x15_1 < (t200.length : Int)
              · rw [if_pos c21] at H
                have c21b0 : decide (x15_1 < (t200.length : Int)) = true := decide_eq_true c21
                clear c21
                by_cases c22 : 0 ≤ x15_1
                · rw [if_pos c22] at H
                  have c22b0 : decide (0 ≤ x15_1) = true := decide_eq_true c22
                  clear c22
                  by_cases c23 : ((rdOf ByteArray.empty t200 x15_1).size : Int) > 8
                  · rw [if_pos c23] at H
                    have c23b0 : decide (8 < ((rdOf ByteArray.empty t200 x15_1).size : Int)) = true := decide_eq_true c23
                    have c23b1 : decide (8 < (rdOf ByteArray.empty t200 x15_1).size) = true := decide_eq_true (by omega)
                    clear c23
                    obtain rfl := Option.some.inj H
                    have p216 : 0 ≤ (x15_1 : Int) := of_decide_eq_true (by first | (with_reducible assumption) | assumption)
                    have q216 : x15_1 < (t200.length : Int) := of_decide_eq_true (by first | (with_reducible assumption) | assumption)
                    obtain ⟨ad216, e216, hx216_0⟩ := Kd.at_string (Kd.R_reads' HO_5.out).2.2 x15_1 p216 q216
                    cases e216
                    replace p216 := eq_true p216
                    replace q216 := eq_true q216
                    have p217 : 0 ≤ (x15_1 : Int) := of_decide_eq_true (by first | (with_reducible assumption) | assumption)
                    have q217 : x15_1 < (t200.length : Int) := of_decide_eq_true (by first | (with_reducible assumption) | assumption)
                    obtain ⟨ad217, e217, hx217_0⟩ := Kd.at_string (Kd.R_reads' HO_5.out).2.2 x15_1 p217 q217
                    obtain rfl : ad216 = ad217 := (by injection e217)
                    replace p217 := eq_true p217
                    replace q217 := eq_true q217
                    go_wp2
                    go_ret
                    exact ⟨by first | rfl | (simp [errW_none, errW_some] <;> rfl) | (simp [*, errW_none, errW_some] <;> rfl), by repeat (first | (with_reducible first | exact HB.out | apply below_alloc | apply pw_below_drewN | apply below_drew1) | exact HB.out)⟩
                  · rw [if_neg c23] at H
                    have c23b0 : decide (8 < ((rdOf ByteArray.empty t200 x15_1).size : Int)) = false := decide_eq_false c23
                    have c23b1 : decide (8 < (rdOf ByteArray.empty t200 x15_1).size) = false := decide_eq_false (by omega)
                    clear c23
                    have H' := Aside0.mk H
                    clear H
                    have p216 : 0 ≤ (x15_1 : Int) := of_decide_eq_true (by first | (with_reducible assumption) | assumption)
                    have q216 : x15_1 < (t200.length : Int) := of_decide_eq_true (by first | (with_reducible assumption) | assumption)
                    obtain ⟨ad216, e216, hx216_0⟩ := Kd.at_string (Kd.R_reads' HO_5.out).2.2 x15_1 p216 q216
                    cases e216
                    replace p216 := eq_true p216
                    replace q216 := eq_true q216
                    have p217 : 0 ≤ (x15_1 : Int) := of_decide_eq_true (by first | (with_reducible assumption) | assumption)
                    have q217 : x15_1 < (t200.length : Int) := of_decide_eq_true (by first | (with_reducible assumption) | assumption)
                    obtain ⟨ad217, e217, hx217_0⟩ := Kd.at_string (Kd.R_reads' HO_5.out).2.2 x15_1 p217 q217
                    obtain rfl : ad216 = ad217 := (by injection e217)
                    replace p217 := eq_true p217
                    replace q217 := eq_true q217
                    go_wp2
                    go_roundg k1
                    case measure => have := HK1.out; omega
                    case rel => exact ⟨(wrap64 (x14_1 + ((rdOf ByteArray.empty t200 x15_1).size : Int))), (wrap64 (x15_1 + 1)), (by first | rfl | (simp; done) | (simp [*]; done)), (by first | rfl | (simp; done) | (simp [*]; done)), H', ⟨by have := HK1.out; omega⟩, ⟨by (with_reducible repeat (first | apply Kd.R_alloc | apply Kd.R_drewN | apply Kd.R_drew)); exact HO_5.out⟩, ⟨by repeat (first | (with_reducible first | exact HB.out | apply below_alloc | apply pw_below_drewN | apply below_drew1) | exact HB.out)⟩⟩
                · rw [if_neg c22] at H
                  exact absurd H (by simp)
              · rw [if_neg c21] at H
                have c21b0 : decide (x15_1 < (t200.length : Int)) = false := decide_eq_false c21
                clear c21
                by_cases c24 : t201 = true
                · subst c24
                  have H1 : (if t205 = true then (if t204.toList = t199.toList then (if t211 = true then (if 0 ≤ (Int.tmod (rd t206 0) ((t199.size : Int) + 1)) then (if (Int.tmod (rd t206 0) ((t199.size : Int) + 1)) ≤ (t199.size : Int) then (if t210.toList = (t199.extract 0 ((Int.tmod (rd t206 0) ((t199.size : Int) + 1)) : Int).toNat).toList then (if t213 = true then (some false) else (some (x14_1 == (t199.size : Int)))) else (some false)) else (none)) else (none)) else (some false)) else (some false)) else (some false)) = some r := by rw [if_pos rfl] at H; exact H
                  clear H
                  have H := H1
                  clear H1
                  by_cases c25 : t205 = true
                  · subst c25
                    have H1 : (if t204.toList = t199.toList then (if t211 = true then (if 0 ≤ (Int.tmod (rd t206 0) ((t199.size : Int) + 1)) then (if (Int.tmod (rd t206 0) ((t199.size : Int) + 1)) ≤ (t199.size : Int) then (if t210.toList = (t199.extract 0 ((Int.tmod (rd t206 0) ((t199.size : Int) + 1)) : Int).toNat).toList then (if t213 = true then (some false) else (some (x14_1 == (t199.size : Int)))) else (some false)) else (none)) else (none)) else (some false)) else (some false)) = some r := by rw [if_pos rfl] at H; exact H
                    clear H
                    have H := H1
                    clear H1
                    by_cases c26 : t204.toList = t199.toList
                    · rw [if_pos c26] at H
                      have c26b0 : (t204.toList == t199.toList) = true := beq_iff_eq.mpr c26
                      have c26b1 : (t204.toList != t199.toList) = false := bne_eq_false_iff_eq.mpr c26
                      clear c26
                      by_cases c27 : t211 = true
                      · subst c27
                        have H1 : (if 0 ≤ (Int.tmod (rd t206 0) ((t199.size : Int) + 1)) then (if (Int.tmod (rd t206 0) ((t199.size : Int) + 1)) ≤ (t199.size : Int) then (if t210.toList = (t199.extract 0 ((Int.tmod (rd t206 0) ((t199.size : Int) + 1)) : Int).toNat).toList then (if t213 = true then (some false) else (some (x14_1 == (t199.size : Int)))) else (some false)) else (none)) else (none)) = some r := by rw [if_pos rfl] at H; exact H
                        clear H
                        have H := H1
                        clear H1
                        obtain ⟨ji28, hji28⟩ : ∃ j_ : Int, (Int.tmod (rd t206 0) ((t199.size : Int) + 1)) = j_ := ⟨_, rfl⟩
                        replace H : (if 0 ≤ (ji28) then (if (ji28) ≤ (t199.size : Int) then (if t210.toList = (t199.extract 0 ((ji28) : Int).toNat).toList then (if t213 = true then (some false) else (some (x14_1 == (t199.size : Int)))) else (some false)) else (none)) else (none)) = some r := by first | (rw [hji28] at H; exact H) | (simp only [hji28] at H ⊢; exact H)
                        by_cases c29 : 0 ≤ (ji28)
                        · rw [if_pos c29] at H
                          have c29b0 := eq_true c29
                          have c29b1 : decide (0 ≤ (ji28)) = true := decide_eq_true c29
                          clear c29
                          by_cases c30 : (ji28) ≤ (t199.size : Int)
                          · rw [if_pos c30] at H
                            have c30b0 := eq_true c30
                            have c30b1 : decide ((ji28) ≤ (t199.size : Int)) = true := decide_eq_true c30
                            clear c30
                            by_cases c31 : t210.toList = (t199.extract 0 ((ji28) : Int).toNat).toList
                            · rw [if_pos c31] at H
                              have c31b0 : (t210.toList == (t199.extract 0 ((ji28) : Int).toNat).toList) = true := beq_iff_eq.mpr c31
                              have c31b1 : (t210.toList != (t199.extract 0 ((ji28) : Int).toNat).toList) = false := bne_eq_false_iff_eq.mpr c31
                              clear c31
                              by_cases c32 : t213 = true
                              · subst c32
                                have H1 : (some false) = some r := by rw [if_pos rfl] at H; exact H
                                clear H
                                have H := H1
                                clear H1
                                obtain rfl := Option.some.inj H
                                go_wp2
                                go_ret
                                exact ⟨by first | rfl | (simp [errW_none, errW_some] <;> rfl) | (simp only [← hji28]; first | rfl | (simp [errW_none, errW_some] <;> rfl)) | (simp [*, errW_none, errW_some] <;> rfl), by repeat (first | (with_reducible first | exact HB.out | apply below_alloc | apply pw_below_drewN | apply below_drew1) | exact HB.out)⟩
                              · replace c32 := Bool.eq_false_iff.mpr c32
                                subst c32
                                have H1 : (some (x14_1 == (t199.size : Int))) = some r := by rw [if_neg (show ¬ (false = true) by decide)] at H; exact H
                                clear H
                                have H := H1
                                clear H1
                                obtain rfl := Option.some.inj H
                                go_wp2
                                go_ret
                                exact ⟨by first | rfl | (simp [errW_none, errW_some] <;> rfl) | (simp only [← hji28]; first | rfl | (simp [errW_none, errW_some] <;> rfl)) | (simp [*, errW_none, errW_some] <;> rfl), by repeat (first | (with_reducible first | exact HB.out | apply below_alloc | apply pw_below_drewN | apply below_drew1) | exact HB.out)⟩
                            · rw [if_neg c31] at H
                              have c31b0 : (t210.toList == (t199.extract 0 ((ji28) : Int).toNat).toList) = false := beq_eq_false_iff_ne.mpr c31
                              have c31b1 : (t210.toList != (t199.extract 0 ((ji28) : Int).toNat).toList) = true := bne_iff_ne.mpr c31
                              obtain rfl := Option.some.inj H
                              go_wp2
                              go_ret
                              exact ⟨by first | rfl | (simp [errW_none, errW_some] <;> rfl) | (simp only [← hji28]; first | rfl | (simp [errW_none, errW_some] <;> rfl)) | (simp [*, errW_none, errW_some] <;> rfl), by repeat (first | (with_reducible first | exact HB.out | apply below_alloc | apply pw_below_drewN | apply below_drew1) | exact HB.out)⟩
                          · rw [if_neg c30] at H
                            exact absurd H (by simp)
                        · rw [if_neg c29] at H
                          exact absurd H (by simp)
                      · replace c27 := Bool.eq_false_iff.mpr c27
                        subst c27
                        have H1 : (some false) = some r := by rw [if_neg (show ¬ (false = true) by decide)] at H; exact H
                        clear H
                        have H := H1
                        clear H1
                        obtain rfl := Option.some.inj H
                        go_wp2
                        go_ret
                        exact ⟨by first | rfl | (simp [errW_none, errW_some] <;> rfl) | (simp [*, errW_none, errW_some] <;> rfl), by repeat (first | (with_reducible first | exact HB.out | apply below_alloc | apply pw_below_drewN | apply below_drew1) | exact HB.out)⟩
                    · rw [if_neg c26] at H
                      have c26b0 : (t204.toList == t199.toList) = false := beq_eq_false_iff_ne.mpr c26
                      have c26b1 : (t204.toList != t199.toList) = true := bne_iff_ne.mpr c26
                      obtain rfl := Option.some.inj H
                      go_wp2
                      go_ret
                      exact ⟨by first | rfl | (simp [errW_none, errW_some] <;> rfl) | (simp [*, errW_none, errW_some] <;> rfl), by repeat (first | (with_reducible first | exact HB.out | apply below_alloc | apply pw_below_drewN | apply below_drew1) | exact HB.out)⟩
                  · replace c25 := Bool.eq_false_iff.mpr c25
                    subst c25
                    have H1 : (some false) = some r := by rw [if_neg (show ¬ (false = true) by decide)] at H; exact H
                    clear H
                    have H := H1
                    clear H1
                    obtain rfl := Option.some.inj H
                    go_wp2
                    go_ret
                    exact ⟨by first | rfl | (simp [errW_none, errW_some] <;> rfl) | (simp [*, errW_none, errW_some] <;> rfl), by repeat (first | (with_reducible first | exact HB.out | apply below_alloc | apply pw_below_drewN | apply below_drew1) | exact HB.out)⟩
                · replace c24 := Bool.eq_false_iff.mpr c24
                  subst c24
                  have H1 : (some false) = some r := by rw [if_neg (show ¬ (false = true) by decide)] at H; exact H
                  clear H
                  have H := H1
                  clear H1
                  obtain rfl := Option.some.inj H
                  go_wp2
                  go_ret
                  exact ⟨by first | rfl | (simp [errW_none, errW_some] <;> rfl) | (simp [*, errW_none, errW_some] <;> rfl), by repeat (first | (with_reducible first | exact HB.out | apply below_alloc | apply pw_below_drewN | apply below_drew1) | exact HB.out)⟩
        · rw [if_neg c11] at H
          exact absurd H (by simp)
    · rw [if_neg c8] at H
      exact absurd H (by simp)

/-- THE ONE PURE STATEMENT of laws_FnCuts: yours. -/
def laws_FnCuts.Pure : Prop := ∀ (l0 : List Int), l0.length ≤ maxLen → l0.length * 1 ≤ 140737488351232 → (∀ x ∈ l0, (Lit.int .u8 x).wf = true) → ∃ k, laws_FnCuts.f k l0 = some true
theorem laws_FnCuts.walk (P : laws_FnCuts.Pure) (a0 : Option Addr) (len0 cap0 : Nat) (z0 : List Int) (w : World) (w0 : (a0 = none ∧ len0 = 0 ∧ cap0 = 0 ∧ z0 = []) ∨ ∃ x, a0 = some x ∧ len0 ≤ cap0 ∧ cap0 ≤ maxLen ∧ z0.length = cap0 ∧ (∀ i, i < z0.length → w.cell? (x.add i) = some (.int .u8 (z0.getD i 0))) ∧ ∀ n ∈ z0, (Lit.int .u8 n).wf = true) (y0 : len0 * 1 ≤ 140737488351232) :
    Calls Try.prog 3 #[.slice a0 len0 cap0] w fun e w' => e = .returned (.bool true) ∧ Below w.heap.size w w' := by
  obtain ⟨l0, rfl, hr0, hm0, hw0, hc0⟩ := ReadsInt.ofRowC w0
  obtain ⟨k, h⟩ := P l0 hm0 y0 hw0
  refine (laws_FnCuts.calls k _ _ l0 true w (Kd.C_of_reads (d := (0 : Int)) (h1 := fun _ => rfl) hr0) hc0 h).mono ?_
  rintro e w' ⟨rfl, hd⟩
  exact ⟨rfl, hd⟩

end Go.Proofs.Ytgmmihbogfcppaa.OCuts
