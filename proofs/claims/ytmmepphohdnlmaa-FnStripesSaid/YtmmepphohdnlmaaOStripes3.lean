/- The walks that FnStripes leans on, after a printed text of the kit's print, mended by a program of mine. -/
import Derived.Test.YtmmepphohdnlmaaOStripes0
import Derived.Test.YtmmepphohdnlmaaOStripes1
import Derived.Test.YtmmepphohdnlmaaOStripes2
namespace Go.Proofs.Ytmmepphohdnlmaa.OStripes
open Go.RowKit Go.Proofs.YtmmepphohdnlmaaW.PrintWords Go.Proofs.YtmmepphohdnlmaaW.PrintLast Go.Proofs.YtmmepphohdnlmaaW.PrintMore
attribute [local go_sem] max2_int min2_int max_two min_two max_three min_three max_four min_four   -- for this text's walks alone
set_option linter.unusedVariables false
set_option linter.unusedSimpArgs false

/-! ### laws_FnStripes: function 10 -/
mutual
def laws_FnStripes.j0 : Nat → List Int → Int → Int → Int → Int → Int → Bool → Option (Bool)
  | 0, _, _, _, _, _, _, _ => none
  | k + 1, x3, x4, x5, x6, x7, x8, x57 => if x57 = true then (some false) else ((impl_PlaceOf.f k x4 (wrap64 (x5 + 1))).bind fun bt171 => (if (Int.tmod (wrap64 (x5 + 1)) 4) = 0 then (laws_FnStripes.j1 k x3 x4 false) else (if bt171.1 = x6 then (if bt171.2.1 = x7 then (laws_FnStripes.j1 k x3 x4 (bt171.2.2 != (wrap64 (x8 + 1)))) else (laws_FnStripes.j1 k x3 x4 true)) else (laws_FnStripes.j1 k x3 x4 true))))
def laws_FnStripes.j1 : Nat → List Int → Int → Bool → Option (Bool)
  | 0, _, _, _ => none
  | k + 1, x3, x4, x85 => if x85 = true then (some false) else (if 2 < (x3.length : Int) then ((impl_Spans.f k x4 (wrap64 (1 + (Int.tmod (rd x3 2) 999)))).bind fun t175 => (laws_FnStripes.l0 k x3 x4 t175 0 0)) else (none))
def laws_FnStripes.l0 : Nat → List Int → Int → List Int → Int → Int → Option (Bool)
  | 0, _, _, _, _, _ => none
  | k + 1, x3, x4, x12, x13, x14 => if x14 < (x12.length : Int) then (if 0 ≤ x14 then (if (rd x12 x14) < 1 then (some false) else (if (wrap64 (x14 + 1)) < (x12.length : Int) then ((impl_GroupSize.f x4).bind fun t180 => (if (rd x12 x14) = t180 then (laws_FnStripes.l0 k x3 x4 x12 (wrap64 (x13 + (rd x12 x14))) (wrap64 (x14 + 1))) else (some false))) else (laws_FnStripes.l0 k x3 x4 x12 (wrap64 (x13 + (rd x12 x14))) (wrap64 (x14 + 1))))) else (none)) else (if 2 < (x3.length : Int) then (if x13 = (wrap64 (1 + (Int.tmod (rd x3 2) 999))) then ((impl_OffsetOf.f k x4 (-1) 0 0).bind fun t184 => (if t184 = (-1) then ((impl_GroupSize.f x4).bind fun t185 => ((spec_GroupSize.f x4).bind fun t186 => (if t185 = t186 then ((impl_Spans.f k x4 0).bind fun t187 => (some ((t187.length : Int) == 0))) else (some false)))) else (some false))) else (some false)) else (none))
end
def laws_FnStripes.f (k : Nat) (l0 : List Int) : Option (Bool) := (laws_big.f l0).bind fun t160 => (if t160 = true then (some true) else ((spec_DrawPlaces.f k l0).bind fun t161 => (if 0 < (t161.length : Int) then (if 1 < (t161.length : Int) then ((impl_PlaceOf.f k (wrap64 (1 + (Int.tmod (rd t161 0) 3))) (wrap64 ((rd t161 1) * 9))).bind fun bt166 => ((impl_OffsetOf.f k (wrap64 (1 + (Int.tmod (rd t161 0) 3))) bt166.1 bt166.2.1 bt166.2.2).bind fun t169 => (if t169 = (wrap64 ((rd t161 1) * 9)) then ((impl_GroupSize.f (wrap64 (1 + (Int.tmod (rd t161 0) 3)))).bind fun t170 => (if t170 = 0 then (none) else (if bt166.1 = (wrap64 (Int.tdiv (wrap64 ((rd t161 1) * 9)) t170)) then (if bt166.2.2 < 0 then (laws_FnStripes.j0 k t161 (wrap64 (1 + (Int.tmod (rd t161 0) 3))) (wrap64 ((rd t161 1) * 9)) bt166.1 bt166.2.1 bt166.2.2 true) else (laws_FnStripes.j0 k t161 (wrap64 (1 + (Int.tmod (rd t161 0) 3))) (wrap64 ((rd t161 1) * 9)) bt166.1 bt166.2.1 bt166.2.2 (decide (bt166.2.2 ≥ 8)))) else (laws_FnStripes.j0 k t161 (wrap64 (1 + (Int.tmod (rd t161 0) 3))) (wrap64 ((rd t161 1) * 9)) bt166.1 bt166.2.1 bt166.2.2 true)))) else (laws_FnStripes.j0 k t161 (wrap64 (1 + (Int.tmod (rd t161 0) 3))) (wrap64 ((rd t161 1) * 9)) bt166.1 bt166.2.1 bt166.2.2 true)))) else (none)) else (none))))
theorem laws_FnStripes.mono_l : ∀ k, (∀ y0 y1 y2 y3 y4 y5 y6, LeO (laws_FnStripes.j0 k y0 y1 y2 y3 y4 y5 y6) (laws_FnStripes.j0 (k + 1) y0 y1 y2 y3 y4 y5 y6)) ∧ (∀ y0 y1 y2, LeO (laws_FnStripes.j1 k y0 y1 y2) (laws_FnStripes.j1 (k + 1) y0 y1 y2)) ∧ (∀ y0 y1 y2 y3 y4, LeO (laws_FnStripes.l0 k y0 y1 y2 y3 y4) (laws_FnStripes.l0 (k + 1) y0 y1 y2 y3 y4))
  | 0 => ⟨fun _ _ _ _ _ _ _ r h => by simp [laws_FnStripes.j0] at h, fun _ _ _ r h => by simp [laws_FnStripes.j1] at h, fun _ _ _ _ _ r h => by simp [laws_FnStripes.l0] at h⟩
  | k + 1 => by
    obtain ⟨ih0, ih1, ih2⟩ := laws_FnStripes.mono_l k
    refine ⟨?_, ?_, ?_⟩
    · intro y0 y1 y2 y3 y4 y5 y6
      unfold laws_FnStripes.j0
      repeat' first
      | (with_reducible exact ih0 _ _ _ _ _ _ _)
      | (with_reducible exact ih1 _ _ _)
      | (with_reducible exact ih2 _ _ _ _ _)
      | (with_reducible exact impl_OffsetOf.mono _ _ _ _ _)
      | (with_reducible exact impl_PlaceOf.mono _ _ _)
      | (with_reducible exact impl_Spans.mono _ _ _)
      | (with_reducible exact spec_DrawPlaces.mono _ _)
      | (with_reducible exact LeO.refl _)
      | (with_reducible exact LeO.none _)
      | (with_reducible refine LeO.ite ?_ ?_)
      | (with_reducible refine LeO.bind ?_ (fun _ => ?_))
      | exact ih0 _ _ _ _ _ _ _
      | exact ih1 _ _ _
      | exact ih2 _ _ _ _ _
      | exact impl_OffsetOf.mono _ _ _ _ _
      | exact impl_PlaceOf.mono _ _ _
      | exact impl_Spans.mono _ _ _
      | exact spec_DrawPlaces.mono _ _
      | exact LeO.none _
      | refine LeO.ite ?_ ?_
      | refine LeO.bind ?_ (fun _ => ?_)
    · intro y0 y1 y2
      unfold laws_FnStripes.j1
      repeat' first
      | (with_reducible exact ih0 _ _ _ _ _ _ _)
      | (with_reducible exact ih1 _ _ _)
      | (with_reducible exact ih2 _ _ _ _ _)
      | (with_reducible exact impl_OffsetOf.mono _ _ _ _ _)
      | (with_reducible exact impl_PlaceOf.mono _ _ _)
      | (with_reducible exact impl_Spans.mono _ _ _)
      | (with_reducible exact spec_DrawPlaces.mono _ _)
      | (with_reducible exact LeO.refl _)
      | (with_reducible exact LeO.none _)
      | (with_reducible refine LeO.ite ?_ ?_)
      | (with_reducible refine LeO.bind ?_ (fun _ => ?_))
      | exact ih0 _ _ _ _ _ _ _
      | exact ih1 _ _ _
      | exact ih2 _ _ _ _ _
      | exact impl_OffsetOf.mono _ _ _ _ _
      | exact impl_PlaceOf.mono _ _ _
      | exact impl_Spans.mono _ _ _
      | exact spec_DrawPlaces.mono _ _
      | exact LeO.none _
      | refine LeO.ite ?_ ?_
      | refine LeO.bind ?_ (fun _ => ?_)
    · intro y0 y1 y2 y3 y4
      unfold laws_FnStripes.l0
      repeat' first
      | (with_reducible exact ih0 _ _ _ _ _ _ _)
      | (with_reducible exact ih1 _ _ _)
      | (with_reducible exact ih2 _ _ _ _ _)
      | (with_reducible exact impl_OffsetOf.mono _ _ _ _ _)
      | (with_reducible exact impl_PlaceOf.mono _ _ _)
      | (with_reducible exact impl_Spans.mono _ _ _)
      | (with_reducible exact spec_DrawPlaces.mono _ _)
      | (with_reducible exact LeO.refl _)
      | (with_reducible exact LeO.none _)
      | (with_reducible refine LeO.ite ?_ ?_)
      | (with_reducible refine LeO.bind ?_ (fun _ => ?_))
      | exact ih0 _ _ _ _ _ _ _
      | exact ih1 _ _ _
      | exact ih2 _ _ _ _ _
      | exact impl_OffsetOf.mono _ _ _ _ _
      | exact impl_PlaceOf.mono _ _ _
      | exact impl_Spans.mono _ _ _
      | exact spec_DrawPlaces.mono _ _
      | exact LeO.none _
      | refine LeO.ite ?_ ?_
      | refine LeO.bind ?_ (fun _ => ?_)
theorem laws_FnStripes.mono : ∀ a0 k, LeO (laws_FnStripes.f k a0) (laws_FnStripes.f (k + 1) a0) := by
  intro a0 k
  obtain ⟨ih0, ih1, ih2⟩ := laws_FnStripes.mono_l k
  unfold laws_FnStripes.f
  repeat' first
      | (with_reducible exact ih0 _ _ _ _ _ _ _)
      | (with_reducible exact ih1 _ _ _)
      | (with_reducible exact ih2 _ _ _ _ _)
      | (with_reducible exact impl_OffsetOf.mono _ _ _ _ _)
      | (with_reducible exact impl_PlaceOf.mono _ _ _)
      | (with_reducible exact impl_Spans.mono _ _ _)
      | (with_reducible exact spec_DrawPlaces.mono _ _)
      | (with_reducible exact LeO.refl _)
      | (with_reducible exact LeO.none _)
      | (with_reducible refine LeO.ite ?_ ?_)
      | (with_reducible refine LeO.bind ?_ (fun _ => ?_))
      | exact ih0 _ _ _ _ _ _ _
      | exact ih1 _ _ _
      | exact ih2 _ _ _ _ _
      | exact impl_OffsetOf.mono _ _ _ _ _
      | exact impl_PlaceOf.mono _ _ _
      | exact impl_Spans.mono _ _ _
      | exact spec_DrawPlaces.mono _ _
      | exact LeO.none _
      | refine LeO.ite ?_ ?_
      | refine LeO.bind ?_ (fun _ => ?_)
set_option maxHeartbeats 8000000 in
set_option maxRecDepth 100000 in
theorem laws_FnStripes.calls (k : Nat) (A0 : Option Addr) (c0 : Nat) (l0 : List Int) (r : Bool) (w : World) (hr0 : Kd.C (Kd.int .u8) w A0 l0.length l0) (hc0 : l0.length ≤ c0) (h : laws_FnStripes.f k l0 = some r) :
    Calls Try.prog 10 #[.slice A0 l0.length c0] w fun e w' => e = .returned (.bool r) ∧ Below w.heap.size w w' := by
  have HR0 := Aside0.mk hr0
  have HC0 := Aside0.mk hc0
  clear hr0 hc0
  have HB := Aside0.mk (Below.refl w.heap.size w)
  have H : ((laws_big.f l0).bind fun t160 => (if t160 = true then (some true) else ((spec_DrawPlaces.f k l0).bind fun t161 => (if 0 < (t161.length : Int) then (if 1 < (t161.length : Int) then ((impl_PlaceOf.f k (wrap64 (1 + (Int.tmod (rd t161 0) 3))) (wrap64 ((rd t161 1) * 9))).bind fun bt166 => ((impl_OffsetOf.f k (wrap64 (1 + (Int.tmod (rd t161 0) 3))) bt166.1 bt166.2.1 bt166.2.2).bind fun t169 => (if t169 = (wrap64 ((rd t161 1) * 9)) then ((impl_GroupSize.f (wrap64 (1 + (Int.tmod (rd t161 0) 3)))).bind fun t170 => (if t170 = 0 then (none) else (if bt166.1 = (wrap64 (Int.tdiv (wrap64 ((rd t161 1) * 9)) t170)) then (if bt166.2.2 < 0 then (laws_FnStripes.j0 k t161 (wrap64 (1 + (Int.tmod (rd t161 0) 3))) (wrap64 ((rd t161 1) * 9)) bt166.1 bt166.2.1 bt166.2.2 true) else (laws_FnStripes.j0 k t161 (wrap64 (1 + (Int.tmod (rd t161 0) 3))) (wrap64 ((rd t161 1) * 9)) bt166.1 bt166.2.1 bt166.2.2 (decide (bt166.2.2 ≥ 8)))) else (laws_FnStripes.j0 k t161 (wrap64 (1 + (Int.tmod (rd t161 0) 3))) (wrap64 ((rd t161 1) * 9)) bt166.1 bt166.2.1 bt166.2.2 true)))) else (laws_FnStripes.j0 k t161 (wrap64 (1 + (Int.tmod (rd t161 0) 3))) (wrap64 ((rd t161 1) * 9)) bt166.1 bt166.2.1 bt166.2.2 true)))) else (none)) else (none))))) = some r := h
  clear h
  replace H := Option.bind_eq_some_iff.mp H
  obtain ⟨t160, A20, H⟩ := H
  replace H : (if t160 = true then (some true) else ((spec_DrawPlaces.f k l0).bind fun t161 => (if 0 < (t161.length : Int) then (if 1 < (t161.length : Int) then ((impl_PlaceOf.f k (wrap64 (1 + (Int.tmod (rd t161 0) 3))) (wrap64 ((rd t161 1) * 9))).bind fun bt166 => ((impl_OffsetOf.f k (wrap64 (1 + (Int.tmod (rd t161 0) 3))) bt166.1 bt166.2.1 bt166.2.2).bind fun t169 => (if t169 = (wrap64 ((rd t161 1) * 9)) then ((impl_GroupSize.f (wrap64 (1 + (Int.tmod (rd t161 0) 3)))).bind fun t170 => (if t170 = 0 then (none) else (if bt166.1 = (wrap64 (Int.tdiv (wrap64 ((rd t161 1) * 9)) t170)) then (if bt166.2.2 < 0 then (laws_FnStripes.j0 k t161 (wrap64 (1 + (Int.tmod (rd t161 0) 3))) (wrap64 ((rd t161 1) * 9)) bt166.1 bt166.2.1 bt166.2.2 true) else (laws_FnStripes.j0 k t161 (wrap64 (1 + (Int.tmod (rd t161 0) 3))) (wrap64 ((rd t161 1) * 9)) bt166.1 bt166.2.1 bt166.2.2 (decide (bt166.2.2 ≥ 8)))) else (laws_FnStripes.j0 k t161 (wrap64 (1 + (Int.tmod (rd t161 0) 3))) (wrap64 ((rd t161 1) * 9)) bt166.1 bt166.2.1 bt166.2.2 true)))) else (laws_FnStripes.j0 k t161 (wrap64 (1 + (Int.tmod (rd t161 0) 3))) (wrap64 ((rd t161 1) * 9)) bt166.1 bt166.2.1 bt166.2.2 true)))) else (none)) else (none)))) = some r := H
  have A2 := Aside0.mk A20
  clear A20
  by_cases c3 : t160 = true
  · subst c3
    have H1 : (some true) = some r := by rw [if_pos rfl] at H; exact H
    clear H
    have H := H1
    clear H1
    obtain rfl := Option.some.inj H
    go_enter Try.func10, Try.ntmps10
    go_wp2_with (first | (go_at_call 35; (with_reducible refine (laws_big.calls _ _ l0 true _ ?side1 ?side2 A2.out).mono ?_); (case side1 => repeat (first | exact HR0.out | (with_reducible refine Kd.C_alloc ?_ _) | (with_reducible refine Kd.C_drewN ?_ _) | (with_reducible refine Kd.C_drew ?_))); (case side2 => exact HC0.out); rintro e w' ⟨rfl, ⟨nd, rfl⟩⟩; (try first | exact ⟨rfl, _, World.drewN_drewN _ _ _⟩ | exact ⟨rfl, _, Eq.trans (World.drewN_drewN _ _ _) (congrArg (World.drewN _) (Nat.add_assoc _ _ _))⟩)))
    repeat (go_quiet (first | (go_at_call 35; (with_reducible refine (laws_big.calls _ _ l0 true _ ?side1 ?side2 A2.out).mono ?_); (case side1 => repeat (first | exact HR0.out | (with_reducible refine Kd.C_alloc ?_ _) | (with_reducible refine Kd.C_drewN ?_ _) | (with_reducible refine Kd.C_drew ?_))); (case side2 => exact HC0.out); rintro e w' ⟨rfl, ⟨nd, rfl⟩⟩; (try first | exact ⟨rfl, _, World.drewN_drewN _ _ _⟩ | exact ⟨rfl, _, Eq.trans (World.drewN_drewN _ _ _) (congrArg (World.drewN _) (Nat.add_assoc _ _ _))⟩))); try go_wp2_with (first | (go_at_call 35; (with_reducible refine (laws_big.calls _ _ l0 true _ ?side1 ?side2 A2.out).mono ?_); (case side1 => repeat (first | exact HR0.out | (with_reducible refine Kd.C_alloc ?_ _) | (with_reducible refine Kd.C_drewN ?_ _) | (with_reducible refine Kd.C_drew ?_))); (case side2 => exact HC0.out); rintro e w' ⟨rfl, ⟨nd, rfl⟩⟩; (try first | exact ⟨rfl, _, World.drewN_drewN _ _ _⟩ | exact ⟨rfl, _, Eq.trans (World.drewN_drewN _ _ _) (congrArg (World.drewN _) (Nat.add_assoc _ _ _))⟩))))
    go_ret
    exact ⟨by first | rfl | (simp [errW_none, errW_some] <;> rfl) | (simp [*, errW_none, errW_some] <;> rfl), by repeat (first | (with_reducible first | exact HB.out | apply below_alloc | apply pw_below_drewN | apply below_drew1) | exact HB.out)⟩
  · replace c3 := Bool.eq_false_iff.mpr c3
    subst c3
    have H1 : ((spec_DrawPlaces.f k l0).bind fun t161 => (if 0 < (t161.length : Int) then (if 1 < (t161.length : Int) then ((impl_PlaceOf.f k (wrap64 (1 + (Int.tmod (rd t161 0) 3))) (wrap64 ((rd t161 1) * 9))).bind fun bt166 => ((impl_OffsetOf.f k (wrap64 (1 + (Int.tmod (rd t161 0) 3))) bt166.1 bt166.2.1 bt166.2.2).bind fun t169 => (if t169 = (wrap64 ((rd t161 1) * 9)) then ((impl_GroupSize.f (wrap64 (1 + (Int.tmod (rd t161 0) 3)))).bind fun t170 => (if t170 = 0 then (none) else (if bt166.1 = (wrap64 (Int.tdiv (wrap64 ((rd t161 1) * 9)) t170)) then (if bt166.2.2 < 0 then (laws_FnStripes.j0 k t161 (wrap64 (1 + (Int.tmod (rd t161 0) 3))) (wrap64 ((rd t161 1) * 9)) bt166.1 bt166.2.1 bt166.2.2 true) else (laws_FnStripes.j0 k t161 (wrap64 (1 + (Int.tmod (rd t161 0) 3))) (wrap64 ((rd t161 1) * 9)) bt166.1 bt166.2.1 bt166.2.2 (decide (bt166.2.2 ≥ 8)))) else (laws_FnStripes.j0 k t161 (wrap64 (1 + (Int.tmod (rd t161 0) 3))) (wrap64 ((rd t161 1) * 9)) bt166.1 bt166.2.1 bt166.2.2 true)))) else (laws_FnStripes.j0 k t161 (wrap64 (1 + (Int.tmod (rd t161 0) 3))) (wrap64 ((rd t161 1) * 9)) bt166.1 bt166.2.1 bt166.2.2 true)))) else (none)) else (none))) = some r := by rw [if_neg (show ¬ (false = true) by decide)] at H; exact H
    clear H
    have H := H1
    clear H1
    replace H := Option.bind_eq_some_iff.mp H
    obtain ⟨t161, A40, H⟩ := H
    replace H : (if 0 < (t161.length : Int) then (if 1 < (t161.length : Int) then ((impl_PlaceOf.f k (wrap64 (1 + (Int.tmod (rd t161 0) 3))) (wrap64 ((rd t161 1) * 9))).bind fun bt166 => ((impl_OffsetOf.f k (wrap64 (1 + (Int.tmod (rd t161 0) 3))) bt166.1 bt166.2.1 bt166.2.2).bind fun t169 => (if t169 = (wrap64 ((rd t161 1) * 9)) then ((impl_GroupSize.f (wrap64 (1 + (Int.tmod (rd t161 0) 3)))).bind fun t170 => (if t170 = 0 then (none) else (if bt166.1 = (wrap64 (Int.tdiv (wrap64 ((rd t161 1) * 9)) t170)) then (if bt166.2.2 < 0 then (laws_FnStripes.j0 k t161 (wrap64 (1 + (Int.tmod (rd t161 0) 3))) (wrap64 ((rd t161 1) * 9)) bt166.1 bt166.2.1 bt166.2.2 true) else (laws_FnStripes.j0 k t161 (wrap64 (1 + (Int.tmod (rd t161 0) 3))) (wrap64 ((rd t161 1) * 9)) bt166.1 bt166.2.1 bt166.2.2 (decide (bt166.2.2 ≥ 8)))) else (laws_FnStripes.j0 k t161 (wrap64 (1 + (Int.tmod (rd t161 0) 3))) (wrap64 ((rd t161 1) * 9)) bt166.1 bt166.2.1 bt166.2.2 true)))) else (laws_FnStripes.j0 k t161 (wrap64 (1 + (Int.tmod (rd t161 0) 3))) (wrap64 ((rd t161 1) * 9)) bt166.1 bt166.2.1 bt166.2.2 true)))) else (none)) else (none)) = some r := H
    have A4 := Aside0.mk A40
    clear A40
    by_cases c5 : 0 < (t161.length : Int)
    · rw [if_pos c5] at H
      have c5b0 : decide (0 < (t161.length : Int)) = true := decide_eq_true c5
      have c5b1 : decide (0 < t161.length) = true := decide_eq_true (by omega)
      clear c5
      by_cases c6 : 1 < (t161.length : Int)
      · rw [if_pos c6] at H
        have c6b0 : decide (1 < (t161.length : Int)) = true := decide_eq_true c6
        have c6b1 : decide (1 < t161.length) = true := decide_eq_true (by omega)
        clear c6
        replace H := Option.bind_eq_some_iff.mp H
        obtain ⟨⟨t166, t167, t168⟩, A70, H⟩ := H
        replace H : ((impl_OffsetOf.f k (wrap64 (1 + (Int.tmod (rd t161 0) 3))) t166 t167 t168).bind fun t169 => (if t169 = (wrap64 ((rd t161 1) * 9)) then ((impl_GroupSize.f (wrap64 (1 + (Int.tmod (rd t161 0) 3)))).bind fun t170 => (if t170 = 0 then (none) else (if t166 = (wrap64 (Int.tdiv (wrap64 ((rd t161 1) * 9)) t170)) then (if t168 < 0 then (laws_FnStripes.j0 k t161 (wrap64 (1 + (Int.tmod (rd t161 0) 3))) (wrap64 ((rd t161 1) * 9)) t166 t167 t168 true) else (laws_FnStripes.j0 k t161 (wrap64 (1 + (Int.tmod (rd t161 0) 3))) (wrap64 ((rd t161 1) * 9)) t166 t167 t168 (decide (t168 ≥ 8)))) else (laws_FnStripes.j0 k t161 (wrap64 (1 + (Int.tmod (rd t161 0) 3))) (wrap64 ((rd t161 1) * 9)) t166 t167 t168 true)))) else (laws_FnStripes.j0 k t161 (wrap64 (1 + (Int.tmod (rd t161 0) 3))) (wrap64 ((rd t161 1) * 9)) t166 t167 t168 true))) = some r := H
        have A7 := Aside0.mk A70
        clear A70
        have HC8 := Aside0.mk H
        clear H
        go_enter Try.func10, Try.ntmps10
        go_upto_region 7 with (first | (go_at_call 35; (with_reducible refine (laws_big.calls _ _ l0 false _ ?side1 ?side2 A2.out).mono ?_); (case side1 => repeat (first | exact HR0.out | (with_reducible refine Kd.C_alloc ?_ _) | (with_reducible refine Kd.C_drewN ?_ _) | (with_reducible refine Kd.C_drew ?_))); (case side2 => exact HC0.out); rintro e w' ⟨rfl, ⟨nd, rfl⟩⟩; (try first | exact ⟨rfl, _, World.drewN_drewN _ _ _⟩ | exact ⟨rfl, _, Eq.trans (World.drewN_drewN _ _ _) (congrArg (World.drewN _) (Nat.add_assoc _ _ _))⟩)) | (go_at_call 36; (with_reducible refine (spec_DrawPlaces.calls k _ _ l0 t161 _ ?side1 ?side2 A4.out).mono ?_); (case side1 => repeat (first | exact HR0.out | (with_reducible refine Kd.C_alloc ?_ _) | (with_reducible refine Kd.C_drewN ?_ _) | (with_reducible refine Kd.C_drew ?_))); (case side2 => exact HC0.out); rintro e w9 ⟨v162, rfl, ho0, hb⟩; have n0_ := Aside0.mk (Kd.R_lower ho0 (below_size (by repeat (first | (with_reducible first | exact HB.out | apply below_alloc | apply pw_below_drewN | apply below_drew1) | exact HB.out)))); have n1_ := Aside0.mk (below_step (by repeat (first | (with_reducible first | exact HB.out | apply below_alloc | apply pw_below_drewN | apply below_drew1) | exact HB.out)) hb); clear HB; have HO163 := n0_; have HB := n1_; clear n0_ n1_; (try clear hb); (try clear hb2); (try clear hk); (try clear hi); (try clear ho0); obtain ⟨Ao10, co10, eo10⟩ := Kd.R_slice HO163.out; subst eo10; have p164 : 0 ≤ (0 : Int) := (by omega); have q164 : 0 < (t161.length : Int) := of_decide_eq_true (by first | (with_reducible assumption) | assumption); obtain ⟨ad164, e164, hx164_0⟩ := Kd.at_int (Kd.R_reads' HO163.out).2.2 0 p164 q164; cases e164; have qi164 : (0 < t161.length) = True := eq_true (by omega); (try rw [show ((0 : Int)).toNat = 0 from rfl] at hx164_0); (try rw [Addr.add_zero'] at hx164_0); replace p164 := eq_true p164; replace q164 := eq_true q164; have p165 : 0 ≤ (1 : Int) := (by omega); have q165 : 1 < (t161.length : Int) := of_decide_eq_true (by first | (with_reducible assumption) | assumption); obtain ⟨ad165, e165, hx165_0⟩ := Kd.at_int (Kd.R_reads' HO163.out).2.2 1 p165 q165; obtain rfl : ad164 = ad165 := (by injection e165); (try simp only [show (1 : Int).toNat = 1 from rfl, Nat.reduceMul, Nat.reduceEqDiff, Go.Addr.add, ↓reduceIte] at hx165_0); have qi165 : (1 < t161.length) = True := eq_true (by omega); (try rw [show ((1 : Int)).toNat = 1 from rfl] at hx165_0); replace p165 := eq_true p165; replace q165 := eq_true q165) | (go_at_call 22; (with_reducible refine (impl_PlaceOf.calls k (wrap64 (1 + (Int.tmod (rd t161 0) 3))) (wrap64 ((rd t161 1) * 9)) t166 t167 t168 _ A7.out).mono ?_); rintro e w' ⟨rfl, ⟨nd, rfl⟩⟩; (try first | exact ⟨rfl, _, World.drewN_drewN _ _ _⟩ | exact ⟨rfl, _, Eq.trans (World.drewN_drewN _ _ _) (congrArg (World.drewN _) (Nat.add_assoc _ _ _))⟩)))
        repeat (go_quiet (first | (go_at_call 35; (with_reducible refine (laws_big.calls _ _ l0 false _ ?side1 ?side2 A2.out).mono ?_); (case side1 => repeat (first | exact HR0.out | (with_reducible refine Kd.C_alloc ?_ _) | (with_reducible refine Kd.C_drewN ?_ _) | (with_reducible refine Kd.C_drew ?_))); (case side2 => exact HC0.out); rintro e w' ⟨rfl, ⟨nd, rfl⟩⟩; (try first | exact ⟨rfl, _, World.drewN_drewN _ _ _⟩ | exact ⟨rfl, _, Eq.trans (World.drewN_drewN _ _ _) (congrArg (World.drewN _) (Nat.add_assoc _ _ _))⟩)) | (go_at_call 36; (with_reducible refine (spec_DrawPlaces.calls k _ _ l0 t161 _ ?side1 ?side2 A4.out).mono ?_); (case side1 => repeat (first | exact HR0.out | (with_reducible refine Kd.C_alloc ?_ _) | (with_reducible refine Kd.C_drewN ?_ _) | (with_reducible refine Kd.C_drew ?_))); (case side2 => exact HC0.out); rintro e w9 ⟨v162, rfl, ho0, hb⟩; have n0_ := Aside0.mk (Kd.R_lower ho0 (below_size (by repeat (first | (with_reducible first | exact HB.out | apply below_alloc | apply pw_below_drewN | apply below_drew1) | exact HB.out)))); have n1_ := Aside0.mk (below_step (by repeat (first | (with_reducible first | exact HB.out | apply below_alloc | apply pw_below_drewN | apply below_drew1) | exact HB.out)) hb); clear HB; have HO163 := n0_; have HB := n1_; clear n0_ n1_; (try clear hb); (try clear hb2); (try clear hk); (try clear hi); (try clear ho0); obtain ⟨Ao10, co10, eo10⟩ := Kd.R_slice HO163.out; subst eo10; have p164 : 0 ≤ (0 : Int) := (by omega); have q164 : 0 < (t161.length : Int) := of_decide_eq_true (by first | (with_reducible assumption) | assumption); obtain ⟨ad164, e164, hx164_0⟩ := Kd.at_int (Kd.R_reads' HO163.out).2.2 0 p164 q164; cases e164; have qi164 : (0 < t161.length) = True := eq_true (by omega); (try rw [show ((0 : Int)).toNat = 0 from rfl] at hx164_0); (try rw [Addr.add_zero'] at hx164_0); replace p164 := eq_true p164; replace q164 := eq_true q164; have p165 : 0 ≤ (1 : Int) := (by omega); have q165 : 1 < (t161.length : Int) := of_decide_eq_true (by first | (with_reducible assumption) | assumption); obtain ⟨ad165, e165, hx165_0⟩ := Kd.at_int (Kd.R_reads' HO163.out).2.2 1 p165 q165; obtain rfl : ad164 = ad165 := (by injection e165); (try simp only [show (1 : Int).toNat = 1 from rfl, Nat.reduceMul, Nat.reduceEqDiff, Go.Addr.add, ↓reduceIte] at hx165_0); have qi165 : (1 < t161.length) = True := eq_true (by omega); (try rw [show ((1 : Int)).toNat = 1 from rfl] at hx165_0); replace p165 := eq_true p165; replace q165 := eq_true q165) | (go_at_call 22; (with_reducible refine (impl_PlaceOf.calls k (wrap64 (1 + (Int.tmod (rd t161 0) 3))) (wrap64 ((rd t161 1) * 9)) t166 t167 t168 _ A7.out).mono ?_); rintro e w' ⟨rfl, ⟨nd, rfl⟩⟩; (try first | exact ⟨rfl, _, World.drewN_drewN _ _ _⟩ | exact ⟨rfl, _, Eq.trans (World.drewN_drewN _ _ _) (congrArg (World.drewN _) (Nat.add_assoc _ _ _))⟩))); go_upto_region 7 with (first | (go_at_call 35; (with_reducible refine (laws_big.calls _ _ l0 false _ ?side1 ?side2 A2.out).mono ?_); (case side1 => repeat (first | exact HR0.out | (with_reducible refine Kd.C_alloc ?_ _) | (with_reducible refine Kd.C_drewN ?_ _) | (with_reducible refine Kd.C_drew ?_))); (case side2 => exact HC0.out); rintro e w' ⟨rfl, ⟨nd, rfl⟩⟩; (try first | exact ⟨rfl, _, World.drewN_drewN _ _ _⟩ | exact ⟨rfl, _, Eq.trans (World.drewN_drewN _ _ _) (congrArg (World.drewN _) (Nat.add_assoc _ _ _))⟩)) | (go_at_call 36; (with_reducible refine (spec_DrawPlaces.calls k _ _ l0 t161 _ ?side1 ?side2 A4.out).mono ?_); (case side1 => repeat (first | exact HR0.out | (with_reducible refine Kd.C_alloc ?_ _) | (with_reducible refine Kd.C_drewN ?_ _) | (with_reducible refine Kd.C_drew ?_))); (case side2 => exact HC0.out); rintro e w9 ⟨v162, rfl, ho0, hb⟩; have n0_ := Aside0.mk (Kd.R_lower ho0 (below_size (by repeat (first | (with_reducible first | exact HB.out | apply below_alloc | apply pw_below_drewN | apply below_drew1) | exact HB.out)))); have n1_ := Aside0.mk (below_step (by repeat (first | (with_reducible first | exact HB.out | apply below_alloc | apply pw_below_drewN | apply below_drew1) | exact HB.out)) hb); clear HB; have HO163 := n0_; have HB := n1_; clear n0_ n1_; (try clear hb); (try clear hb2); (try clear hk); (try clear hi); (try clear ho0); obtain ⟨Ao10, co10, eo10⟩ := Kd.R_slice HO163.out; subst eo10; have p164 : 0 ≤ (0 : Int) := (by omega); have q164 : 0 < (t161.length : Int) := of_decide_eq_true (by first | (with_reducible assumption) | assumption); obtain ⟨ad164, e164, hx164_0⟩ := Kd.at_int (Kd.R_reads' HO163.out).2.2 0 p164 q164; cases e164; have qi164 : (0 < t161.length) = True := eq_true (by omega); (try rw [show ((0 : Int)).toNat = 0 from rfl] at hx164_0); (try rw [Addr.add_zero'] at hx164_0); replace p164 := eq_true p164; replace q164 := eq_true q164; have p165 : 0 ≤ (1 : Int) := (by omega); have q165 : 1 < (t161.length : Int) := of_decide_eq_true (by first | (with_reducible assumption) | assumption); obtain ⟨ad165, e165, hx165_0⟩ := Kd.at_int (Kd.R_reads' HO163.out).2.2 1 p165 q165; obtain rfl : ad164 = ad165 := (by injection e165); (try simp only [show (1 : Int).toNat = 1 from rfl, Nat.reduceMul, Nat.reduceEqDiff, Go.Addr.add, ↓reduceIte] at hx165_0); have qi165 : (1 < t161.length) = True := eq_true (by omega); (try rw [show ((1 : Int)).toNat = 1 from rfl] at hx165_0); replace p165 := eq_true p165; replace q165 := eq_true q165) | (go_at_call 22; (with_reducible refine (impl_PlaceOf.calls k (wrap64 (1 + (Int.tmod (rd t161 0) 3))) (wrap64 ((rd t161 1) * 9)) t166 t167 t168 _ A7.out).mono ?_); rintro e w' ⟨rfl, ⟨nd, rfl⟩⟩; (try first | exact ⟨rfl, _, World.drewN_drewN _ _ _⟩ | exact ⟨rfl, _, Eq.trans (World.drewN_drewN _ _ _) (congrArg (World.drewN _) (Nat.add_assoc _ _ _))⟩))))
        (try simp only [Act.put, List.setIfInBounds_toArray, List.set_cons_zero, List.set_cons_succ])
        go_cut [57] (fun v57 wc => ∃ (kq : Nat) (x57_7 : Bool), v57 = .bool x57_7 ∧ Aside0 (laws_FnStripes.j0 kq t161 (wrap64 (1 + (Int.tmod (rd t161 0) 3))) (wrap64 ((rd t161 1) * 9)) t166 t167 t168 x57_7 = some r) ∧ Aside0 (kq ≤ k) ∧ Aside0 (Kd.R (Kd.int .i64) 3 wc w.heap.size (fun _ => True) (.slice (some ad164) t161.length co10) t161) ∧ Aside0 (Below w.heap.size w wc))
        case first =>
          have H := HC8.out
          clear HC8
          replace H := Option.bind_eq_some_iff.mp H
          obtain ⟨t169, A110, H⟩ := H
          replace H : (if t169 = (wrap64 ((rd t161 1) * 9)) then ((impl_GroupSize.f (wrap64 (1 + (Int.tmod (rd t161 0) 3)))).bind fun t170 => (if t170 = 0 then (none) else (if t166 = (wrap64 (Int.tdiv (wrap64 ((rd t161 1) * 9)) t170)) then (if t168 < 0 then (laws_FnStripes.j0 k t161 (wrap64 (1 + (Int.tmod (rd t161 0) 3))) (wrap64 ((rd t161 1) * 9)) t166 t167 t168 true) else (laws_FnStripes.j0 k t161 (wrap64 (1 + (Int.tmod (rd t161 0) 3))) (wrap64 ((rd t161 1) * 9)) t166 t167 t168 (decide (t168 ≥ 8)))) else (laws_FnStripes.j0 k t161 (wrap64 (1 + (Int.tmod (rd t161 0) 3))) (wrap64 ((rd t161 1) * 9)) t166 t167 t168 true)))) else (laws_FnStripes.j0 k t161 (wrap64 (1 + (Int.tmod (rd t161 0) 3))) (wrap64 ((rd t161 1) * 9)) t166 t167 t168 true)) = some r := H
          have A11 := Aside0.mk A110
          clear A110
          by_cases c12 : t169 = (wrap64 ((rd t161 1) * 9))
          · rw [if_pos c12] at H
            have c12b0 : (t169 == (wrap64 ((rd t161 1) * 9))) = true := beq_iff_eq.mpr c12
            have c12b0w : (t169 == (IntKind.i64.wrap ((rd t161 1) * 9))) = true := by simp only [i64_w]; exact c12b0
            have c12b1 : (t169 != (wrap64 ((rd t161 1) * 9))) = false := bne_eq_false_iff_eq.mpr c12
            have c12b1w : (t169 != (IntKind.i64.wrap ((rd t161 1) * 9))) = false := by simp only [i64_w]; exact c12b1
            clear c12
            (first | rw [c12b0] | (simp only [i64_w, i32_w]; rw [c12b0]) | skip)
            replace H := Option.bind_eq_some_iff.mp H
            obtain ⟨t170, A130, H⟩ := H
            replace H : (if t170 = 0 then (none) else (if t166 = (wrap64 (Int.tdiv (wrap64 ((rd t161 1) * 9)) t170)) then (if t168 < 0 then (laws_FnStripes.j0 k t161 (wrap64 (1 + (Int.tmod (rd t161 0) 3))) (wrap64 ((rd t161 1) * 9)) t166 t167 t168 true) else (laws_FnStripes.j0 k t161 (wrap64 (1 + (Int.tmod (rd t161 0) 3))) (wrap64 ((rd t161 1) * 9)) t166 t167 t168 (decide (t168 ≥ 8)))) else (laws_FnStripes.j0 k t161 (wrap64 (1 + (Int.tmod (rd t161 0) 3))) (wrap64 ((rd t161 1) * 9)) t166 t167 t168 true))) = some r := H
            have A13 := Aside0.mk A130
            clear A130
            by_cases c14 : t170 = 0
            · rw [if_pos c14] at H
              exact absurd H (by simp)
            · rw [if_neg c14] at H
              have c14b0 : (t170 == 0) = false := beq_eq_false_iff_ne.mpr c14
              have c14b1 : (t170 != 0) = true := bne_iff_ne.mpr c14
              by_cases c15 : t166 = (wrap64 (Int.tdiv (wrap64 ((rd t161 1) * 9)) t170))
              · rw [if_pos c15] at H
                have c15b0 : (t166 == (wrap64 (Int.tdiv (wrap64 ((rd t161 1) * 9)) t170))) = true := beq_iff_eq.mpr c15
                have c15b0w : (t166 == (IntKind.i64.wrap (Int.tdiv (IntKind.i64.wrap ((rd t161 1) * 9)) t170))) = true := by simp only [i64_w]; exact c15b0
                have c15b1 : (t166 != (wrap64 (Int.tdiv (wrap64 ((rd t161 1) * 9)) t170))) = false := bne_eq_false_iff_eq.mpr c15
                have c15b1w : (t166 != (IntKind.i64.wrap (Int.tdiv (IntKind.i64.wrap ((rd t161 1) * 9)) t170))) = false := by simp only [i64_w]; exact c15b1
                clear c15
                by_cases c16 : t168 < 0
                · rw [if_pos c16] at H
                  have c16b0 : decide (t168 < 0) = true := decide_eq_true c16
                  clear c16
                  have H' := Aside0.mk H
                  clear H
                  go_wp2_with (first | (go_at_call 24; (with_reducible refine (impl_OffsetOf.calls k (wrap64 (1 + (Int.tmod (rd t161 0) 3))) t166 t167 t168 t169 _ A11.out).mono ?_); rintro e w' ⟨rfl, ⟨nd, rfl⟩⟩; (try first | exact ⟨rfl, _, World.drewN_drewN _ _ _⟩ | exact ⟨rfl, _, Eq.trans (World.drewN_drewN _ _ _) (congrArg (World.drewN _) (Nat.add_assoc _ _ _))⟩)) | (go_at_call 18; (with_reducible refine (impl_GroupSize.calls (wrap64 (1 + (Int.tmod (rd t161 0) 3))) t170 _ A13.out).mono ?_); rintro e w' ⟨rfl, ⟨nd, rfl⟩⟩; (try first | exact ⟨rfl, _, World.drewN_drewN _ _ _⟩ | exact ⟨rfl, _, Eq.trans (World.drewN_drewN _ _ _) (congrArg (World.drewN _) (Nat.add_assoc _ _ _))⟩)))
                  repeat (go_quiet (first | (go_at_call 24; (with_reducible refine (impl_OffsetOf.calls k (wrap64 (1 + (Int.tmod (rd t161 0) 3))) t166 t167 t168 t169 _ A11.out).mono ?_); rintro e w' ⟨rfl, ⟨nd, rfl⟩⟩; (try first | exact ⟨rfl, _, World.drewN_drewN _ _ _⟩ | exact ⟨rfl, _, Eq.trans (World.drewN_drewN _ _ _) (congrArg (World.drewN _) (Nat.add_assoc _ _ _))⟩)) | (go_at_call 18; (with_reducible refine (impl_GroupSize.calls (wrap64 (1 + (Int.tmod (rd t161 0) 3))) t170 _ A13.out).mono ?_); rintro e w' ⟨rfl, ⟨nd, rfl⟩⟩; (try first | exact ⟨rfl, _, World.drewN_drewN _ _ _⟩ | exact ⟨rfl, _, Eq.trans (World.drewN_drewN _ _ _) (congrArg (World.drewN _) (Nat.add_assoc _ _ _))⟩))); try go_wp2_with (first | (go_at_call 24; (with_reducible refine (impl_OffsetOf.calls k (wrap64 (1 + (Int.tmod (rd t161 0) 3))) t166 t167 t168 t169 _ A11.out).mono ?_); rintro e w' ⟨rfl, ⟨nd, rfl⟩⟩; (try first | exact ⟨rfl, _, World.drewN_drewN _ _ _⟩ | exact ⟨rfl, _, Eq.trans (World.drewN_drewN _ _ _) (congrArg (World.drewN _) (Nat.add_assoc _ _ _))⟩)) | (go_at_call 18; (with_reducible refine (impl_GroupSize.calls (wrap64 (1 + (Int.tmod (rd t161 0) 3))) t170 _ A13.out).mono ?_); rintro e w' ⟨rfl, ⟨nd, rfl⟩⟩; (try first | exact ⟨rfl, _, World.drewN_drewN _ _ _⟩ | exact ⟨rfl, _, Eq.trans (World.drewN_drewN _ _ _) (congrArg (World.drewN _) (Nat.add_assoc _ _ _))⟩))))
                  go_meet
                  case rel => exact ⟨_, (true), (by first | rfl | (simp; done) | (simp [*]; done)), H', ⟨by first | omega | exact Nat.le_refl _⟩, ⟨by (with_reducible repeat (first | apply Kd.R_alloc | apply Kd.R_drewN | apply Kd.R_drew)); exact HO163.out⟩, ⟨by repeat (first | (with_reducible first | exact HB.out | apply below_alloc | apply pw_below_drewN | apply below_drew1) | exact HB.out)⟩⟩
                · rw [if_neg c16] at H
                  have c16b0 : decide (t168 < 0) = false := decide_eq_false c16
                  clear c16
                  have H' := Aside0.mk H
                  clear H
                  go_wp2_with (first | (go_at_call 24; (with_reducible refine (impl_OffsetOf.calls k (wrap64 (1 + (Int.tmod (rd t161 0) 3))) t166 t167 t168 t169 _ A11.out).mono ?_); rintro e w' ⟨rfl, ⟨nd, rfl⟩⟩; (try first | exact ⟨rfl, _, World.drewN_drewN _ _ _⟩ | exact ⟨rfl, _, Eq.trans (World.drewN_drewN _ _ _) (congrArg (World.drewN _) (Nat.add_assoc _ _ _))⟩)) | (go_at_call 18; (with_reducible refine (impl_GroupSize.calls (wrap64 (1 + (Int.tmod (rd t161 0) 3))) t170 _ A13.out).mono ?_); rintro e w' ⟨rfl, ⟨nd, rfl⟩⟩; (try first | exact ⟨rfl, _, World.drewN_drewN _ _ _⟩ | exact ⟨rfl, _, Eq.trans (World.drewN_drewN _ _ _) (congrArg (World.drewN _) (Nat.add_assoc _ _ _))⟩)))
                  repeat (go_quiet (first | (go_at_call 24; (with_reducible refine (impl_OffsetOf.calls k (wrap64 (1 + (Int.tmod (rd t161 0) 3))) t166 t167 t168 t169 _ A11.out).mono ?_); rintro e w' ⟨rfl, ⟨nd, rfl⟩⟩; (try first | exact ⟨rfl, _, World.drewN_drewN _ _ _⟩ | exact ⟨rfl, _, Eq.trans (World.drewN_drewN _ _ _) (congrArg (World.drewN _) (Nat.add_assoc _ _ _))⟩)) | (go_at_call 18; (with_reducible refine (impl_GroupSize.calls (wrap64 (1 + (Int.tmod (rd t161 0) 3))) t170 _ A13.out).mono ?_); rintro e w' ⟨rfl, ⟨nd, rfl⟩⟩; (try first | exact ⟨rfl, _, World.drewN_drewN _ _ _⟩ | exact ⟨rfl, _, Eq.trans (World.drewN_drewN _ _ _) (congrArg (World.drewN _) (Nat.add_assoc _ _ _))⟩))); try go_wp2_with (first | (go_at_call 24; (with_reducible refine (impl_OffsetOf.calls k (wrap64 (1 + (Int.tmod (rd t161 0) 3))) t166 t167 t168 t169 _ A11.out).mono ?_); rintro e w' ⟨rfl, ⟨nd, rfl⟩⟩; (try first | exact ⟨rfl, _, World.drewN_drewN _ _ _⟩ | exact ⟨rfl, _, Eq.trans (World.drewN_drewN _ _ _) (congrArg (World.drewN _) (Nat.add_assoc _ _ _))⟩)) | (go_at_call 18; (with_reducible refine (impl_GroupSize.calls (wrap64 (1 + (Int.tmod (rd t161 0) 3))) t170 _ A13.out).mono ?_); rintro e w' ⟨rfl, ⟨nd, rfl⟩⟩; (try first | exact ⟨rfl, _, World.drewN_drewN _ _ _⟩ | exact ⟨rfl, _, Eq.trans (World.drewN_drewN _ _ _) (congrArg (World.drewN _) (Nat.add_assoc _ _ _))⟩))))
                  go_meet
                  case rel => exact ⟨_, (decide (t168 ≥ 8)), (by first | rfl | (simp; done) | (simp [*]; done)), H', ⟨by first | omega | exact Nat.le_refl _⟩, ⟨by (with_reducible repeat (first | apply Kd.R_alloc | apply Kd.R_drewN | apply Kd.R_drew)); exact HO163.out⟩, ⟨by repeat (first | (with_reducible first | exact HB.out | apply below_alloc | apply pw_below_drewN | apply below_drew1) | exact HB.out)⟩⟩
              · rw [if_neg c15] at H
                have c15b0 : (t166 == (wrap64 (Int.tdiv (wrap64 ((rd t161 1) * 9)) t170))) = false := beq_eq_false_iff_ne.mpr c15
                have c15b0w : (t166 == (IntKind.i64.wrap (Int.tdiv (IntKind.i64.wrap ((rd t161 1) * 9)) t170))) = false := by simp only [i64_w]; exact c15b0
                have c15b1 : (t166 != (wrap64 (Int.tdiv (wrap64 ((rd t161 1) * 9)) t170))) = true := bne_iff_ne.mpr c15
                have c15b1w : (t166 != (IntKind.i64.wrap (Int.tdiv (IntKind.i64.wrap ((rd t161 1) * 9)) t170))) = true := by simp only [i64_w]; exact c15b1
                have H' := Aside0.mk H
                clear H
                go_wp2_with (first | (go_at_call 24; (with_reducible refine (impl_OffsetOf.calls k (wrap64 (1 + (Int.tmod (rd t161 0) 3))) t166 t167 t168 t169 _ A11.out).mono ?_); rintro e w' ⟨rfl, ⟨nd, rfl⟩⟩; (try first | exact ⟨rfl, _, World.drewN_drewN _ _ _⟩ | exact ⟨rfl, _, Eq.trans (World.drewN_drewN _ _ _) (congrArg (World.drewN _) (Nat.add_assoc _ _ _))⟩)) | (go_at_call 18; (with_reducible refine (impl_GroupSize.calls (wrap64 (1 + (Int.tmod (rd t161 0) 3))) t170 _ A13.out).mono ?_); rintro e w' ⟨rfl, ⟨nd, rfl⟩⟩; (try first | exact ⟨rfl, _, World.drewN_drewN _ _ _⟩ | exact ⟨rfl, _, Eq.trans (World.drewN_drewN _ _ _) (congrArg (World.drewN _) (Nat.add_assoc _ _ _))⟩)))
                repeat (go_quiet (first | (go_at_call 24; (with_reducible refine (impl_OffsetOf.calls k (wrap64 (1 + (Int.tmod (rd t161 0) 3))) t166 t167 t168 t169 _ A11.out).mono ?_); rintro e w' ⟨rfl, ⟨nd, rfl⟩⟩; (try first | exact ⟨rfl, _, World.drewN_drewN _ _ _⟩ | exact ⟨rfl, _, Eq.trans (World.drewN_drewN _ _ _) (congrArg (World.drewN _) (Nat.add_assoc _ _ _))⟩)) | (go_at_call 18; (with_reducible refine (impl_GroupSize.calls (wrap64 (1 + (Int.tmod (rd t161 0) 3))) t170 _ A13.out).mono ?_); rintro e w' ⟨rfl, ⟨nd, rfl⟩⟩; (try first | exact ⟨rfl, _, World.drewN_drewN _ _ _⟩ | exact ⟨rfl, _, Eq.trans (World.drewN_drewN _ _ _) (congrArg (World.drewN _) (Nat.add_assoc _ _ _))⟩))); try go_wp2_with (first | (go_at_call 24; (with_reducible refine (impl_OffsetOf.calls k (wrap64 (1 + (Int.tmod (rd t161 0) 3))) t166 t167 t168 t169 _ A11.out).mono ?_); rintro e w' ⟨rfl, ⟨nd, rfl⟩⟩; (try first | exact ⟨rfl, _, World.drewN_drewN _ _ _⟩ | exact ⟨rfl, _, Eq.trans (World.drewN_drewN _ _ _) (congrArg (World.drewN _) (Nat.add_assoc _ _ _))⟩)) | (go_at_call 18; (with_reducible refine (impl_GroupSize.calls (wrap64 (1 + (Int.tmod (rd t161 0) 3))) t170 _ A13.out).mono ?_); rintro e w' ⟨rfl, ⟨nd, rfl⟩⟩; (try first | exact ⟨rfl, _, World.drewN_drewN _ _ _⟩ | exact ⟨rfl, _, Eq.trans (World.drewN_drewN _ _ _) (congrArg (World.drewN _) (Nat.add_assoc _ _ _))⟩))))
                go_meet
                case rel => exact ⟨_, (true), (by first | rfl | (simp; done) | (simp [*]; done)), H', ⟨by first | omega | exact Nat.le_refl _⟩, ⟨by (with_reducible repeat (first | apply Kd.R_alloc | apply Kd.R_drewN | apply Kd.R_drew)); exact HO163.out⟩, ⟨by repeat (first | (with_reducible first | exact HB.out | apply below_alloc | apply pw_below_drewN | apply below_drew1) | exact HB.out)⟩⟩
          · rw [if_neg c12] at H
            have c12b0 : (t169 == (wrap64 ((rd t161 1) * 9))) = false := beq_eq_false_iff_ne.mpr c12
            have c12b0w : (t169 == (IntKind.i64.wrap ((rd t161 1) * 9))) = false := by simp only [i64_w]; exact c12b0
            have c12b1 : (t169 != (wrap64 ((rd t161 1) * 9))) = true := bne_iff_ne.mpr c12
            have c12b1w : (t169 != (IntKind.i64.wrap ((rd t161 1) * 9))) = true := by simp only [i64_w]; exact c12b1
            (first | rw [c12b0] | (simp only [i64_w, i32_w]; rw [c12b0]) | skip)
            have H' := Aside0.mk H
            clear H
            go_wp2_with (first | (go_at_call 24; (with_reducible refine (impl_OffsetOf.calls k (wrap64 (1 + (Int.tmod (rd t161 0) 3))) t166 t167 t168 t169 _ A11.out).mono ?_); rintro e w' ⟨rfl, ⟨nd, rfl⟩⟩; (try first | exact ⟨rfl, _, World.drewN_drewN _ _ _⟩ | exact ⟨rfl, _, Eq.trans (World.drewN_drewN _ _ _) (congrArg (World.drewN _) (Nat.add_assoc _ _ _))⟩)))
            repeat (go_quiet (first | (go_at_call 24; (with_reducible refine (impl_OffsetOf.calls k (wrap64 (1 + (Int.tmod (rd t161 0) 3))) t166 t167 t168 t169 _ A11.out).mono ?_); rintro e w' ⟨rfl, ⟨nd, rfl⟩⟩; (try first | exact ⟨rfl, _, World.drewN_drewN _ _ _⟩ | exact ⟨rfl, _, Eq.trans (World.drewN_drewN _ _ _) (congrArg (World.drewN _) (Nat.add_assoc _ _ _))⟩))); try go_wp2_with (first | (go_at_call 24; (with_reducible refine (impl_OffsetOf.calls k (wrap64 (1 + (Int.tmod (rd t161 0) 3))) t166 t167 t168 t169 _ A11.out).mono ?_); rintro e w' ⟨rfl, ⟨nd, rfl⟩⟩; (try first | exact ⟨rfl, _, World.drewN_drewN _ _ _⟩ | exact ⟨rfl, _, Eq.trans (World.drewN_drewN _ _ _) (congrArg (World.drewN _) (Nat.add_assoc _ _ _))⟩))))
            go_meet
            case rel => exact ⟨_, (true), (by first | rfl | (simp; done) | (simp [*]; done)), H', ⟨by first | omega | exact Nat.le_refl _⟩, ⟨by (with_reducible repeat (first | apply Kd.R_alloc | apply Kd.R_drewN | apply Kd.R_drew)); exact HO163.out⟩, ⟨by repeat (first | (with_reducible first | exact HB.out | apply below_alloc | apply pw_below_drewN | apply below_drew1) | exact HB.out)⟩⟩
        case rest =>
          clear HC8
          try clear c1
          try clear p1
          try clear q1
          try clear hx1
          try clear qi1
          try clear p2
          try clear c3
          try clear c5
          try clear c5b0
          try clear c5b1
          try clear c6
          try clear c6b0
          try clear c6b1
          try clear p6
          try clear c10
          try clear c12
          try clear c12b0
          try clear c12b1
          try clear c14
          try clear c14b0
          try clear c14b1
          try clear c15
          try clear c15b0
          try clear c15b1
          try clear c16
          try clear c16b0
          try clear p16
          try clear q16
          try clear hx16
          try clear qi16
          try clear hx164_0
          try clear hx165_0
          try clear p164
          try clear p165
          try clear q164
          try clear q165
          obtain ⟨kq, x57_7, rfl, HA, HJ7, HO_3, HB⟩ := hcut
          cases kq with
          | zero => exact absurd HA.out (by simp [laws_FnStripes.j0])
          | succ kj7 =>
            have H := HA.out
            clear HA
            simp only [laws_FnStripes.j0] at H
            by_cases c17 : x57_7 = true
            · subst c17
              have H1 : (some false) = some r := by rw [if_pos rfl] at H; exact H
              clear H
              have H := H1
              clear H1
              obtain rfl := Option.some.inj H
              go_wp2
              repeat (go_quiet (fail); try go_wp2)
              go_ret
              exact ⟨by first | rfl | (simp [errW_none, errW_some] <;> rfl) | (simp [*, errW_none, errW_some] <;> rfl), by repeat (first | (with_reducible first | exact HB.out | apply below_alloc | apply pw_below_drewN | apply below_drew1) | exact HB.out)⟩
            · replace c17 := Bool.eq_false_iff.mpr c17
              subst c17
              have H1 : ((impl_PlaceOf.f kj7 (wrap64 (1 + (Int.tmod (rd t161 0) 3))) (wrap64 ((wrap64 ((rd t161 1) * 9)) + 1))).bind fun bt171 => (if (Int.tmod (wrap64 ((wrap64 ((rd t161 1) * 9)) + 1)) 4) = 0 then (laws_FnStripes.j1 kj7 t161 (wrap64 (1 + (Int.tmod (rd t161 0) 3))) false) else (if bt171.1 = t166 then (if bt171.2.1 = t167 then (laws_FnStripes.j1 kj7 t161 (wrap64 (1 + (Int.tmod (rd t161 0) 3))) (bt171.2.2 != (wrap64 (t168 + 1)))) else (laws_FnStripes.j1 kj7 t161 (wrap64 (1 + (Int.tmod (rd t161 0) 3))) true)) else (laws_FnStripes.j1 kj7 t161 (wrap64 (1 + (Int.tmod (rd t161 0) 3))) true)))) = some r := by rw [if_neg (show ¬ (false = true) by decide)] at H; exact H
              clear H
              have H := H1
              clear H1
              replace H := Option.bind_eq_some_iff.mp H
              obtain ⟨⟨t171, t172, t173⟩, A180, H⟩ := H
              replace H : (if (Int.tmod (wrap64 ((wrap64 ((rd t161 1) * 9)) + 1)) 4) = 0 then (laws_FnStripes.j1 kj7 t161 (wrap64 (1 + (Int.tmod (rd t161 0) 3))) false) else (if t171 = t166 then (if t172 = t167 then (laws_FnStripes.j1 kj7 t161 (wrap64 (1 + (Int.tmod (rd t161 0) 3))) (t173 != (wrap64 (t168 + 1)))) else (laws_FnStripes.j1 kj7 t161 (wrap64 (1 + (Int.tmod (rd t161 0) 3))) true)) else (laws_FnStripes.j1 kj7 t161 (wrap64 (1 + (Int.tmod (rd t161 0) 3))) true))) = some r := H
              have A18 := Aside0.mk A180
              clear A180
              have HC19 := Aside0.mk H
              clear H
              go_upto_region 10 with (first | (go_at_call 22; (with_reducible refine (impl_PlaceOf.calls kj7 (wrap64 (1 + (Int.tmod (rd t161 0) 3))) (wrap64 ((wrap64 ((rd t161 1) * 9)) + 1)) t171 t172 t173 _ A18.out).mono ?_); rintro e w' ⟨rfl, ⟨nd, rfl⟩⟩; (try first | exact ⟨rfl, _, World.drewN_drewN _ _ _⟩ | exact ⟨rfl, _, Eq.trans (World.drewN_drewN _ _ _) (congrArg (World.drewN _) (Nat.add_assoc _ _ _))⟩)))
              repeat (go_quiet (first | (go_at_call 22; (with_reducible refine (impl_PlaceOf.calls kj7 (wrap64 (1 + (Int.tmod (rd t161 0) 3))) (wrap64 ((wrap64 ((rd t161 1) * 9)) + 1)) t171 t172 t173 _ A18.out).mono ?_); rintro e w' ⟨rfl, ⟨nd, rfl⟩⟩; (try first | exact ⟨rfl, _, World.drewN_drewN _ _ _⟩ | exact ⟨rfl, _, Eq.trans (World.drewN_drewN _ _ _) (congrArg (World.drewN _) (Nat.add_assoc _ _ _))⟩))); go_upto_region 10 with (first | (go_at_call 22; (with_reducible refine (impl_PlaceOf.calls kj7 (wrap64 (1 + (Int.tmod (rd t161 0) 3))) (wrap64 ((wrap64 ((rd t161 1) * 9)) + 1)) t171 t172 t173 _ A18.out).mono ?_); rintro e w' ⟨rfl, ⟨nd, rfl⟩⟩; (try first | exact ⟨rfl, _, World.drewN_drewN _ _ _⟩ | exact ⟨rfl, _, Eq.trans (World.drewN_drewN _ _ _) (congrArg (World.drewN _) (Nat.add_assoc _ _ _))⟩))))
              (try simp only [Act.put, List.setIfInBounds_toArray, List.set_cons_zero, List.set_cons_succ])
              go_cut [85] (fun v85 wc => ∃ (kq : Nat) (x85_18 : Bool), v85 = .bool x85_18 ∧ Aside0 (laws_FnStripes.j1 kq t161 (wrap64 (1 + (Int.tmod (rd t161 0) 3))) x85_18 = some r) ∧ Aside0 (kq ≤ kj7) ∧ Aside0 (Kd.R (Kd.int .i64) 3 wc w.heap.size (fun _ => True) (.slice (some ad164) t161.length co10) t161) ∧ Aside0 (Below w.heap.size w wc))
              case first =>
                have H := HC19.out
                clear HC19
                by_cases c20 : (Int.tmod (wrap64 ((wrap64 ((rd t161 1) * 9)) + 1)) 4) = 0
                · rw [if_pos c20] at H
                  have c20b0 : ((Int.tmod (wrap64 ((wrap64 ((rd t161 1) * 9)) + 1)) 4) == 0) = true := beq_iff_eq.mpr c20
                  have c20b0w : ((Int.tmod (IntKind.i64.wrap ((IntKind.i64.wrap ((rd t161 1) * 9)) + 1)) 4) == 0) = true := by simp only [i64_w]; exact c20b0
                  have c20b1 : ((Int.tmod (wrap64 ((wrap64 ((rd t161 1) * 9)) + 1)) 4) != 0) = false := bne_eq_false_iff_eq.mpr c20
                  have c20b1w : ((Int.tmod (IntKind.i64.wrap ((IntKind.i64.wrap ((rd t161 1) * 9)) + 1)) 4) != 0) = false := by simp only [i64_w]; exact c20b1
                  clear c20
                  (first | rw [c20b0] | (simp only [i64_w, i32_w]; rw [c20b0]) | skip)
                  have H' := Aside0.mk H
                  clear H
                  go_wp2
                  repeat (go_quiet (fail); try go_wp2)
                  go_meet
                  case rel => exact ⟨_, (false), (by first | rfl | (simp; done) | (simp [*]; done)), H', ⟨by have := HJ7.out; first | omega | exact Nat.le_refl _⟩, ⟨by (with_reducible repeat (first | apply Kd.R_alloc | apply Kd.R_drewN | apply Kd.R_drew)); exact HO_3.out⟩, ⟨by repeat (first | (with_reducible first | exact HB.out | apply below_alloc | apply pw_below_drewN | apply below_drew1) | exact HB.out)⟩⟩
                · rw [if_neg c20] at H
                  have c20b0 : ((Int.tmod (wrap64 ((wrap64 ((rd t161 1) * 9)) + 1)) 4) == 0) = false := beq_eq_false_iff_ne.mpr c20
                  have c20b0w : ((Int.tmod (IntKind.i64.wrap ((IntKind.i64.wrap ((rd t161 1) * 9)) + 1)) 4) == 0) = false := by simp only [i64_w]; exact c20b0
                  have c20b1 : ((Int.tmod (wrap64 ((wrap64 ((rd t161 1) * 9)) + 1)) 4) != 0) = true := bne_iff_ne.mpr c20
                  have c20b1w : ((Int.tmod (IntKind.i64.wrap ((IntKind.i64.wrap ((rd t161 1) * 9)) + 1)) 4) != 0) = true := by simp only [i64_w]; exact c20b1
                  (first | rw [c20b0] | (simp only [i64_w, i32_w]; rw [c20b0]) | skip)
                  by_cases c21 : t171 = t166
                  · rw [if_pos c21] at H
                    have c21b0 : (t171 == t166) = true := beq_iff_eq.mpr c21
                    have c21b1 : (t171 != t166) = false := bne_eq_false_iff_eq.mpr c21
                    clear c21
                    by_cases c22 : t172 = t167
                    · rw [if_pos c22] at H
                      have c22b0 : (t172 == t167) = true := beq_iff_eq.mpr c22
                      have c22b1 : (t172 != t167) = false := bne_eq_false_iff_eq.mpr c22
                      clear c22
                      have H' := Aside0.mk H
                      clear H
                      go_wp2
                      repeat (go_quiet (fail); try go_wp2)
                      go_meet
                      case rel => exact ⟨_, ((t173 != (wrap64 (t168 + 1)))), (by first | rfl | (simp; done) | (simp [*]; done)), H', ⟨by have := HJ7.out; first | omega | exact Nat.le_refl _⟩, ⟨by (with_reducible repeat (first | apply Kd.R_alloc | apply Kd.R_drewN | apply Kd.R_drew)); exact HO_3.out⟩, ⟨by repeat (first | (with_reducible first | exact HB.out | apply below_alloc | apply pw_below_drewN | apply below_drew1) | exact HB.out)⟩⟩
                    · rw [if_neg c22] at H
                      have c22b0 : (t172 == t167) = false := beq_eq_false_iff_ne.mpr c22
                      have c22b1 : (t172 != t167) = true := bne_iff_ne.mpr c22
                      have H' := Aside0.mk H
                      clear H
                      go_wp2
                      repeat (go_quiet (fail); try go_wp2)
                      go_meet
                      case rel => exact ⟨_, (true), (by first | rfl | (simp; done) | (simp [*]; done)), H', ⟨by have := HJ7.out; first | omega | exact Nat.le_refl _⟩, ⟨by (with_reducible repeat (first | apply Kd.R_alloc | apply Kd.R_drewN | apply Kd.R_drew)); exact HO_3.out⟩, ⟨by repeat (first | (with_reducible first | exact HB.out | apply below_alloc | apply pw_below_drewN | apply below_drew1) | exact HB.out)⟩⟩
                  · rw [if_neg c21] at H
                    have c21b0 : (t171 == t166) = false := beq_eq_false_iff_ne.mpr c21
                    have c21b1 : (t171 != t166) = true := bne_iff_ne.mpr c21
                    have H' := Aside0.mk H
                    clear H
                    go_wp2
                    repeat (go_quiet (fail); try go_wp2)
                    go_meet
                    case rel => exact ⟨_, (true), (by first | rfl | (simp; done) | (simp [*]; done)), H', ⟨by have := HJ7.out; first | omega | exact Nat.le_refl _⟩, ⟨by (with_reducible repeat (first | apply Kd.R_alloc | apply Kd.R_drewN | apply Kd.R_drew)); exact HO_3.out⟩, ⟨by repeat (first | (with_reducible first | exact HB.out | apply below_alloc | apply pw_below_drewN | apply below_drew1) | exact HB.out)⟩⟩
              case rest =>
                clear HC19
                try clear c1
                try clear p1
                try clear q1
                try clear hx1
                try clear qi1
                try clear c2
                try clear p2
                try clear c3
                try clear c5
                try clear c5b0
                try clear c5b1
                try clear c6
                try clear c6b0
                try clear c6b1
                try clear p6
                try clear c10
                try clear c12
                try clear c12b0
                try clear c12b1
                try clear c14
                try clear c14b0
                try clear c14b1
                try clear c15
                try clear c15b0
                try clear c15b1
                try clear c16
                try clear c16b0
                try clear p16
                try clear q16
                try clear hx16
                try clear qi16
                try clear c17
                try clear c20
                try clear c20b0
                try clear c20b1
                try clear c21
                try clear c21b0
                try clear c21b1
                try clear c22
                try clear c22b0
                try clear c22b1
                try clear hx164_0
                try clear hx165_0
                try clear p1
                try clear p16
                try clear p164
                try clear p165
                try clear p2
                try clear p6
                try clear q1
                try clear q16
                try clear q164
                try clear q165
                obtain ⟨kq, x85_18, rfl, HA, HJ18, HO_3, HB⟩ := hcut
                cases kq with
                | zero => exact absurd HA.out (by simp [laws_FnStripes.j1])
                | succ kj18 =>
                  have H := HA.out
                  clear HA
                  simp only [laws_FnStripes.j1] at H
                  by_cases c23 : x85_18 = true
                  · subst c23
                    have H1 : (some false) = some r := by rw [if_pos rfl] at H; exact H
                    clear H
                    have H := H1
                    clear H1
                    obtain rfl := Option.some.inj H
                    go_wp2
                    repeat (go_quiet (fail); try go_wp2)
                    go_ret
                    exact ⟨by first | rfl | (simp [errW_none, errW_some] <;> rfl) | (simp [*, errW_none, errW_some] <;> rfl), by repeat (first | (with_reducible first | exact HB.out | apply below_alloc | apply pw_below_drewN | apply below_drew1) | exact HB.out)⟩
                  · replace c23 := Bool.eq_false_iff.mpr c23
                    subst c23
                    have H1 : (if 2 < (t161.length : Int) then ((impl_Spans.f kj18 (wrap64 (1 + (Int.tmod (rd t161 0) 3))) (wrap64 (1 + (Int.tmod (rd t161 2) 999)))).bind fun t175 => (laws_FnStripes.l0 kj18 t161 (wrap64 (1 + (Int.tmod (rd t161 0) 3))) t175 0 0)) else (none)) = some r := by rw [if_neg (show ¬ (false = true) by decide)] at H; exact H
                    clear H
                    have H := H1
                    clear H1
                    by_cases c24 : 2 < (t161.length : Int)
                    · rw [if_pos c24] at H
                      have c24b0 : decide (2 < (t161.length : Int)) = true := decide_eq_true c24
                      have c24b1 : decide (2 < t161.length) = true := decide_eq_true (by omega)
                      clear c24
                      replace H := Option.bind_eq_some_iff.mp H
                      obtain ⟨t175, A250, H⟩ := H
                      replace H : (laws_FnStripes.l0 kj18 t161 (wrap64 (1 + (Int.tmod (rd t161 0) 3))) t175 0 0) = some r := H
                      have A25 := Aside0.mk A250
                      clear A250
                      have H' := Aside0.mk H
                      clear H
                      have p174 : 0 ≤ (2 : Int) := (by omega)
                      have q174 : 2 < (t161.length : Int) := of_decide_eq_true (by first | (with_reducible assumption) | assumption)
                      obtain ⟨ad174, e174, hx174_0⟩ := Kd.at_int (Kd.R_reads' HO_3.out).2.2 2 p174 q174
                      obtain rfl : ad164 = ad174 := (by injection e174)
                      (try simp only [show (2 : Int).toNat = 2 from rfl, Nat.reduceMul, Nat.reduceEqDiff, Go.Addr.add, ↓reduceIte] at hx174_0)
                      have qi174 : (2 < t161.length) = True := eq_true (by omega)
                      (try rw [show ((2 : Int)).toNat = 2 from rfl] at hx174_0)
                      replace p174 := eq_true p174
                      replace q174 := eq_true q174
                      go_wp2_with (first | (go_at_call 26; (with_reducible refine (impl_Spans.calls kj18 (wrap64 (1 + (Int.tmod (rd t161 0) 3))) (wrap64 (1 + (Int.tmod (rd t161 2) 999))) t175 _ A25.out).mono ?_); rintro e w26 ⟨v176, rfl, ho0, hb⟩; have n0_ := Aside0.mk (Kd.R_elder' (by (with_reducible repeat (first | apply Kd.R_alloc | apply Kd.R_drewN | apply Kd.R_drew)); exact HO_3.out) (Kd.R_base ho0) hb); have n1_ := Aside0.mk (Kd.R_lower (Kd.R_new' ho0 (Kd.R_lt (by (with_reducible repeat (first | apply Kd.R_alloc | apply Kd.R_drewN | apply Kd.R_drew)); exact HO_3.out))) (below_size (by repeat (first | (with_reducible first | exact HB.out | apply below_alloc | apply pw_below_drewN | apply below_drew1) | exact HB.out)))); have n2_ := Aside0.mk (below_step (by repeat (first | (with_reducible first | exact HB.out | apply below_alloc | apply pw_below_drewN | apply below_drew1) | exact HB.out)) hb); clear HO_3; clear HB; have HO_3 := n0_; have HO177 := n1_; have HB := n2_; clear n0_ n1_ n2_; (try clear hb); (try clear hb2); (try clear hk); (try clear hi); (try clear ho0)))
                      repeat (go_quiet (first | (go_at_call 26; (with_reducible refine (impl_Spans.calls kj18 (wrap64 (1 + (Int.tmod (rd t161 0) 3))) (wrap64 (1 + (Int.tmod (rd t161 2) 999))) t175 _ A25.out).mono ?_); rintro e w26 ⟨v176, rfl, ho0, hb⟩; have n0_ := Aside0.mk (Kd.R_elder' (by (with_reducible repeat (first | apply Kd.R_alloc | apply Kd.R_drewN | apply Kd.R_drew)); exact HO_3.out) (Kd.R_base ho0) hb); have n1_ := Aside0.mk (Kd.R_lower (Kd.R_new' ho0 (Kd.R_lt (by (with_reducible repeat (first | apply Kd.R_alloc | apply Kd.R_drewN | apply Kd.R_drew)); exact HO_3.out))) (below_size (by repeat (first | (with_reducible first | exact HB.out | apply below_alloc | apply pw_below_drewN | apply below_drew1) | exact HB.out)))); have n2_ := Aside0.mk (below_step (by repeat (first | (with_reducible first | exact HB.out | apply below_alloc | apply pw_below_drewN | apply below_drew1) | exact HB.out)) hb); clear HO_3; clear HB; have HO_3 := n0_; have HO177 := n1_; have HB := n2_; clear n0_ n1_ n2_; (try clear hb); (try clear hb2); (try clear hk); (try clear hi); (try clear ho0))); try go_wp2_with (first | (go_at_call 26; (with_reducible refine (impl_Spans.calls kj18 (wrap64 (1 + (Int.tmod (rd t161 0) 3))) (wrap64 (1 + (Int.tmod (rd t161 2) 999))) t175 _ A25.out).mono ?_); rintro e w26 ⟨v176, rfl, ho0, hb⟩; have n0_ := Aside0.mk (Kd.R_elder' (by (with_reducible repeat (first | apply Kd.R_alloc | apply Kd.R_drewN | apply Kd.R_drew)); exact HO_3.out) (Kd.R_base ho0) hb); have n1_ := Aside0.mk (Kd.R_lower (Kd.R_new' ho0 (Kd.R_lt (by (with_reducible repeat (first | apply Kd.R_alloc | apply Kd.R_drewN | apply Kd.R_drew)); exact HO_3.out))) (below_size (by repeat (first | (with_reducible first | exact HB.out | apply below_alloc | apply pw_below_drewN | apply below_drew1) | exact HB.out)))); have n2_ := Aside0.mk (below_step (by repeat (first | (with_reducible first | exact HB.out | apply below_alloc | apply pw_below_drewN | apply below_drew1) | exact HB.out)) hb); clear HO_3; clear HB; have HO_3 := n0_; have HO177 := n1_; have HB := n2_; clear n0_ n1_ n2_; (try clear hb); (try clear hb2); (try clear hk); (try clear hi); (try clear ho0))))
                      go_loopg [13, 14] kj18 (fun kq v13 v14 w' => ∃ (x13_3 : Int) (x14_3 : Int), v13 = .int .i64 x13_3 ∧ v14 = .int .i64 x14_3 ∧ Aside0 (laws_FnStripes.l0 kq t161 (wrap64 (1 + (Int.tmod (rd t161 0) 3))) t175 x13_3 x14_3 = some r) ∧ Aside0 (kq ≤ kj18) ∧ Aside0 (Kd.R (Kd.int .i64) 3 w' w.heap.size (fun k_ => some k_ ≠ (v176 : Value).ownBlock) (.slice (some ad164) t161.length co10) t161) ∧ Aside0 (Kd.R (Kd.int .i64) 3 w' w.heap.size (fun k_ => some k_ ≠ ((.slice (some ad164) t161.length co10) : Value).ownBlock) v176 t175) ∧ Aside0 (Below w.heap.size w w'))
                      case atStart => exact ⟨(0), (0), (by first | rfl | (simp; done) | (simp [*]; done)), (by first | rfl | (simp; done) | (simp [*]; done)), H', ⟨Nat.le_refl _⟩, ⟨by (with_reducible repeat (first | apply Kd.R_alloc | apply Kd.R_drewN | apply Kd.R_drew)); exact Kd.R_mono HO_3.out (fun _ hk => hk.2)⟩, ⟨by (with_reducible repeat (first | apply Kd.R_alloc | apply Kd.R_drewN | apply Kd.R_drew)); exact Kd.R_mono HO177.out (fun _ hk => hk.2)⟩, ⟨by repeat (first | (with_reducible first | exact HB.out | apply below_alloc | apply pw_below_drewN | apply below_drew1) | exact HB.out)⟩⟩
                      case round =>
                        clear H'
                        try clear c1
                        try clear p1
                        try clear q1
                        try clear hx1
                        try clear qi1
                        try clear c2
                        try clear p2
                        try clear c3
                        try clear c5
                        try clear c5b0
                        try clear c5b1
                        try clear c6
                        try clear c6b0
                        try clear c6b1
                        try clear p6
                        try clear c10
                        try clear c12
                        try clear c12b0
                        try clear c12b1
                        try clear c14
                        try clear c14b0
                        try clear c14b1
                        try clear c15
                        try clear c15b0
                        try clear c15b1
                        try clear c16
                        try clear c16b0
                        try clear p16
                        try clear q16
                        try clear hx16
                        try clear qi16
                        try clear c17
                        try clear p17
                        try clear q17
                        try clear hx17
                        try clear qi17
                        try clear c20
                        try clear c20b0
                        try clear c20b1
                        try clear c21
                        try clear c21b0
                        try clear c21b1
                        try clear c22
                        try clear c22b0
                        try clear c22b1
                        try clear c23
                        try clear c24
                        try clear c24b0
                        try clear c24b1
                        try clear hx164_0
                        try clear hx165_0
                        try clear hx174_0
                        try clear p1
                        try clear p16
                        try clear p164
                        try clear p165
                        try clear p174
                        try clear p2
                        try clear p6
                        try clear q1
                        try clear q16
                        try clear q164
                        try clear q165
                        try clear q174
                        obtain ⟨x13_3, x14_3, rfl, rfl, HA, HK3, HO_3, HO_12, HB⟩ := hrel
                        cases gk with
                        | zero => exact absurd HA.out (by simp [laws_FnStripes.l0])
                        | succ k3 =>
                          have H := HA.out
                          clear HA
                          simp only [laws_FnStripes.l0] at H
                          by_cases c27 : x14_3 < (t175.length : Int)
                          · rw [if_pos c27] at H
                            have c27b0 : decide (x14_3 < (t175.length : Int)) = true := decide_eq_true c27
                            clear c27
                            by_cases c28 : 0 ≤ x14_3
                            · rw [if_pos c28] at H
                              have c28b0 : decide (0 ≤ x14_3) = true := decide_eq_true c28
                              clear c28
                              by_cases c29 : (rd t175 x14_3) < 1
                              · rw [if_pos c29] at H
                                have c29b0 : decide ((rd t175 x14_3) < 1) = true := decide_eq_true c29
                                clear c29
                                obtain rfl := Option.some.inj H
                                obtain ⟨Ao30, co30, eo30⟩ := Kd.R_slice HO_12.out
                                subst eo30
                                have p178 : 0 ≤ (x14_3 : Int) := of_decide_eq_true (by first | (with_reducible assumption) | assumption)
                                have q178 : x14_3 < (t175.length : Int) := of_decide_eq_true (by first | (with_reducible assumption) | assumption)
                                obtain ⟨ad178, e178, hx178_0⟩ := Kd.at_int (Kd.R_reads' HO_12.out).2.2 x14_3 p178 q178
                                cases e178
                                replace p178 := eq_true p178
                                replace q178 := eq_true q178
                                go_wp2
                                repeat (go_quiet (fail); try go_wp2)
                                go_ret
                                exact ⟨by first | rfl | (simp [errW_none, errW_some] <;> rfl) | (simp [*, errW_none, errW_some] <;> rfl), by repeat (first | (with_reducible first | exact HB.out | apply below_alloc | apply pw_below_drewN | apply below_drew1) | exact HB.out)⟩
                              · rw [if_neg c29] at H
                                have c29b0 : decide ((rd t175 x14_3) < 1) = false := decide_eq_false c29
                                clear c29
                                by_cases c31 : (wrap64 (x14_3 + 1)) < (t175.length : Int)
                                · rw [if_pos c31] at H
                                  have c31b0 : decide ((wrap64 (x14_3 + 1)) < (t175.length : Int)) = true := decide_eq_true c31
                                  have c31b0w : decide ((IntKind.i64.wrap (x14_3 + 1)) < (t175.length : Int)) = true := by simp only [i64_w]; exact c31b0
                                  clear c31
                                  replace H := Option.bind_eq_some_iff.mp H
                                  obtain ⟨t180, A320, H⟩ := H
                                  replace H : (if (rd t175 x14_3) = t180 then (laws_FnStripes.l0 k3 t161 (wrap64 (1 + (Int.tmod (rd t161 0) 3))) t175 (wrap64 (x13_3 + (rd t175 x14_3))) (wrap64 (x14_3 + 1))) else (some false)) = some r := H
                                  have A32 := Aside0.mk A320
                                  clear A320
                                  by_cases c33 : (rd t175 x14_3) = t180
                                  · rw [if_pos c33] at H
                                    have c33b0 : ((rd t175 x14_3) == t180) = true := beq_iff_eq.mpr c33
                                    have c33b1 : ((rd t175 x14_3) != t180) = false := bne_eq_false_iff_eq.mpr c33
                                    clear c33
                                    have H' := Aside0.mk H
                                    clear H
                                    obtain ⟨Ao34, co34, eo34⟩ := Kd.R_slice HO_12.out
                                    subst eo34
                                    have p178 : 0 ≤ (x14_3 : Int) := of_decide_eq_true (by first | (with_reducible assumption) | assumption)
                                    have q178 : x14_3 < (t175.length : Int) := of_decide_eq_true (by first | (with_reducible assumption) | assumption)
                                    obtain ⟨ad178, e178, hx178_0⟩ := Kd.at_int (Kd.R_reads' HO_12.out).2.2 x14_3 p178 q178
                                    cases e178
                                    replace p178 := eq_true p178
                                    replace q178 := eq_true q178
                                    have p179 : 0 ≤ (x14_3 : Int) := of_decide_eq_true (by first | (with_reducible assumption) | assumption)
                                    have q179 : x14_3 < (t175.length : Int) := of_decide_eq_true (by first | (with_reducible assumption) | assumption)
                                    obtain ⟨ad179, e179, hx179_0⟩ := Kd.at_int (Kd.R_reads' HO_12.out).2.2 x14_3 p179 q179
                                    obtain rfl : ad178 = ad179 := (by injection e179)
                                    replace p179 := eq_true p179
                                    replace q179 := eq_true q179
                                    go_wp2_with (first | (go_at_call 18; (with_reducible refine (impl_GroupSize.calls (wrap64 (1 + (Int.tmod (rd t161 0) 3))) t180 _ A32.out).mono ?_); rintro e w' ⟨rfl, ⟨nd, rfl⟩⟩; (try first | exact ⟨rfl, _, World.drewN_drewN _ _ _⟩ | exact ⟨rfl, _, Eq.trans (World.drewN_drewN _ _ _) (congrArg (World.drewN _) (Nat.add_assoc _ _ _))⟩); have p181 : 0 ≤ (x14_3 : Int) := of_decide_eq_true (by first | (with_reducible assumption) | assumption); have q181 : x14_3 < (t175.length : Int) := of_decide_eq_true (by first | (with_reducible assumption) | assumption); obtain ⟨ad181, e181, hx181_0⟩ := Kd.at_int (Kd.R_reads' HO_12.out).2.2 x14_3 p181 q181; obtain rfl : ad178 = ad181 := (by injection e181); replace p181 := eq_true p181; replace q181 := eq_true q181))
                                    repeat (go_quiet (first | (go_at_call 18; (with_reducible refine (impl_GroupSize.calls (wrap64 (1 + (Int.tmod (rd t161 0) 3))) t180 _ A32.out).mono ?_); rintro e w' ⟨rfl, ⟨nd, rfl⟩⟩; (try first | exact ⟨rfl, _, World.drewN_drewN _ _ _⟩ | exact ⟨rfl, _, Eq.trans (World.drewN_drewN _ _ _) (congrArg (World.drewN _) (Nat.add_assoc _ _ _))⟩); have p181 : 0 ≤ (x14_3 : Int) := of_decide_eq_true (by first | (with_reducible assumption) | assumption); have q181 : x14_3 < (t175.length : Int) := of_decide_eq_true (by first | (with_reducible assumption) | assumption); obtain ⟨ad181, e181, hx181_0⟩ := Kd.at_int (Kd.R_reads' HO_12.out).2.2 x14_3 p181 q181; obtain rfl : ad178 = ad181 := (by injection e181); replace p181 := eq_true p181; replace q181 := eq_true q181)); try go_wp2_with (first | (go_at_call 18; (with_reducible refine (impl_GroupSize.calls (wrap64 (1 + (Int.tmod (rd t161 0) 3))) t180 _ A32.out).mono ?_); rintro e w' ⟨rfl, ⟨nd, rfl⟩⟩; (try first | exact ⟨rfl, _, World.drewN_drewN _ _ _⟩ | exact ⟨rfl, _, Eq.trans (World.drewN_drewN _ _ _) (congrArg (World.drewN _) (Nat.add_assoc _ _ _))⟩); have p181 : 0 ≤ (x14_3 : Int) := of_decide_eq_true (by first | (with_reducible assumption) | assumption); have q181 : x14_3 < (t175.length : Int) := of_decide_eq_true (by first | (with_reducible assumption) | assumption); obtain ⟨ad181, e181, hx181_0⟩ := Kd.at_int (Kd.R_reads' HO_12.out).2.2 x14_3 p181 q181; obtain rfl : ad178 = ad181 := (by injection e181); replace p181 := eq_true p181; replace q181 := eq_true q181)))
                                    go_roundg k3
                                    case measure => have := HJ7.out; have := HJ18.out; have := HK3.out; omega
                                    case rel => exact ⟨(wrap64 (x13_3 + (rd t175 x14_3))), (wrap64 (x14_3 + 1)), (by first | rfl | (simp; done) | (simp [*]; done)), (by first | rfl | (simp; done) | (simp [*]; done)), H', ⟨by have := HJ7.out; have := HJ18.out; have := HK3.out; omega⟩, ⟨by (with_reducible repeat (first | apply Kd.R_alloc | apply Kd.R_drewN | apply Kd.R_drew)); exact HO_3.out⟩, ⟨by (with_reducible repeat (first | apply Kd.R_alloc | apply Kd.R_drewN | apply Kd.R_drew)); exact HO_12.out⟩, ⟨by repeat (first | (with_reducible first | exact HB.out | apply below_alloc | apply pw_below_drewN | apply below_drew1) | exact HB.out)⟩⟩
                                  · rw [if_neg c33] at H
                                    have c33b0 : ((rd t175 x14_3) == t180) = false := beq_eq_false_iff_ne.mpr c33
                                    have c33b1 : ((rd t175 x14_3) != t180) = true := bne_iff_ne.mpr c33
                                    obtain rfl := Option.some.inj H
                                    obtain ⟨Ao35, co35, eo35⟩ := Kd.R_slice HO_12.out
                                    subst eo35
                                    have p178 : 0 ≤ (x14_3 : Int) := of_decide_eq_true (by first | (with_reducible assumption) | assumption)
                                    have q178 : x14_3 < (t175.length : Int) := of_decide_eq_true (by first | (with_reducible assumption) | assumption)
                                    obtain ⟨ad178, e178, hx178_0⟩ := Kd.at_int (Kd.R_reads' HO_12.out).2.2 x14_3 p178 q178
                                    cases e178
                                    replace p178 := eq_true p178
                                    replace q178 := eq_true q178
                                    have p179 : 0 ≤ (x14_3 : Int) := of_decide_eq_true (by first | (with_reducible assumption) | assumption)
                                    have q179 : x14_3 < (t175.length : Int) := of_decide_eq_true (by first | (with_reducible assumption) | assumption)
                                    obtain ⟨ad179, e179, hx179_0⟩ := Kd.at_int (Kd.R_reads' HO_12.out).2.2 x14_3 p179 q179
                                    obtain rfl : ad178 = ad179 := (by injection e179)
                                    replace p179 := eq_true p179
                                    replace q179 := eq_true q179
                                    go_wp2_with (first | (go_at_call 18; (with_reducible refine (impl_GroupSize.calls (wrap64 (1 + (Int.tmod (rd t161 0) 3))) t180 _ A32.out).mono ?_); rintro e w' ⟨rfl, ⟨nd, rfl⟩⟩; (try first | exact ⟨rfl, _, World.drewN_drewN _ _ _⟩ | exact ⟨rfl, _, Eq.trans (World.drewN_drewN _ _ _) (congrArg (World.drewN _) (Nat.add_assoc _ _ _))⟩)))
                                    repeat (go_quiet (first | (go_at_call 18; (with_reducible refine (impl_GroupSize.calls (wrap64 (1 + (Int.tmod (rd t161 0) 3))) t180 _ A32.out).mono ?_); rintro e w' ⟨rfl, ⟨nd, rfl⟩⟩; (try first | exact ⟨rfl, _, World.drewN_drewN _ _ _⟩ | exact ⟨rfl, _, Eq.trans (World.drewN_drewN _ _ _) (congrArg (World.drewN _) (Nat.add_assoc _ _ _))⟩))); try go_wp2_with (first | (go_at_call 18; (with_reducible refine (impl_GroupSize.calls (wrap64 (1 + (Int.tmod (rd t161 0) 3))) t180 _ A32.out).mono ?_); rintro e w' ⟨rfl, ⟨nd, rfl⟩⟩; (try first | exact ⟨rfl, _, World.drewN_drewN _ _ _⟩ | exact ⟨rfl, _, Eq.trans (World.drewN_drewN _ _ _) (congrArg (World.drewN _) (Nat.add_assoc _ _ _))⟩))))
                                    go_ret
                                    exact ⟨by first | rfl | (simp [errW_none, errW_some] <;> rfl) | (simp [*, errW_none, errW_some] <;> rfl), by repeat (first | (with_reducible first | exact HB.out | apply below_alloc | apply pw_below_drewN | apply below_drew1) | exact HB.out)⟩
                                · rw [if_neg c31] at H
                                  have c31b0 : decide ((wrap64 (x14_3 + 1)) < (t175.length : Int)) = false := decide_eq_false c31
                                  have c31b0w : decide ((IntKind.i64.wrap (x14_3 + 1)) < (t175.length : Int)) = false := by simp only [i64_w]; exact c31b0
                                  clear c31
                                  have H' := Aside0.mk H
                                  clear H
                                  obtain ⟨Ao36, co36, eo36⟩ := Kd.R_slice HO_12.out
                                  subst eo36
                                  have p178 : 0 ≤ (x14_3 : Int) := of_decide_eq_true (by first | (with_reducible assumption) | assumption)
                                  have q178 : x14_3 < (t175.length : Int) := of_decide_eq_true (by first | (with_reducible assumption) | assumption)
                                  obtain ⟨ad178, e178, hx178_0⟩ := Kd.at_int (Kd.R_reads' HO_12.out).2.2 x14_3 p178 q178
                                  cases e178
                                  replace p178 := eq_true p178
                                  replace q178 := eq_true q178
                                  have p182 : 0 ≤ (x14_3 : Int) := of_decide_eq_true (by first | (with_reducible assumption) | assumption)
                                  have q182 : x14_3 < (t175.length : Int) := of_decide_eq_true (by first | (with_reducible assumption) | assumption)
                                  obtain ⟨ad182, e182, hx182_0⟩ := Kd.at_int (Kd.R_reads' HO_12.out).2.2 x14_3 p182 q182
                                  obtain rfl : ad178 = ad182 := (by injection e182)
                                  replace p182 := eq_true p182
                                  replace q182 := eq_true q182
                                  go_wp2
                                  repeat (go_quiet (fail); try go_wp2)
                                  go_roundg k3
                                  case measure => have := HJ7.out; have := HJ18.out; have := HK3.out; omega
                                  case rel => exact ⟨(wrap64 (x13_3 + (rd t175 x14_3))), (wrap64 (x14_3 + 1)), (by first | rfl | (simp; done) | (simp [*]; done)), (by first | rfl | (simp; done) | (simp [*]; done)), H', ⟨by have := HJ7.out; have := HJ18.out; have := HK3.out; omega⟩, ⟨by (with_reducible repeat (first | apply Kd.R_alloc | apply Kd.R_drewN | apply Kd.R_drew)); exact HO_3.out⟩, ⟨by (with_reducible repeat (first | apply Kd.R_alloc | apply Kd.R_drewN | apply Kd.R_drew)); exact HO_12.out⟩, ⟨by repeat (first | (with_reducible first | exact HB.out | apply below_alloc | apply pw_below_drewN | apply below_drew1) | exact HB.out)⟩⟩
                            · rw [if_neg c28] at H
                              exact absurd H (by simp)
                          · rw [if_neg c27] at H
                            have c27b0 : decide (x14_3 < (t175.length : Int)) = false := decide_eq_false c27
                            clear c27
                            by_cases c37 : 2 < (t161.length : Int)
                            · rw [if_pos c37] at H
                              have c37b0 : decide (2 < (t161.length : Int)) = true := decide_eq_true c37
                              have c37b1 : decide (2 < t161.length) = true := decide_eq_true (by omega)
                              clear c37
                              by_cases c38 : x13_3 = (wrap64 (1 + (Int.tmod (rd t161 2) 999)))
                              · rw [if_pos c38] at H
                                have c38b0 : (x13_3 == (wrap64 (1 + (Int.tmod (rd t161 2) 999)))) = true := beq_iff_eq.mpr c38
                                have c38b0w : (x13_3 == (IntKind.i64.wrap (1 + (Int.tmod (rd t161 2) 999)))) = true := by simp only [i64_w]; exact c38b0
                                have c38b1 : (x13_3 != (wrap64 (1 + (Int.tmod (rd t161 2) 999)))) = false := bne_eq_false_iff_eq.mpr c38
                                have c38b1w : (x13_3 != (IntKind.i64.wrap (1 + (Int.tmod (rd t161 2) 999)))) = false := by simp only [i64_w]; exact c38b1
                                clear c38
                                replace H := Option.bind_eq_some_iff.mp H
                                obtain ⟨t184, A390, H⟩ := H
                                replace H : (if t184 = (-1) then ((impl_GroupSize.f (wrap64 (1 + (Int.tmod (rd t161 0) 3)))).bind fun t185 => ((spec_GroupSize.f (wrap64 (1 + (Int.tmod (rd t161 0) 3)))).bind fun t186 => (if t185 = t186 then ((impl_Spans.f k3 (wrap64 (1 + (Int.tmod (rd t161 0) 3))) 0).bind fun t187 => (some ((t187.length : Int) == 0))) else (some false)))) else (some false)) = some r := H
                                have A39 := Aside0.mk A390
                                clear A390
                                by_cases c40 : t184 = (-1)
                                · rw [if_pos c40] at H
                                  have c40b0 : (t184 == (-1)) = true := beq_iff_eq.mpr c40
                                  have c40b1 : (t184 != (-1)) = false := bne_eq_false_iff_eq.mpr c40
                                  clear c40
                                  replace H := Option.bind_eq_some_iff.mp H
                                  obtain ⟨t185, A410, H⟩ := H
                                  replace H : ((spec_GroupSize.f (wrap64 (1 + (Int.tmod (rd t161 0) 3)))).bind fun t186 => (if t185 = t186 then ((impl_Spans.f k3 (wrap64 (1 + (Int.tmod (rd t161 0) 3))) 0).bind fun t187 => (some ((t187.length : Int) == 0))) else (some false))) = some r := H
                                  have A41 := Aside0.mk A410
                                  clear A410
                                  replace H := Option.bind_eq_some_iff.mp H
                                  obtain ⟨t186, A420, H⟩ := H
                                  replace H : (if t185 = t186 then ((impl_Spans.f k3 (wrap64 (1 + (Int.tmod (rd t161 0) 3))) 0).bind fun t187 => (some ((t187.length : Int) == 0))) else (some false)) = some r := H
                                  have A42 := Aside0.mk A420
                                  clear A420
                                  by_cases c43 : t185 = t186
                                  · rw [if_pos c43] at H
                                    have c43b0 : (t185 == t186) = true := beq_iff_eq.mpr c43
                                    have c43b1 : (t185 != t186) = false := bne_eq_false_iff_eq.mpr c43
                                    clear c43
                                    replace H := Option.bind_eq_some_iff.mp H
                                    obtain ⟨t187, A440, H⟩ := H
                                    replace H : (some ((t187.length : Int) == 0)) = some r := H
                                    have A44 := Aside0.mk A440
                                    clear A440
                                    obtain rfl := Option.some.inj H
                                    obtain ⟨Ao45, co45, eo45⟩ := Kd.R_slice HO_12.out
                                    subst eo45
                                    have p183 : 0 ≤ (2 : Int) := (by omega)
                                    have q183 : 2 < (t161.length : Int) := of_decide_eq_true (by first | (with_reducible assumption) | assumption)
                                    obtain ⟨ad183, e183, hx183_0⟩ := Kd.at_int (Kd.R_reads' HO_3.out).2.2 2 p183 q183
                                    obtain rfl : ad164 = ad183 := (by injection e183)
                                    (try simp only [show (2 : Int).toNat = 2 from rfl, Nat.reduceMul, Nat.reduceEqDiff, Go.Addr.add, ↓reduceIte] at hx183_0)
                                    have qi183 : (2 < t161.length) = True := eq_true (by omega)
                                    (try rw [show ((2 : Int)).toNat = 2 from rfl] at hx183_0)
                                    replace p183 := eq_true p183
                                    replace q183 := eq_true q183
                                    go_wp2_with (first | (go_at_call 24; (with_reducible refine (impl_OffsetOf.calls k3 (wrap64 (1 + (Int.tmod (rd t161 0) 3))) (-1) 0 0 t184 _ A39.out).mono ?_); rintro e w' ⟨rfl, ⟨nd, rfl⟩⟩; (try first | exact ⟨rfl, _, World.drewN_drewN _ _ _⟩ | exact ⟨rfl, _, Eq.trans (World.drewN_drewN _ _ _) (congrArg (World.drewN _) (Nat.add_assoc _ _ _))⟩)) | (go_at_call 18; (with_reducible refine (impl_GroupSize.calls (wrap64 (1 + (Int.tmod (rd t161 0) 3))) t185 _ A41.out).mono ?_); rintro e w' ⟨rfl, ⟨nd, rfl⟩⟩; (try first | exact ⟨rfl, _, World.drewN_drewN _ _ _⟩ | exact ⟨rfl, _, Eq.trans (World.drewN_drewN _ _ _) (congrArg (World.drewN _) (Nat.add_assoc _ _ _))⟩)) | (go_at_call 17; (with_reducible refine (spec_GroupSize.calls (wrap64 (1 + (Int.tmod (rd t161 0) 3))) t186 _ A42.out).mono ?_); rintro e w' ⟨rfl, ⟨nd, rfl⟩⟩; (try first | exact ⟨rfl, _, World.drewN_drewN _ _ _⟩ | exact ⟨rfl, _, Eq.trans (World.drewN_drewN _ _ _) (congrArg (World.drewN _) (Nat.add_assoc _ _ _))⟩)) | (go_at_call 26; (with_reducible refine (impl_Spans.calls k3 (wrap64 (1 + (Int.tmod (rd t161 0) 3))) 0 t187 _ A44.out).mono ?_); rintro e w46 ⟨v188, rfl, ho0, hb⟩; have n0_ := Aside0.mk (Kd.R_elder' (by (with_reducible repeat (first | apply Kd.R_alloc | apply Kd.R_drewN | apply Kd.R_drew)); exact HO_3.out) (Kd.R_base ho0) hb); have n1_ := Aside0.mk (Kd.R_elder' (by (with_reducible repeat (first | apply Kd.R_alloc | apply Kd.R_drewN | apply Kd.R_drew)); exact HO_12.out) (Kd.R_base ho0) hb); have n2_ := Aside0.mk (Kd.R_lower (Kd.R_new' (Kd.R_new' ho0 (Kd.R_lt (by (with_reducible repeat (first | apply Kd.R_alloc | apply Kd.R_drewN | apply Kd.R_drew)); exact HO_3.out))) (Kd.R_lt (by (with_reducible repeat (first | apply Kd.R_alloc | apply Kd.R_drewN | apply Kd.R_drew)); exact HO_12.out))) (below_size (by repeat (first | (with_reducible first | exact HB.out | apply below_alloc | apply pw_below_drewN | apply below_drew1) | exact HB.out)))); have n3_ := Aside0.mk (below_step (by repeat (first | (with_reducible first | exact HB.out | apply below_alloc | apply pw_below_drewN | apply below_drew1) | exact HB.out)) hb); clear HO_3; clear HO_12; clear HB; have HO_3 := n0_; have HO_12 := n1_; have HO189 := n2_; have HB := n3_; clear n0_ n1_ n2_ n3_; (try clear hb); (try clear hb2); (try clear hk); (try clear hi); (try clear ho0); obtain ⟨Ao47, co47, eo47⟩ := Kd.R_slice HO189.out; subst eo47))
                                    repeat (go_quiet (first | (go_at_call 24; (with_reducible refine (impl_OffsetOf.calls k3 (wrap64 (1 + (Int.tmod (rd t161 0) 3))) (-1) 0 0 t184 _ A39.out).mono ?_); rintro e w' ⟨rfl, ⟨nd, rfl⟩⟩; (try first | exact ⟨rfl, _, World.drewN_drewN _ _ _⟩ | exact ⟨rfl, _, Eq.trans (World.drewN_drewN _ _ _) (congrArg (World.drewN _) (Nat.add_assoc _ _ _))⟩)) | (go_at_call 18; (with_reducible refine (impl_GroupSize.calls (wrap64 (1 + (Int.tmod (rd t161 0) 3))) t185 _ A41.out).mono ?_); rintro e w' ⟨rfl, ⟨nd, rfl⟩⟩; (try first | exact ⟨rfl, _, World.drewN_drewN _ _ _⟩ | exact ⟨rfl, _, Eq.trans (World.drewN_drewN _ _ _) (congrArg (World.drewN _) (Nat.add_assoc _ _ _))⟩)) | (go_at_call 17; (with_reducible refine (spec_GroupSize.calls (wrap64 (1 + (Int.tmod (rd t161 0) 3))) t186 _ A42.out).mono ?_); rintro e w' ⟨rfl, ⟨nd, rfl⟩⟩; (try first | exact ⟨rfl, _, World.drewN_drewN _ _ _⟩ | exact ⟨rfl, _, Eq.trans (World.drewN_drewN _ _ _) (congrArg (World.drewN _) (Nat.add_assoc _ _ _))⟩)) | (go_at_call 26; (with_reducible refine (impl_Spans.calls k3 (wrap64 (1 + (Int.tmod (rd t161 0) 3))) 0 t187 _ A44.out).mono ?_); rintro e w46 ⟨v188, rfl, ho0, hb⟩; have n0_ := Aside0.mk (Kd.R_elder' (by (with_reducible repeat (first | apply Kd.R_alloc | apply Kd.R_drewN | apply Kd.R_drew)); exact HO_3.out) (Kd.R_base ho0) hb); have n1_ := Aside0.mk (Kd.R_elder' (by (with_reducible repeat (first | apply Kd.R_alloc | apply Kd.R_drewN | apply Kd.R_drew)); exact HO_12.out) (Kd.R_base ho0) hb); have n2_ := Aside0.mk (Kd.R_lower (Kd.R_new' (Kd.R_new' ho0 (Kd.R_lt (by (with_reducible repeat (first | apply Kd.R_alloc | apply Kd.R_drewN | apply Kd.R_drew)); exact HO_3.out))) (Kd.R_lt (by (with_reducible repeat (first | apply Kd.R_alloc | apply Kd.R_drewN | apply Kd.R_drew)); exact HO_12.out))) (below_size (by repeat (first | (with_reducible first | exact HB.out | apply below_alloc | apply pw_below_drewN | apply below_drew1) | exact HB.out)))); have n3_ := Aside0.mk (below_step (by repeat (first | (with_reducible first | exact HB.out | apply below_alloc | apply pw_below_drewN | apply below_drew1) | exact HB.out)) hb); clear HO_3; clear HO_12; clear HB; have HO_3 := n0_; have HO_12 := n1_; have HO189 := n2_; have HB := n3_; clear n0_ n1_ n2_ n3_; (try clear hb); (try clear hb2); (try clear hk); (try clear hi); (try clear ho0); obtain ⟨Ao47, co47, eo47⟩ := Kd.R_slice HO189.out; subst eo47)); try go_wp2_with (first | (go_at_call 24; (with_reducible refine (impl_OffsetOf.calls k3 (wrap64 (1 + (Int.tmod (rd t161 0) 3))) (-1) 0 0 t184 _ A39.out).mono ?_); rintro e w' ⟨rfl, ⟨nd, rfl⟩⟩; (try first | exact ⟨rfl, _, World.drewN_drewN _ _ _⟩ | exact ⟨rfl, _, Eq.trans (World.drewN_drewN _ _ _) (congrArg (World.drewN _) (Nat.add_assoc _ _ _))⟩)) | (go_at_call 18; (with_reducible refine (impl_GroupSize.calls (wrap64 (1 + (Int.tmod (rd t161 0) 3))) t185 _ A41.out).mono ?_); rintro e w' ⟨rfl, ⟨nd, rfl⟩⟩; (try first | exact ⟨rfl, _, World.drewN_drewN _ _ _⟩ | exact ⟨rfl, _, Eq.trans (World.drewN_drewN _ _ _) (congrArg (World.drewN _) (Nat.add_assoc _ _ _))⟩)) | (go_at_call 17; (with_reducible refine (spec_GroupSize.calls (wrap64 (1 + (Int.tmod (rd t161 0) 3))) t186 _ A42.out).mono ?_); rintro e w' ⟨rfl, ⟨nd, rfl⟩⟩; (try first | exact ⟨rfl, _, World.drewN_drewN _ _ _⟩ | exact ⟨rfl, _, Eq.trans (World.drewN_drewN _ _ _) (congrArg (World.drewN _) (Nat.add_assoc _ _ _))⟩)) | (go_at_call 26; (with_reducible refine (impl_Spans.calls k3 (wrap64 (1 + (Int.tmod (rd t161 0) 3))) 0 t187 _ A44.out).mono ?_); rintro e w46 ⟨v188, rfl, ho0, hb⟩; have n0_ := Aside0.mk (Kd.R_elder' (by (with_reducible repeat (first | apply Kd.R_alloc | apply Kd.R_drewN | apply Kd.R_drew)); exact HO_3.out) (Kd.R_base ho0) hb); have n1_ := Aside0.mk (Kd.R_elder' (by (with_reducible repeat (first | apply Kd.R_alloc | apply Kd.R_drewN | apply Kd.R_drew)); exact HO_12.out) (Kd.R_base ho0) hb); have n2_ := Aside0.mk (Kd.R_lower (Kd.R_new' (Kd.R_new' ho0 (Kd.R_lt (by (with_reducible repeat (first | apply Kd.R_alloc | apply Kd.R_drewN | apply Kd.R_drew)); exact HO_3.out))) (Kd.R_lt (by (with_reducible repeat (first | apply Kd.R_alloc | apply Kd.R_drewN | apply Kd.R_drew)); exact HO_12.out))) (below_size (by repeat (first | (with_reducible first | exact HB.out | apply below_alloc | apply pw_below_drewN | apply below_drew1) | exact HB.out)))); have n3_ := Aside0.mk (below_step (by repeat (first | (with_reducible first | exact HB.out | apply below_alloc | apply pw_below_drewN | apply below_drew1) | exact HB.out)) hb); clear HO_3; clear HO_12; clear HB; have HO_3 := n0_; have HO_12 := n1_; have HO189 := n2_; have HB := n3_; clear n0_ n1_ n2_ n3_; (try clear hb); (try clear hb2); (try clear hk); (try clear hi); (try clear ho0); obtain ⟨Ao47, co47, eo47⟩ := Kd.R_slice HO189.out; subst eo47)))
                                    go_ret
                                    exact ⟨by first | rfl | (simp [errW_none, errW_some] <;> rfl) | (simp [*, errW_none, errW_some] <;> rfl), by repeat (first | (with_reducible first | exact HB.out | apply below_alloc | apply pw_below_drewN | apply below_drew1) | exact HB.out)⟩
                                  · rw [if_neg c43] at H
                                    have c43b0 : (t185 == t186) = false := beq_eq_false_iff_ne.mpr c43
                                    have c43b1 : (t185 != t186) = true := bne_iff_ne.mpr c43
                                    obtain rfl := Option.some.inj H
                                    obtain ⟨Ao48, co48, eo48⟩ := Kd.R_slice HO_12.out
                                    subst eo48
                                    have p183 : 0 ≤ (2 : Int) := (by omega)
                                    have q183 : 2 < (t161.length : Int) := of_decide_eq_true (by first | (with_reducible assumption) | assumption)
                                    obtain ⟨ad183, e183, hx183_0⟩ := Kd.at_int (Kd.R_reads' HO_3.out).2.2 2 p183 q183
                                    obtain rfl : ad164 = ad183 := (by injection e183)
                                    (try simp only [show (2 : Int).toNat = 2 from rfl, Nat.reduceMul, Nat.reduceEqDiff, Go.Addr.add, ↓reduceIte] at hx183_0)
                                    have qi183 : (2 < t161.length) = True := eq_true (by omega)
                                    (try rw [show ((2 : Int)).toNat = 2 from rfl] at hx183_0)
                                    replace p183 := eq_true p183
                                    replace q183 := eq_true q183
                                    go_wp2_with (first | (go_at_call 24; (with_reducible refine (impl_OffsetOf.calls k3 (wrap64 (1 + (Int.tmod (rd t161 0) 3))) (-1) 0 0 t184 _ A39.out).mono ?_); rintro e w' ⟨rfl, ⟨nd, rfl⟩⟩; (try first | exact ⟨rfl, _, World.drewN_drewN _ _ _⟩ | exact ⟨rfl, _, Eq.trans (World.drewN_drewN _ _ _) (congrArg (World.drewN _) (Nat.add_assoc _ _ _))⟩)) | (go_at_call 18; (with_reducible refine (impl_GroupSize.calls (wrap64 (1 + (Int.tmod (rd t161 0) 3))) t185 _ A41.out).mono ?_); rintro e w' ⟨rfl, ⟨nd, rfl⟩⟩; (try first | exact ⟨rfl, _, World.drewN_drewN _ _ _⟩ | exact ⟨rfl, _, Eq.trans (World.drewN_drewN _ _ _) (congrArg (World.drewN _) (Nat.add_assoc _ _ _))⟩)) | (go_at_call 17; (with_reducible refine (spec_GroupSize.calls (wrap64 (1 + (Int.tmod (rd t161 0) 3))) t186 _ A42.out).mono ?_); rintro e w' ⟨rfl, ⟨nd, rfl⟩⟩; (try first | exact ⟨rfl, _, World.drewN_drewN _ _ _⟩ | exact ⟨rfl, _, Eq.trans (World.drewN_drewN _ _ _) (congrArg (World.drewN _) (Nat.add_assoc _ _ _))⟩)))
                                    repeat (go_quiet (first | (go_at_call 24; (with_reducible refine (impl_OffsetOf.calls k3 (wrap64 (1 + (Int.tmod (rd t161 0) 3))) (-1) 0 0 t184 _ A39.out).mono ?_); rintro e w' ⟨rfl, ⟨nd, rfl⟩⟩; (try first | exact ⟨rfl, _, World.drewN_drewN _ _ _⟩ | exact ⟨rfl, _, Eq.trans (World.drewN_drewN _ _ _) (congrArg (World.drewN _) (Nat.add_assoc _ _ _))⟩)) | (go_at_call 18; (with_reducible refine (impl_GroupSize.calls (wrap64 (1 + (Int.tmod (rd t161 0) 3))) t185 _ A41.out).mono ?_); rintro e w' ⟨rfl, ⟨nd, rfl⟩⟩; (try first | exact ⟨rfl, _, World.drewN_drewN _ _ _⟩ | exact ⟨rfl, _, Eq.trans (World.drewN_drewN _ _ _) (congrArg (World.drewN _) (Nat.add_assoc _ _ _))⟩)) | (go_at_call 17; (with_reducible refine (spec_GroupSize.calls (wrap64 (1 + (Int.tmod (rd t161 0) 3))) t186 _ A42.out).mono ?_); rintro e w' ⟨rfl, ⟨nd, rfl⟩⟩; (try first | exact ⟨rfl, _, World.drewN_drewN _ _ _⟩ | exact ⟨rfl, _, Eq.trans (World.drewN_drewN _ _ _) (congrArg (World.drewN _) (Nat.add_assoc _ _ _))⟩))); try go_wp2_with (first | (go_at_call 24; (with_reducible refine (impl_OffsetOf.calls k3 (wrap64 (1 + (Int.tmod (rd t161 0) 3))) (-1) 0 0 t184 _ A39.out).mono ?_); rintro e w' ⟨rfl, ⟨nd, rfl⟩⟩; (try first | exact ⟨rfl, _, World.drewN_drewN _ _ _⟩ | exact ⟨rfl, _, Eq.trans (World.drewN_drewN _ _ _) (congrArg (World.drewN _) (Nat.add_assoc _ _ _))⟩)) | (go_at_call 18; (with_reducible refine (impl_GroupSize.calls (wrap64 (1 + (Int.tmod (rd t161 0) 3))) t185 _ A41.out).mono ?_); rintro e w' ⟨rfl, ⟨nd, rfl⟩⟩; (try first | exact ⟨rfl, _, World.drewN_drewN _ _ _⟩ | exact ⟨rfl, _, Eq.trans (World.drewN_drewN _ _ _) (congrArg (World.drewN _) (Nat.add_assoc _ _ _))⟩)) | (go_at_call 17; (with_reducible refine (spec_GroupSize.calls (wrap64 (1 + (Int.tmod (rd t161 0) 3))) t186 _ A42.out).mono ?_); rintro e w' ⟨rfl, ⟨nd, rfl⟩⟩; (try first | exact ⟨rfl, _, World.drewN_drewN _ _ _⟩ | exact ⟨rfl, _, Eq.trans (World.drewN_drewN _ _ _) (congrArg (World.drewN _) (Nat.add_assoc _ _ _))⟩))))
                                    go_ret
                                    exact ⟨by first | rfl | (simp [errW_none, errW_some] <;> rfl) | (simp [*, errW_none, errW_some] <;> rfl), by repeat (first | (with_reducible first | exact HB.out | apply below_alloc | apply pw_below_drewN | apply below_drew1) | exact HB.out)⟩
                                · rw [if_neg c40] at H
                                  have c40b0 : (t184 == (-1)) = false := beq_eq_false_iff_ne.mpr c40
                                  have c40b1 : (t184 != (-1)) = true := bne_iff_ne.mpr c40
                                  obtain rfl := Option.some.inj H
                                  obtain ⟨Ao49, co49, eo49⟩ := Kd.R_slice HO_12.out
                                  subst eo49
                                  have p183 : 0 ≤ (2 : Int) := (by omega)
                                  have q183 : 2 < (t161.length : Int) := of_decide_eq_true (by first | (with_reducible assumption) | assumption)
                                  obtain ⟨ad183, e183, hx183_0⟩ := Kd.at_int (Kd.R_reads' HO_3.out).2.2 2 p183 q183
                                  obtain rfl : ad164 = ad183 := (by injection e183)
                                  (try simp only [show (2 : Int).toNat = 2 from rfl, Nat.reduceMul, Nat.reduceEqDiff, Go.Addr.add, ↓reduceIte] at hx183_0)
                                  have qi183 : (2 < t161.length) = True := eq_true (by omega)
                                  (try rw [show ((2 : Int)).toNat = 2 from rfl] at hx183_0)
                                  replace p183 := eq_true p183
                                  replace q183 := eq_true q183
                                  go_wp2_with (first | (go_at_call 24; (with_reducible refine (impl_OffsetOf.calls k3 (wrap64 (1 + (Int.tmod (rd t161 0) 3))) (-1) 0 0 t184 _ A39.out).mono ?_); rintro e w' ⟨rfl, ⟨nd, rfl⟩⟩; (try first | exact ⟨rfl, _, World.drewN_drewN _ _ _⟩ | exact ⟨rfl, _, Eq.trans (World.drewN_drewN _ _ _) (congrArg (World.drewN _) (Nat.add_assoc _ _ _))⟩)))
                                  repeat (go_quiet (first | (go_at_call 24; (with_reducible refine (impl_OffsetOf.calls k3 (wrap64 (1 + (Int.tmod (rd t161 0) 3))) (-1) 0 0 t184 _ A39.out).mono ?_); rintro e w' ⟨rfl, ⟨nd, rfl⟩⟩; (try first | exact ⟨rfl, _, World.drewN_drewN _ _ _⟩ | exact ⟨rfl, _, Eq.trans (World.drewN_drewN _ _ _) (congrArg (World.drewN _) (Nat.add_assoc _ _ _))⟩))); try go_wp2_with (first | (go_at_call 24; (with_reducible refine (impl_OffsetOf.calls k3 (wrap64 (1 + (Int.tmod (rd t161 0) 3))) (-1) 0 0 t184 _ A39.out).mono ?_); rintro e w' ⟨rfl, ⟨nd, rfl⟩⟩; (try first | exact ⟨rfl, _, World.drewN_drewN _ _ _⟩ | exact ⟨rfl, _, Eq.trans (World.drewN_drewN _ _ _) (congrArg (World.drewN _) (Nat.add_assoc _ _ _))⟩))))
                                  go_ret
                                  exact ⟨by first | rfl | (simp [errW_none, errW_some] <;> rfl) | (simp [*, errW_none, errW_some] <;> rfl), by repeat (first | (with_reducible first | exact HB.out | apply below_alloc | apply pw_below_drewN | apply below_drew1) | exact HB.out)⟩
                              · rw [if_neg c38] at H
                                have c38b0 : (x13_3 == (wrap64 (1 + (Int.tmod (rd t161 2) 999)))) = false := beq_eq_false_iff_ne.mpr c38
                                have c38b0w : (x13_3 == (IntKind.i64.wrap (1 + (Int.tmod (rd t161 2) 999)))) = false := by simp only [i64_w]; exact c38b0
                                have c38b1 : (x13_3 != (wrap64 (1 + (Int.tmod (rd t161 2) 999)))) = true := bne_iff_ne.mpr c38
                                have c38b1w : (x13_3 != (IntKind.i64.wrap (1 + (Int.tmod (rd t161 2) 999)))) = true := by simp only [i64_w]; exact c38b1
                                obtain rfl := Option.some.inj H
                                obtain ⟨Ao50, co50, eo50⟩ := Kd.R_slice HO_12.out
                                subst eo50
                                have p183 : 0 ≤ (2 : Int) := (by omega)
                                have q183 : 2 < (t161.length : Int) := of_decide_eq_true (by first | (with_reducible assumption) | assumption)
                                obtain ⟨ad183, e183, hx183_0⟩ := Kd.at_int (Kd.R_reads' HO_3.out).2.2 2 p183 q183
                                obtain rfl : ad164 = ad183 := (by injection e183)
                                (try simp only [show (2 : Int).toNat = 2 from rfl, Nat.reduceMul, Nat.reduceEqDiff, Go.Addr.add, ↓reduceIte] at hx183_0)
                                have qi183 : (2 < t161.length) = True := eq_true (by omega)
                                (try rw [show ((2 : Int)).toNat = 2 from rfl] at hx183_0)
                                replace p183 := eq_true p183
                                replace q183 := eq_true q183
                                go_wp2
                                repeat (go_quiet (fail); try go_wp2)
                                go_ret
                                exact ⟨by first | rfl | (simp [errW_none, errW_some] <;> rfl) | (simp [*, errW_none, errW_some] <;> rfl), by repeat (first | (with_reducible first | exact HB.out | apply below_alloc | apply pw_below_drewN | apply below_drew1) | exact HB.out)⟩
                            · rw [if_neg c37] at H
                              exact absurd H (by simp)
                    · rw [if_neg c24] at H
                      exact absurd H (by simp)
      · rw [if_neg c6] at H
        exact absurd H (by simp)
    · rw [if_neg c5] at H
      exact absurd H (by simp)

/-- THE ONE PURE STATEMENT of laws_FnStripes: yours. -/
def laws_FnStripes.Pure : Prop := ∀ (l0 : List Int), l0.length ≤ maxLen → l0.length * 1 ≤ 140737488351232 → (∀ x ∈ l0, (Lit.int .u8 x).wf = true) → ∃ k, laws_FnStripes.f k l0 = some true
theorem laws_FnStripes.walk (P : laws_FnStripes.Pure) (a0 : Option Addr) (len0 cap0 : Nat) (z0 : List Int) (w : World) (w0 : (a0 = none ∧ len0 = 0 ∧ cap0 = 0 ∧ z0 = []) ∨ ∃ x, a0 = some x ∧ len0 ≤ cap0 ∧ cap0 ≤ maxLen ∧ z0.length = cap0 ∧ (∀ i, i < z0.length → w.cell? (x.add i) = some (.int .u8 (z0.getD i 0))) ∧ ∀ n ∈ z0, (Lit.int .u8 n).wf = true) (y0 : len0 * 1 ≤ 140737488351232) :
    Calls Try.prog 10 #[.slice a0 len0 cap0] w fun e w' => e = .returned (.bool true) ∧ Below w.heap.size w w' := by
  obtain ⟨l0, rfl, hr0, hm0, hw0, hc0⟩ := ReadsInt.ofRowC w0
  obtain ⟨k, h⟩ := P l0 hm0 y0 hw0
  refine (laws_FnStripes.calls k _ _ l0 true w (Kd.C_of_reads (d := (0 : Int)) (h1 := fun _ => rfl) hr0) hc0 h).mono ?_
  rintro e w' ⟨rfl, hd⟩
  exact ⟨rfl, hd⟩

end Go.Proofs.Ytmmepphohdnlmaa.OStripes
