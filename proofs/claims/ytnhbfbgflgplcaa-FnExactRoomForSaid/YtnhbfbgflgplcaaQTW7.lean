/- Walks, as the kit's print writes them, run with stubs of my own and mended: TW. -/
import Derived.Test.YtnhbfbgflgplcaaQTW0
import Derived.Test.YtnhbfbgflgplcaaQTW5
import Derived.Test.YtnhbfbgflgplcaaQTW6
namespace Go.Proofs.Ytnhbfbgflgplcaa.QTW
open Go.Proofs.YtnhbfbgflgplcaaW Go.Proofs.YtnhbfbgflgplcaaW.Zip
open Go.RowKit Go.Proofs.YtnhbfbgflgplcaaW.PrintWords Go.Proofs.YtnhbfbgflgplcaaW.PrintLast Go.Proofs.YtnhbfbgflgplcaaW.PrintMore
attribute [local go_sem] max2_int min2_int max_two min_two max_three min_three max_four min_four   -- for this text's walks alone
set_option linter.unusedVariables false
set_option linter.unusedSimpArgs false

/-! ### spec_l10Node: function 39 -/
mutual
def spec_l10Node.j0 : Nat → Int → Bool → List (S52) → Int → Int → Int → ByteArray → Bool → Int → Int → Int → List (S64) → Int → Option (Bool)
  | 0, _, _, _, _, _, _, _, _, _, _, _, _, _ => none
  | k + 1, x1, x65, x175000, x175001, x177000, x177001, x177002, x177003, x177004, x177005, x177006, x177007, x177008 => if x65 = true then (some false) else (if x177003 = true then ((spec_l01In.f x177004 0 3).bind fun t178 => (if t178 = true then ((spec_l01In.f x177005 0 1000).bind fun t179 => (if t179 = true then (if x177006 = 0 then (if (x177007.length : Int) > 0 then (spec_l10Node.j1 k x1 true x175000 x175001 x177000 x177001 x177002 x177003 x177004 x177005 x177006 x177007 x177008) else (if x177008 = 0 then (spec_l10Node.j1 k x1 false x175000 x175001 x177000 x177001 x177002 x177003 x177004 x177005 x177006 x177007 x177008) else (spec_l10Node.j1 k x1 true x175000 x175001 x177000 x177001 x177002 x177003 x177004 x177005 x177006 x177007 x177008))) else (spec_l10Node.j1 k x1 true x175000 x175001 x177000 x177001 x177002 x177003 x177004 x177005 x177006 x177007 x177008)) else (spec_l10Node.j1 k x1 true x175000 x175001 x177000 x177001 x177002 x177003 x177004 x177005 x177006 x177007 x177008))) else (spec_l10Node.j1 k x1 true x175000 x175001 x177000 x177001 x177002 x177003 x177004 x177005 x177006 x177007 x177008))) else ((spec_l10File.f k x177000 x177001 x177002 x177003 x177004 x177005 x177006 x177007 x177008).bind fun t180 => (spec_l10Node.j1 k x1 (!t180) x175000 x175001 x177000 x177001 x177002 x177003 x177004 x177005 x177006 x177007 x177008)))
def spec_l10Node.j1 : Nat → Int → Bool → List (S52) → Int → Int → Int → ByteArray → Bool → Int → Int → Int → List (S64) → Int → Option (Bool)
  | 0, _, _, _, _, _, _, _, _, _, _, _, _, _ => none
  | k + 1, x1, x105, x175000, x175001, x177000, x177001, x177002, x177003, x177004, x177005, x177006, x177007, x177008 => if x105 = true then (some false) else (if x1 = 0 then (some true) else ((spec_l10At.f k x175000 x175001 x177001).bind fun t181 => ((spec_NameOk.f k x177002).bind fun t182 => (if t182 = true then (if t181 < 0 then (spec_l10Node.j2 k x1 true x175000 x175001 x177000 x177001 x177002 x177003 x177004 x177005 x177006 x177007 x177008) else (if 0 ≤ t181 then (if t181 < (x175000.length : Int) then (spec_l10Node.j2 k x1 (!((rd_T52 x175000 t181).f3)) x175000 x175001 x177000 x177001 x177002 x177003 x177004 x177005 x177006 x177007 x177008) else (none)) else (none))) else (spec_l10Node.j2 k x1 true x175000 x175001 x177000 x177001 x177002 x177003 x177004 x177005 x177006 x177007 x177008)))))
def spec_l10Node.j2 : Nat → Int → Bool → List (S52) → Int → Int → Int → ByteArray → Bool → Int → Int → Int → List (S64) → Int → Option (Bool)
  | 0, _, _, _, _, _, _, _, _, _, _, _, _, _ => none
  | k + 1, x1, x128, x175000, x175001, x177000, x177001, x177002, x177003, x177004, x177005, x177006, x177007, x177008 => if x128 = true then (some false) else (spec_l10Node.l0 k x1 0 x175000 x175001 x177000 x177001 x177002 x177003 x177004 x177005 x177006 x177007 x177008)
def spec_l10Node.l0 : Nat → Int → Int → List (S52) → Int → Int → Int → ByteArray → Bool → Int → Int → Int → List (S64) → Int → Option (Bool)
  | 0, _, _, _, _, _, _, _, _, _, _, _, _, _ => none
  | k + 1, x1, x7, x175000, x175001, x177000, x177001, x177002, x177003, x177004, x177005, x177006, x177007, x177008 => if x7 < x1 then (if 0 ≤ x7 then (if x7 < (x175000.length : Int) then (if ((rd_T52 x175000 x7).f1) = x177001 then (if ((rd_T52 x175000 x7).f2).toList = x177002.toList then (some false) else (spec_l10Node.l0 k x1 (wrap64 (x7 + 1)) x175000 x175001 x177000 x177001 x177002 x177003 x177004 x177005 x177006 x177007 x177008)) else (spec_l10Node.l0 k x1 (wrap64 (x7 + 1)) x175000 x175001 x177000 x177001 x177002 x177003 x177004 x177005 x177006 x177007 x177008)) else (none)) else (none)) else (spec_l10Node.l1 k x177000 0 x175000 x175001)
def spec_l10Node.l1 : Nat → Int → Int → List (S52) → Int → Option (Bool)
  | 0, _, _, _, _ => none
  | k + 1, x8, x9, x175000, x175001 => if x9 < 4 then ((spec_l10At.f k x175000 x175001 x8).bind fun t186 => (if t186 < 0 then (some false) else (if 0 ≤ t186 then (if t186 < (x175000.length : Int) then (if ((rd_T52 x175000 t186).f1) = 1 then (some true) else (spec_l10Node.l1 k ((rd_T52 x175000 t186).f1) (wrap64 (x9 + 1)) x175000 x175001)) else (none)) else (none)))) else (some false)
end
def spec_l10Node.f (k : Nat) (l0_0 : List (S52)) (a0_1 : Int) (a1 : Int) : Option (Bool) := if 0 ≤ a1 then (if a1 < (l0_0.length : Int) then (if ((rd_T52 l0_0 a1).f0) ≥ a0_1 then (spec_l10Node.j0 k a1 true l0_0 a0_1 ((rd_T52 l0_0 a1).f0) ((rd_T52 l0_0 a1).f1) ((rd_T52 l0_0 a1).f2) ((rd_T52 l0_0 a1).f3) ((rd_T52 l0_0 a1).f4) ((rd_T52 l0_0 a1).f5) ((rd_T52 l0_0 a1).f6) ((rd_T52 l0_0 a1).f7) ((rd_T52 l0_0 a1).f8)) else (if a1 > 0 then (if 0 ≤ (wrap64 (a1 - 1)) then (if (wrap64 (a1 - 1)) < (l0_0.length : Int) then (if ((rd_T52 l0_0 (wrap64 (a1 - 1))).f0) ≥ ((rd_T52 l0_0 a1).f0) then (spec_l10Node.j0 k a1 true l0_0 a0_1 ((rd_T52 l0_0 a1).f0) ((rd_T52 l0_0 a1).f1) ((rd_T52 l0_0 a1).f2) ((rd_T52 l0_0 a1).f3) ((rd_T52 l0_0 a1).f4) ((rd_T52 l0_0 a1).f5) ((rd_T52 l0_0 a1).f6) ((rd_T52 l0_0 a1).f7) ((rd_T52 l0_0 a1).f8)) else (if a1 = 0 then (if ((rd_T52 l0_0 a1).f0) = 1 then (if ((rd_T52 l0_0 a1).f1) = 0 then (if ((rd_T52 l0_0 a1).f2).toList = ([] : List UInt8) then (if ((rd_T52 l0_0 a1).f3 = true) then (spec_l10Node.j0 k a1 (((rd_T52 l0_0 a1).f4) == 0) l0_0 a0_1 ((rd_T52 l0_0 a1).f0) ((rd_T52 l0_0 a1).f1) ((rd_T52 l0_0 a1).f2) ((rd_T52 l0_0 a1).f3) ((rd_T52 l0_0 a1).f4) ((rd_T52 l0_0 a1).f5) ((rd_T52 l0_0 a1).f6) ((rd_T52 l0_0 a1).f7) ((rd_T52 l0_0 a1).f8)) else (spec_l10Node.j0 k a1 true l0_0 a0_1 ((rd_T52 l0_0 a1).f0) ((rd_T52 l0_0 a1).f1) ((rd_T52 l0_0 a1).f2) ((rd_T52 l0_0 a1).f3) ((rd_T52 l0_0 a1).f4) ((rd_T52 l0_0 a1).f5) ((rd_T52 l0_0 a1).f6) ((rd_T52 l0_0 a1).f7) ((rd_T52 l0_0 a1).f8))) else (spec_l10Node.j0 k a1 true l0_0 a0_1 ((rd_T52 l0_0 a1).f0) ((rd_T52 l0_0 a1).f1) ((rd_T52 l0_0 a1).f2) ((rd_T52 l0_0 a1).f3) ((rd_T52 l0_0 a1).f4) ((rd_T52 l0_0 a1).f5) ((rd_T52 l0_0 a1).f6) ((rd_T52 l0_0 a1).f7) ((rd_T52 l0_0 a1).f8))) else (spec_l10Node.j0 k a1 true l0_0 a0_1 ((rd_T52 l0_0 a1).f0) ((rd_T52 l0_0 a1).f1) ((rd_T52 l0_0 a1).f2) ((rd_T52 l0_0 a1).f3) ((rd_T52 l0_0 a1).f4) ((rd_T52 l0_0 a1).f5) ((rd_T52 l0_0 a1).f6) ((rd_T52 l0_0 a1).f7) ((rd_T52 l0_0 a1).f8))) else (spec_l10Node.j0 k a1 true l0_0 a0_1 ((rd_T52 l0_0 a1).f0) ((rd_T52 l0_0 a1).f1) ((rd_T52 l0_0 a1).f2) ((rd_T52 l0_0 a1).f3) ((rd_T52 l0_0 a1).f4) ((rd_T52 l0_0 a1).f5) ((rd_T52 l0_0 a1).f6) ((rd_T52 l0_0 a1).f7) ((rd_T52 l0_0 a1).f8))) else (spec_l10Node.j0 k a1 false l0_0 a0_1 ((rd_T52 l0_0 a1).f0) ((rd_T52 l0_0 a1).f1) ((rd_T52 l0_0 a1).f2) ((rd_T52 l0_0 a1).f3) ((rd_T52 l0_0 a1).f4) ((rd_T52 l0_0 a1).f5) ((rd_T52 l0_0 a1).f6) ((rd_T52 l0_0 a1).f7) ((rd_T52 l0_0 a1).f8)))) else (none)) else (none)) else (if a1 = 0 then (if ((rd_T52 l0_0 a1).f0) = 1 then (if ((rd_T52 l0_0 a1).f1) = 0 then (if ((rd_T52 l0_0 a1).f2).toList = ([] : List UInt8) then (if ((rd_T52 l0_0 a1).f3 = true) then (spec_l10Node.j0 k a1 (((rd_T52 l0_0 a1).f4) == 0) l0_0 a0_1 ((rd_T52 l0_0 a1).f0) ((rd_T52 l0_0 a1).f1) ((rd_T52 l0_0 a1).f2) ((rd_T52 l0_0 a1).f3) ((rd_T52 l0_0 a1).f4) ((rd_T52 l0_0 a1).f5) ((rd_T52 l0_0 a1).f6) ((rd_T52 l0_0 a1).f7) ((rd_T52 l0_0 a1).f8)) else (spec_l10Node.j0 k a1 true l0_0 a0_1 ((rd_T52 l0_0 a1).f0) ((rd_T52 l0_0 a1).f1) ((rd_T52 l0_0 a1).f2) ((rd_T52 l0_0 a1).f3) ((rd_T52 l0_0 a1).f4) ((rd_T52 l0_0 a1).f5) ((rd_T52 l0_0 a1).f6) ((rd_T52 l0_0 a1).f7) ((rd_T52 l0_0 a1).f8))) else (spec_l10Node.j0 k a1 true l0_0 a0_1 ((rd_T52 l0_0 a1).f0) ((rd_T52 l0_0 a1).f1) ((rd_T52 l0_0 a1).f2) ((rd_T52 l0_0 a1).f3) ((rd_T52 l0_0 a1).f4) ((rd_T52 l0_0 a1).f5) ((rd_T52 l0_0 a1).f6) ((rd_T52 l0_0 a1).f7) ((rd_T52 l0_0 a1).f8))) else (spec_l10Node.j0 k a1 true l0_0 a0_1 ((rd_T52 l0_0 a1).f0) ((rd_T52 l0_0 a1).f1) ((rd_T52 l0_0 a1).f2) ((rd_T52 l0_0 a1).f3) ((rd_T52 l0_0 a1).f4) ((rd_T52 l0_0 a1).f5) ((rd_T52 l0_0 a1).f6) ((rd_T52 l0_0 a1).f7) ((rd_T52 l0_0 a1).f8))) else (spec_l10Node.j0 k a1 true l0_0 a0_1 ((rd_T52 l0_0 a1).f0) ((rd_T52 l0_0 a1).f1) ((rd_T52 l0_0 a1).f2) ((rd_T52 l0_0 a1).f3) ((rd_T52 l0_0 a1).f4) ((rd_T52 l0_0 a1).f5) ((rd_T52 l0_0 a1).f6) ((rd_T52 l0_0 a1).f7) ((rd_T52 l0_0 a1).f8))) else (spec_l10Node.j0 k a1 false l0_0 a0_1 ((rd_T52 l0_0 a1).f0) ((rd_T52 l0_0 a1).f1) ((rd_T52 l0_0 a1).f2) ((rd_T52 l0_0 a1).f3) ((rd_T52 l0_0 a1).f4) ((rd_T52 l0_0 a1).f5) ((rd_T52 l0_0 a1).f6) ((rd_T52 l0_0 a1).f7) ((rd_T52 l0_0 a1).f8))))) else (none)) else (none)
theorem spec_l10Node.mono_l : ∀ k, (∀ y0 y1 y2 y3 y4 y5 y6 y7 y8 y9 y10 y11 y12, LeO (spec_l10Node.j0 k y0 y1 y2 y3 y4 y5 y6 y7 y8 y9 y10 y11 y12) (spec_l10Node.j0 (k + 1) y0 y1 y2 y3 y4 y5 y6 y7 y8 y9 y10 y11 y12)) ∧ (∀ y0 y1 y2 y3 y4 y5 y6 y7 y8 y9 y10 y11 y12, LeO (spec_l10Node.j1 k y0 y1 y2 y3 y4 y5 y6 y7 y8 y9 y10 y11 y12) (spec_l10Node.j1 (k + 1) y0 y1 y2 y3 y4 y5 y6 y7 y8 y9 y10 y11 y12)) ∧ (∀ y0 y1 y2 y3 y4 y5 y6 y7 y8 y9 y10 y11 y12, LeO (spec_l10Node.j2 k y0 y1 y2 y3 y4 y5 y6 y7 y8 y9 y10 y11 y12) (spec_l10Node.j2 (k + 1) y0 y1 y2 y3 y4 y5 y6 y7 y8 y9 y10 y11 y12)) ∧ (∀ y0 y1 y2 y3 y4 y5 y6 y7 y8 y9 y10 y11 y12, LeO (spec_l10Node.l0 k y0 y1 y2 y3 y4 y5 y6 y7 y8 y9 y10 y11 y12) (spec_l10Node.l0 (k + 1) y0 y1 y2 y3 y4 y5 y6 y7 y8 y9 y10 y11 y12)) ∧ (∀ y0 y1 y2 y3, LeO (spec_l10Node.l1 k y0 y1 y2 y3) (spec_l10Node.l1 (k + 1) y0 y1 y2 y3))
  | 0 => ⟨fun _ _ _ _ _ _ _ _ _ _ _ _ _ r h => by simp [spec_l10Node.j0] at h, fun _ _ _ _ _ _ _ _ _ _ _ _ _ r h => by simp [spec_l10Node.j1] at h, fun _ _ _ _ _ _ _ _ _ _ _ _ _ r h => by simp [spec_l10Node.j2] at h, fun _ _ _ _ _ _ _ _ _ _ _ _ _ r h => by simp [spec_l10Node.l0] at h, fun _ _ _ _ r h => by simp [spec_l10Node.l1] at h⟩
  | k + 1 => by
    obtain ⟨ih0, ih1, ih2, ih3, ih4⟩ := spec_l10Node.mono_l k
    refine ⟨?_, ?_, ?_, ?_, ?_⟩
    · intro y0 y1 y2 y3 y4 y5 y6 y7 y8 y9 y10 y11 y12
      unfold spec_l10Node.j0
      repeat' first
      | (with_reducible exact ih0 _ _ _ _ _ _ _ _ _ _ _ _ _)
      | (with_reducible exact ih1 _ _ _ _ _ _ _ _ _ _ _ _ _)
      | (with_reducible exact ih2 _ _ _ _ _ _ _ _ _ _ _ _ _)
      | (with_reducible exact ih3 _ _ _ _ _ _ _ _ _ _ _ _ _)
      | (with_reducible exact ih4 _ _ _ _)
      | (with_reducible exact spec_NameOk.mono _ _)
      | (with_reducible exact spec_l10At.mono _ _ _ _)
      | (with_reducible exact spec_l10File.mono _ _ _ _ _ _ _ _ _ _)
      | (with_reducible exact LeO.refl _)
      | (with_reducible exact LeO.none _)
      | (with_reducible refine LeO.ite ?_ ?_)
      | (with_reducible refine LeO.bind ?_ (fun _ => ?_))
      | exact ih0 _ _ _ _ _ _ _ _ _ _ _ _ _
      | exact ih1 _ _ _ _ _ _ _ _ _ _ _ _ _
      | exact ih2 _ _ _ _ _ _ _ _ _ _ _ _ _
      | exact ih3 _ _ _ _ _ _ _ _ _ _ _ _ _
      | exact ih4 _ _ _ _
      | exact spec_NameOk.mono _ _
      | exact spec_l10At.mono _ _ _ _
      | exact spec_l10File.mono _ _ _ _ _ _ _ _ _ _
      | exact LeO.none _
      | refine LeO.ite ?_ ?_
      | refine LeO.bind ?_ (fun _ => ?_)
    · intro y0 y1 y2 y3 y4 y5 y6 y7 y8 y9 y10 y11 y12
      unfold spec_l10Node.j1
      repeat' first
      | (with_reducible exact ih0 _ _ _ _ _ _ _ _ _ _ _ _ _)
      | (with_reducible exact ih1 _ _ _ _ _ _ _ _ _ _ _ _ _)
      | (with_reducible exact ih2 _ _ _ _ _ _ _ _ _ _ _ _ _)
      | (with_reducible exact ih3 _ _ _ _ _ _ _ _ _ _ _ _ _)
      | (with_reducible exact ih4 _ _ _ _)
      | (with_reducible exact spec_NameOk.mono _ _)
      | (with_reducible exact spec_l10At.mono _ _ _ _)
      | (with_reducible exact spec_l10File.mono _ _ _ _ _ _ _ _ _ _)
      | (with_reducible exact LeO.refl _)
      | (with_reducible exact LeO.none _)
      | (with_reducible refine LeO.ite ?_ ?_)
      | (with_reducible refine LeO.bind ?_ (fun _ => ?_))
      | exact ih0 _ _ _ _ _ _ _ _ _ _ _ _ _
      | exact ih1 _ _ _ _ _ _ _ _ _ _ _ _ _
      | exact ih2 _ _ _ _ _ _ _ _ _ _ _ _ _
      | exact ih3 _ _ _ _ _ _ _ _ _ _ _ _ _
      | exact ih4 _ _ _ _
      | exact spec_NameOk.mono _ _
      | exact spec_l10At.mono _ _ _ _
      | exact spec_l10File.mono _ _ _ _ _ _ _ _ _ _
      | exact LeO.none _
      | refine LeO.ite ?_ ?_
      | refine LeO.bind ?_ (fun _ => ?_)
    · intro y0 y1 y2 y3 y4 y5 y6 y7 y8 y9 y10 y11 y12
      unfold spec_l10Node.j2
      repeat' first
      | (with_reducible exact ih0 _ _ _ _ _ _ _ _ _ _ _ _ _)
      | (with_reducible exact ih1 _ _ _ _ _ _ _ _ _ _ _ _ _)
      | (with_reducible exact ih2 _ _ _ _ _ _ _ _ _ _ _ _ _)
      | (with_reducible exact ih3 _ _ _ _ _ _ _ _ _ _ _ _ _)
      | (with_reducible exact ih4 _ _ _ _)
      | (with_reducible exact spec_NameOk.mono _ _)
      | (with_reducible exact spec_l10At.mono _ _ _ _)
      | (with_reducible exact spec_l10File.mono _ _ _ _ _ _ _ _ _ _)
      | (with_reducible exact LeO.refl _)
      | (with_reducible exact LeO.none _)
      | (with_reducible refine LeO.ite ?_ ?_)
      | (with_reducible refine LeO.bind ?_ (fun _ => ?_))
      | exact ih0 _ _ _ _ _ _ _ _ _ _ _ _ _
      | exact ih1 _ _ _ _ _ _ _ _ _ _ _ _ _
      | exact ih2 _ _ _ _ _ _ _ _ _ _ _ _ _
      | exact ih3 _ _ _ _ _ _ _ _ _ _ _ _ _
      | exact ih4 _ _ _ _
      | exact spec_NameOk.mono _ _
      | exact spec_l10At.mono _ _ _ _
      | exact spec_l10File.mono _ _ _ _ _ _ _ _ _ _
      | exact LeO.none _
      | refine LeO.ite ?_ ?_
      | refine LeO.bind ?_ (fun _ => ?_)
    · intro y0 y1 y2 y3 y4 y5 y6 y7 y8 y9 y10 y11 y12
      unfold spec_l10Node.l0
      repeat' first
      | (with_reducible exact ih0 _ _ _ _ _ _ _ _ _ _ _ _ _)
      | (with_reducible exact ih1 _ _ _ _ _ _ _ _ _ _ _ _ _)
      | (with_reducible exact ih2 _ _ _ _ _ _ _ _ _ _ _ _ _)
      | (with_reducible exact ih3 _ _ _ _ _ _ _ _ _ _ _ _ _)
      | (with_reducible exact ih4 _ _ _ _)
      | (with_reducible exact spec_NameOk.mono _ _)
      | (with_reducible exact spec_l10At.mono _ _ _ _)
      | (with_reducible exact spec_l10File.mono _ _ _ _ _ _ _ _ _ _)
      | (with_reducible exact LeO.refl _)
      | (with_reducible exact LeO.none _)
      | (with_reducible refine LeO.ite ?_ ?_)
      | (with_reducible refine LeO.bind ?_ (fun _ => ?_))
      | exact ih0 _ _ _ _ _ _ _ _ _ _ _ _ _
      | exact ih1 _ _ _ _ _ _ _ _ _ _ _ _ _
      | exact ih2 _ _ _ _ _ _ _ _ _ _ _ _ _
      | exact ih3 _ _ _ _ _ _ _ _ _ _ _ _ _
      | exact ih4 _ _ _ _
      | exact spec_NameOk.mono _ _
      | exact spec_l10At.mono _ _ _ _
      | exact spec_l10File.mono _ _ _ _ _ _ _ _ _ _
      | exact LeO.none _
      | refine LeO.ite ?_ ?_
      | refine LeO.bind ?_ (fun _ => ?_)
    · intro y0 y1 y2 y3
      unfold spec_l10Node.l1
      repeat' first
      | (with_reducible exact ih0 _ _ _ _ _ _ _ _ _ _ _ _ _)
      | (with_reducible exact ih1 _ _ _ _ _ _ _ _ _ _ _ _ _)
      | (with_reducible exact ih2 _ _ _ _ _ _ _ _ _ _ _ _ _)
      | (with_reducible exact ih3 _ _ _ _ _ _ _ _ _ _ _ _ _)
      | (with_reducible exact ih4 _ _ _ _)
      | (with_reducible exact spec_NameOk.mono _ _)
      | (with_reducible exact spec_l10At.mono _ _ _ _)
      | (with_reducible exact spec_l10File.mono _ _ _ _ _ _ _ _ _ _)
      | (with_reducible exact LeO.refl _)
      | (with_reducible exact LeO.none _)
      | (with_reducible refine LeO.ite ?_ ?_)
      | (with_reducible refine LeO.bind ?_ (fun _ => ?_))
      | exact ih0 _ _ _ _ _ _ _ _ _ _ _ _ _
      | exact ih1 _ _ _ _ _ _ _ _ _ _ _ _ _
      | exact ih2 _ _ _ _ _ _ _ _ _ _ _ _ _
      | exact ih3 _ _ _ _ _ _ _ _ _ _ _ _ _
      | exact ih4 _ _ _ _
      | exact spec_NameOk.mono _ _
      | exact spec_l10At.mono _ _ _ _
      | exact spec_l10File.mono _ _ _ _ _ _ _ _ _ _
      | exact LeO.none _
      | refine LeO.ite ?_ ?_
      | refine LeO.bind ?_ (fun _ => ?_)
theorem spec_l10Node.mono : ∀ a0 a1 a2 k, LeO (spec_l10Node.f k a0 a1 a2) (spec_l10Node.f (k + 1) a0 a1 a2) := by
  intro a0 a1 a2 k
  obtain ⟨ih0, ih1, ih2, ih3, ih4⟩ := spec_l10Node.mono_l k
  unfold spec_l10Node.f
  repeat' first
      | (with_reducible exact ih0 _ _ _ _ _ _ _ _ _ _ _ _ _)
      | (with_reducible exact ih1 _ _ _ _ _ _ _ _ _ _ _ _ _)
      | (with_reducible exact ih2 _ _ _ _ _ _ _ _ _ _ _ _ _)
      | (with_reducible exact ih3 _ _ _ _ _ _ _ _ _ _ _ _ _)
      | (with_reducible exact ih4 _ _ _ _)
      | (with_reducible exact spec_NameOk.mono _ _)
      | (with_reducible exact spec_l10At.mono _ _ _ _)
      | (with_reducible exact spec_l10File.mono _ _ _ _ _ _ _ _ _ _)
      | (with_reducible exact LeO.refl _)
      | (with_reducible exact LeO.none _)
      | (with_reducible refine LeO.ite ?_ ?_)
      | (with_reducible refine LeO.bind ?_ (fun _ => ?_))
      | exact ih0 _ _ _ _ _ _ _ _ _ _ _ _ _
      | exact ih1 _ _ _ _ _ _ _ _ _ _ _ _ _
      | exact ih2 _ _ _ _ _ _ _ _ _ _ _ _ _
      | exact ih3 _ _ _ _ _ _ _ _ _ _ _ _ _
      | exact ih4 _ _ _ _
      | exact spec_NameOk.mono _ _
      | exact spec_l10At.mono _ _ _ _
      | exact spec_l10File.mono _ _ _ _ _ _ _ _ _ _
      | exact LeO.none _
      | refine LeO.ite ?_ ?_
      | refine LeO.bind ?_ (fun _ => ?_)
set_option maxHeartbeats 8000000 in
set_option maxRecDepth 100000 in
theorem spec_l10Node.calls (k : Nat) (A0_0 : Option Addr) (c0_0 : Nat) (l0_0 : List (S52)) (a0_1 : Int) (a1 : Int) (r : Bool) (w : World) (hr0_0 : Kd.C k52 w A0_0 l0_0.length l0_0) (hc0_0 : l0_0.length ≤ c0_0) (h : spec_l10Node.f k l0_0 a0_1 a1 = some r) :
    Calls Try.prog 39 #[.agg #[.slice A0_0 l0_0.length c0_0, .int .i64 a0_1], .int .i64 a1] w fun e w' => e = .returned (.bool r) ∧ Below w.heap.size w w' := by
  have hu29 := Try.underlying29
  have hu52 := Try.underlying52
  have HR0_0 := Aside0.mk hr0_0
  have HC0_0 := Aside0.mk hc0_0
  clear hr0_0 hc0_0
  have HB := Aside0.mk (Below.refl w.heap.size w)
  have H : (if 0 ≤ a1 then (if a1 < (l0_0.length : Int) then (if ((rd_T52 l0_0 a1).f0) ≥ a0_1 then (spec_l10Node.j0 k a1 true l0_0 a0_1 ((rd_T52 l0_0 a1).f0) ((rd_T52 l0_0 a1).f1) ((rd_T52 l0_0 a1).f2) ((rd_T52 l0_0 a1).f3) ((rd_T52 l0_0 a1).f4) ((rd_T52 l0_0 a1).f5) ((rd_T52 l0_0 a1).f6) ((rd_T52 l0_0 a1).f7) ((rd_T52 l0_0 a1).f8)) else (if a1 > 0 then (if 0 ≤ (wrap64 (a1 - 1)) then (if (wrap64 (a1 - 1)) < (l0_0.length : Int) then (if ((rd_T52 l0_0 (wrap64 (a1 - 1))).f0) ≥ ((rd_T52 l0_0 a1).f0) then (spec_l10Node.j0 k a1 true l0_0 a0_1 ((rd_T52 l0_0 a1).f0) ((rd_T52 l0_0 a1).f1) ((rd_T52 l0_0 a1).f2) ((rd_T52 l0_0 a1).f3) ((rd_T52 l0_0 a1).f4) ((rd_T52 l0_0 a1).f5) ((rd_T52 l0_0 a1).f6) ((rd_T52 l0_0 a1).f7) ((rd_T52 l0_0 a1).f8)) else (if a1 = 0 then (if ((rd_T52 l0_0 a1).f0) = 1 then (if ((rd_T52 l0_0 a1).f1) = 0 then (if ((rd_T52 l0_0 a1).f2).toList = ([] : List UInt8) then (if ((rd_T52 l0_0 a1).f3 = true) then (spec_l10Node.j0 k a1 (((rd_T52 l0_0 a1).f4) == 0) l0_0 a0_1 ((rd_T52 l0_0 a1).f0) ((rd_T52 l0_0 a1).f1) ((rd_T52 l0_0 a1).f2) ((rd_T52 l0_0 a1).f3) ((rd_T52 l0_0 a1).f4) ((rd_T52 l0_0 a1).f5) ((rd_T52 l0_0 a1).f6) ((rd_T52 l0_0 a1).f7) ((rd_T52 l0_0 a1).f8)) else (spec_l10Node.j0 k a1 true l0_0 a0_1 ((rd_T52 l0_0 a1).f0) ((rd_T52 l0_0 a1).f1) ((rd_T52 l0_0 a1).f2) ((rd_T52 l0_0 a1).f3) ((rd_T52 l0_0 a1).f4) ((rd_T52 l0_0 a1).f5) ((rd_T52 l0_0 a1).f6) ((rd_T52 l0_0 a1).f7) ((rd_T52 l0_0 a1).f8))) else (spec_l10Node.j0 k a1 true l0_0 a0_1 ((rd_T52 l0_0 a1).f0) ((rd_T52 l0_0 a1).f1) ((rd_T52 l0_0 a1).f2) ((rd_T52 l0_0 a1).f3) ((rd_T52 l0_0 a1).f4) ((rd_T52 l0_0 a1).f5) ((rd_T52 l0_0 a1).f6) ((rd_T52 l0_0 a1).f7) ((rd_T52 l0_0 a1).f8))) else (spec_l10Node.j0 k a1 true l0_0 a0_1 ((rd_T52 l0_0 a1).f0) ((rd_T52 l0_0 a1).f1) ((rd_T52 l0_0 a1).f2) ((rd_T52 l0_0 a1).f3) ((rd_T52 l0_0 a1).f4) ((rd_T52 l0_0 a1).f5) ((rd_T52 l0_0 a1).f6) ((rd_T52 l0_0 a1).f7) ((rd_T52 l0_0 a1).f8))) else (spec_l10Node.j0 k a1 true l0_0 a0_1 ((rd_T52 l0_0 a1).f0) ((rd_T52 l0_0 a1).f1) ((rd_T52 l0_0 a1).f2) ((rd_T52 l0_0 a1).f3) ((rd_T52 l0_0 a1).f4) ((rd_T52 l0_0 a1).f5) ((rd_T52 l0_0 a1).f6) ((rd_T52 l0_0 a1).f7) ((rd_T52 l0_0 a1).f8))) else (spec_l10Node.j0 k a1 false l0_0 a0_1 ((rd_T52 l0_0 a1).f0) ((rd_T52 l0_0 a1).f1) ((rd_T52 l0_0 a1).f2) ((rd_T52 l0_0 a1).f3) ((rd_T52 l0_0 a1).f4) ((rd_T52 l0_0 a1).f5) ((rd_T52 l0_0 a1).f6) ((rd_T52 l0_0 a1).f7) ((rd_T52 l0_0 a1).f8)))) else (none)) else (none)) else (if a1 = 0 then (if ((rd_T52 l0_0 a1).f0) = 1 then (if ((rd_T52 l0_0 a1).f1) = 0 then (if ((rd_T52 l0_0 a1).f2).toList = ([] : List UInt8) then (if ((rd_T52 l0_0 a1).f3 = true) then (spec_l10Node.j0 k a1 (((rd_T52 l0_0 a1).f4) == 0) l0_0 a0_1 ((rd_T52 l0_0 a1).f0) ((rd_T52 l0_0 a1).f1) ((rd_T52 l0_0 a1).f2) ((rd_T52 l0_0 a1).f3) ((rd_T52 l0_0 a1).f4) ((rd_T52 l0_0 a1).f5) ((rd_T52 l0_0 a1).f6) ((rd_T52 l0_0 a1).f7) ((rd_T52 l0_0 a1).f8)) else (spec_l10Node.j0 k a1 true l0_0 a0_1 ((rd_T52 l0_0 a1).f0) ((rd_T52 l0_0 a1).f1) ((rd_T52 l0_0 a1).f2) ((rd_T52 l0_0 a1).f3) ((rd_T52 l0_0 a1).f4) ((rd_T52 l0_0 a1).f5) ((rd_T52 l0_0 a1).f6) ((rd_T52 l0_0 a1).f7) ((rd_T52 l0_0 a1).f8))) else (spec_l10Node.j0 k a1 true l0_0 a0_1 ((rd_T52 l0_0 a1).f0) ((rd_T52 l0_0 a1).f1) ((rd_T52 l0_0 a1).f2) ((rd_T52 l0_0 a1).f3) ((rd_T52 l0_0 a1).f4) ((rd_T52 l0_0 a1).f5) ((rd_T52 l0_0 a1).f6) ((rd_T52 l0_0 a1).f7) ((rd_T52 l0_0 a1).f8))) else (spec_l10Node.j0 k a1 true l0_0 a0_1 ((rd_T52 l0_0 a1).f0) ((rd_T52 l0_0 a1).f1) ((rd_T52 l0_0 a1).f2) ((rd_T52 l0_0 a1).f3) ((rd_T52 l0_0 a1).f4) ((rd_T52 l0_0 a1).f5) ((rd_T52 l0_0 a1).f6) ((rd_T52 l0_0 a1).f7) ((rd_T52 l0_0 a1).f8))) else (spec_l10Node.j0 k a1 true l0_0 a0_1 ((rd_T52 l0_0 a1).f0) ((rd_T52 l0_0 a1).f1) ((rd_T52 l0_0 a1).f2) ((rd_T52 l0_0 a1).f3) ((rd_T52 l0_0 a1).f4) ((rd_T52 l0_0 a1).f5) ((rd_T52 l0_0 a1).f6) ((rd_T52 l0_0 a1).f7) ((rd_T52 l0_0 a1).f8))) else (spec_l10Node.j0 k a1 false l0_0 a0_1 ((rd_T52 l0_0 a1).f0) ((rd_T52 l0_0 a1).f1) ((rd_T52 l0_0 a1).f2) ((rd_T52 l0_0 a1).f3) ((rd_T52 l0_0 a1).f4) ((rd_T52 l0_0 a1).f5) ((rd_T52 l0_0 a1).f6) ((rd_T52 l0_0 a1).f7) ((rd_T52 l0_0 a1).f8))))) else (none)) else (none)) = some r := h
  clear h
  by_cases c3 : 0 ≤ a1
  ·rw [if_pos c3] at H
   have c3b0 : decide (0 ≤ a1) = true := decide_eq_true c3
   clear c3
   by_cases c4 : a1 < (l0_0.length : Int)
   ·rw [if_pos c4] at H
    have c4b0 : decide (a1 < (l0_0.length : Int)) = true := decide_eq_true c4
    clear c4
    have HC5 := Aside0.mk H
    clear H
    go_enter Try.func39, Try.ntmps39
    go_upto_region 2 with (first | ((with_reducible refine gate_dst (N := 2) rfl ?_); (try (refine gate_guard (by rfl) ?_; dsimp only)); refine box_event ?hg (N := 2) ?hd (cs := #[.slice A0_0 l0_0.length c0_0, .int .i64 a0_1]) (t := 29) ?hr ?_; (case hd => rfl); (case hg => rfl); (case hr => first | (go_simp; done) | (go_simp; rfl)); intro gb174 hg w6 hbox hb; have n0_ := Aside0.mk (below_step (pl0 HB.out) hb); have n1_ := Aside0.mk (hbox); have n2_ := Aside0.mk ((by rw [hg]; exact (below_size (pl0 HB.out)) : w.heap.size ≤ gb174)); have n3_ := Aside0.mk ((by rw [hg]; exact (below_size (pl0 HB.out)) : w.heap.size ≤ gb174)); clear HB; have HB := n0_; have BK174 := n1_; have GW174 := n2_; have GE174 := n3_; clear n0_ n1_ n2_ n3_; clear hb hbox hg; have hcz7_0 : w6.cell? ⟨gb174, 0, none⟩ = some (.slice A0_0 l0_0.length c0_0) := (blk_cell BK174.out 0).trans rfl; have hcz7_1 : w6.cell? ⟨gb174, 1, none⟩ = some (.int .i64 a0_1) := (blk_cell BK174.out 1).trans rfl; have hfz7_0 := blk_frozen BK174.out 0; have hfz7_1 := blk_frozen BK174.out 1; have p175 : 0 ≤ (a1 : Int) := oda; have q175 : a1 < (l0_0.length : Int) := oda; obtain ⟨ad175, A175_7, c175_7, e175, hx175_0, hx175_1, hx175_2, hx175_3, hx175_4, hx175_5, hx175_6, hx175_7, hx175_8, hl175_7, hi175_7⟩ := at_T52 HR0_0.out a1 p175 q175; cases e175; replace hx175_0 := hbc HB.out hx175_0; replace hx175_1 := hbc HB.out hx175_1; replace hx175_2 := hbc HB.out hx175_2; replace hx175_3 := hbc HB.out hx175_3; replace hx175_4 := hbc HB.out hx175_4; replace hx175_5 := hbc HB.out hx175_5; replace hx175_6 := hbc HB.out hx175_6; replace hx175_7 := hbc HB.out hx175_7; replace hx175_8 := hbc HB.out hx175_8; have HR175_7 := Aside0.mk hi175_7; have HC175_7 := Aside0.mk hl175_7; clear hi175_7 hl175_7; replace p175 := eq_true p175; replace q175 := eq_true q175) | ((with_reducible refine gate_dst (N := 5) rfl ?_); (try (refine gate_guard (by rfl) ?_; dsimp only)); refine box_event ?hg (N := 5) ?hd (cs := #[.int .i64 0, .int .i64 0, .string (⟨#[]⟩ : ByteArray), .bool false, .int .i64 0, .int .i64 0, .int .i64 0, .slice none 0 0, .int .i64 0]) (t := 52) ?hr ?_; (case hd => rfl); (case hg => rfl); (case hr => first | (go_simp; done) | (go_simp; rfl)); intro gb176 hg w8 hbox hb; have n0_ := Aside0.mk (pb BK174.out hb); have n1_ := Aside0.mk (below_step (pl1 HB.out GE174.out) hb); have n2_ := Aside0.mk (hbox); have n3_ := Aside0.mk ((by rw [hg]; exact (below_size (pl1 HB.out GE174.out)) : w.heap.size ≤ gb176)); have n4_ := Aside0.mk ((by rw [hg]; exact (below_size (pl1 HB.out GE174.out)) : w.heap.size ≤ gb176)); have n5_ := Aside0.mk ((by rw [hg]; exact Nat.ne_of_lt (blk_lt (g := gb174) (o := .cells #[.slice (some ad175) l0_0.length c0_0, .int .i64 a0_1] 29 (0, 0)) (pk BK174.out)) : gb174 ≠ gb176)); have n6_ := Aside0.mk ((by rw [hg]; exact Nat.ne_of_gt (blk_lt (g := gb174) (o := .cells #[.slice (some ad175) l0_0.length c0_0, .int .i64 a0_1] 29 (0, 0)) (pk BK174.out)) : gb176 ≠ gb174)); clear BK174; clear HB; have BK174 := n0_; have HB := n1_; have BK176 := n2_; have GW176 := n3_; have GE176 := n4_; have NB174_176 := n5_; have NB176_174 := n6_; clear n0_ n1_ n2_ n3_ n4_ n5_ n6_; clear hb hbox hg; have hnb9 := NB176_174.out; have hnc9 := NB174_176.out; have hcz10_0 : w8.cell? ⟨gb176, 0, none⟩ = some (.int .i64 0) := (blk_cell BK176.out 0).trans rfl; have hcz10_1 : w8.cell? ⟨gb176, 1, none⟩ = some (.int .i64 0) := (blk_cell BK176.out 1).trans rfl; have hcz10_2 : w8.cell? ⟨gb176, 2, none⟩ = some (.string (⟨#[]⟩ : ByteArray)) := (blk_cell BK176.out 2).trans rfl; have hcz10_3 : w8.cell? ⟨gb176, 3, none⟩ = some (.bool false) := (blk_cell BK176.out 3).trans rfl; have hcz10_4 : w8.cell? ⟨gb176, 4, none⟩ = some (.int .i64 0) := (blk_cell BK176.out 4).trans rfl; have hcz10_5 : w8.cell? ⟨gb176, 5, none⟩ = some (.int .i64 0) := (blk_cell BK176.out 5).trans rfl; have hcz10_6 : w8.cell? ⟨gb176, 6, none⟩ = some (.int .i64 0) := (blk_cell BK176.out 6).trans rfl; have hcz10_7 : w8.cell? ⟨gb176, 7, none⟩ = some (.slice none 0 0) := (blk_cell BK176.out 7).trans rfl; have hcz10_8 : w8.cell? ⟨gb176, 8, none⟩ = some (.int .i64 0) := (blk_cell BK176.out 8).trans rfl; have hfz10_0 := blk_frozen BK176.out 0; have hfz10_1 := blk_frozen BK176.out 1; have hfz10_2 := blk_frozen BK176.out 2; have hfz10_3 := blk_frozen BK176.out 3; have hfz10_4 := blk_frozen BK176.out 4; have hfz10_5 := blk_frozen BK176.out 5; have hfz10_6 := blk_frozen BK176.out 6; have hfz10_7 := blk_frozen BK176.out 7; have hfz10_8 := blk_frozen BK176.out 8))
    repeat (go_quiet (first | ((with_reducible refine gate_dst (N := 2) rfl ?_); (try (refine gate_guard (by rfl) ?_; dsimp only)); refine box_event ?hg (N := 2) ?hd (cs := #[.slice A0_0 l0_0.length c0_0, .int .i64 a0_1]) (t := 29) ?hr ?_; (case hd => rfl); (case hg => rfl); (case hr => first | (go_simp; done) | (go_simp; rfl)); intro gb174 hg w6 hbox hb; have n0_ := Aside0.mk (below_step (pl0 HB.out) hb); have n1_ := Aside0.mk (hbox); have n2_ := Aside0.mk ((by rw [hg]; exact (below_size (pl0 HB.out)) : w.heap.size ≤ gb174)); have n3_ := Aside0.mk ((by rw [hg]; exact (below_size (pl0 HB.out)) : w.heap.size ≤ gb174)); clear HB; have HB := n0_; have BK174 := n1_; have GW174 := n2_; have GE174 := n3_; clear n0_ n1_ n2_ n3_; clear hb hbox hg; have hcz7_0 : w6.cell? ⟨gb174, 0, none⟩ = some (.slice A0_0 l0_0.length c0_0) := (blk_cell BK174.out 0).trans rfl; have hcz7_1 : w6.cell? ⟨gb174, 1, none⟩ = some (.int .i64 a0_1) := (blk_cell BK174.out 1).trans rfl; have hfz7_0 := blk_frozen BK174.out 0; have hfz7_1 := blk_frozen BK174.out 1; have p175 : 0 ≤ (a1 : Int) := oda; have q175 : a1 < (l0_0.length : Int) := oda; obtain ⟨ad175, A175_7, c175_7, e175, hx175_0, hx175_1, hx175_2, hx175_3, hx175_4, hx175_5, hx175_6, hx175_7, hx175_8, hl175_7, hi175_7⟩ := at_T52 HR0_0.out a1 p175 q175; cases e175; replace hx175_0 := hbc HB.out hx175_0; replace hx175_1 := hbc HB.out hx175_1; replace hx175_2 := hbc HB.out hx175_2; replace hx175_3 := hbc HB.out hx175_3; replace hx175_4 := hbc HB.out hx175_4; replace hx175_5 := hbc HB.out hx175_5; replace hx175_6 := hbc HB.out hx175_6; replace hx175_7 := hbc HB.out hx175_7; replace hx175_8 := hbc HB.out hx175_8; have HR175_7 := Aside0.mk hi175_7; have HC175_7 := Aside0.mk hl175_7; clear hi175_7 hl175_7; replace p175 := eq_true p175; replace q175 := eq_true q175) | ((with_reducible refine gate_dst (N := 5) rfl ?_); (try (refine gate_guard (by rfl) ?_; dsimp only)); refine box_event ?hg (N := 5) ?hd (cs := #[.int .i64 0, .int .i64 0, .string (⟨#[]⟩ : ByteArray), .bool false, .int .i64 0, .int .i64 0, .int .i64 0, .slice none 0 0, .int .i64 0]) (t := 52) ?hr ?_; (case hd => rfl); (case hg => rfl); (case hr => first | (go_simp; done) | (go_simp; rfl)); intro gb176 hg w8 hbox hb; have n0_ := Aside0.mk (pb BK174.out hb); have n1_ := Aside0.mk (below_step (pl1 HB.out GE174.out) hb); have n2_ := Aside0.mk (hbox); have n3_ := Aside0.mk ((by rw [hg]; exact (below_size (pl1 HB.out GE174.out)) : w.heap.size ≤ gb176)); have n4_ := Aside0.mk ((by rw [hg]; exact (below_size (pl1 HB.out GE174.out)) : w.heap.size ≤ gb176)); have n5_ := Aside0.mk ((by rw [hg]; exact Nat.ne_of_lt (blk_lt (g := gb174) (o := .cells #[.slice (some ad175) l0_0.length c0_0, .int .i64 a0_1] 29 (0, 0)) (pk BK174.out)) : gb174 ≠ gb176)); have n6_ := Aside0.mk ((by rw [hg]; exact Nat.ne_of_gt (blk_lt (g := gb174) (o := .cells #[.slice (some ad175) l0_0.length c0_0, .int .i64 a0_1] 29 (0, 0)) (pk BK174.out)) : gb176 ≠ gb174)); clear BK174; clear HB; have BK174 := n0_; have HB := n1_; have BK176 := n2_; have GW176 := n3_; have GE176 := n4_; have NB174_176 := n5_; have NB176_174 := n6_; clear n0_ n1_ n2_ n3_ n4_ n5_ n6_; clear hb hbox hg; have hnb9 := NB176_174.out; have hnc9 := NB174_176.out; have hcz10_0 : w8.cell? ⟨gb176, 0, none⟩ = some (.int .i64 0) := (blk_cell BK176.out 0).trans rfl; have hcz10_1 : w8.cell? ⟨gb176, 1, none⟩ = some (.int .i64 0) := (blk_cell BK176.out 1).trans rfl; have hcz10_2 : w8.cell? ⟨gb176, 2, none⟩ = some (.string (⟨#[]⟩ : ByteArray)) := (blk_cell BK176.out 2).trans rfl; have hcz10_3 : w8.cell? ⟨gb176, 3, none⟩ = some (.bool false) := (blk_cell BK176.out 3).trans rfl; have hcz10_4 : w8.cell? ⟨gb176, 4, none⟩ = some (.int .i64 0) := (blk_cell BK176.out 4).trans rfl; have hcz10_5 : w8.cell? ⟨gb176, 5, none⟩ = some (.int .i64 0) := (blk_cell BK176.out 5).trans rfl; have hcz10_6 : w8.cell? ⟨gb176, 6, none⟩ = some (.int .i64 0) := (blk_cell BK176.out 6).trans rfl; have hcz10_7 : w8.cell? ⟨gb176, 7, none⟩ = some (.slice none 0 0) := (blk_cell BK176.out 7).trans rfl; have hcz10_8 : w8.cell? ⟨gb176, 8, none⟩ = some (.int .i64 0) := (blk_cell BK176.out 8).trans rfl; have hfz10_0 := blk_frozen BK176.out 0; have hfz10_1 := blk_frozen BK176.out 1; have hfz10_2 := blk_frozen BK176.out 2; have hfz10_3 := blk_frozen BK176.out 3; have hfz10_4 := blk_frozen BK176.out 4; have hfz10_5 := blk_frozen BK176.out 5; have hfz10_6 := blk_frozen BK176.out 6; have hfz10_7 := blk_frozen BK176.out 7; have hfz10_8 := blk_frozen BK176.out 8)); go_upto_region 2 with (first | ((with_reducible refine gate_dst (N := 2) rfl ?_); (try (refine gate_guard (by rfl) ?_; dsimp only)); refine box_event ?hg (N := 2) ?hd (cs := #[.slice A0_0 l0_0.length c0_0, .int .i64 a0_1]) (t := 29) ?hr ?_; (case hd => rfl); (case hg => rfl); (case hr => first | (go_simp; done) | (go_simp; rfl)); intro gb174 hg w6 hbox hb; have n0_ := Aside0.mk (below_step (pl0 HB.out) hb); have n1_ := Aside0.mk (hbox); have n2_ := Aside0.mk ((by rw [hg]; exact (below_size (pl0 HB.out)) : w.heap.size ≤ gb174)); have n3_ := Aside0.mk ((by rw [hg]; exact (below_size (pl0 HB.out)) : w.heap.size ≤ gb174)); clear HB; have HB := n0_; have BK174 := n1_; have GW174 := n2_; have GE174 := n3_; clear n0_ n1_ n2_ n3_; clear hb hbox hg; have hcz7_0 : w6.cell? ⟨gb174, 0, none⟩ = some (.slice A0_0 l0_0.length c0_0) := (blk_cell BK174.out 0).trans rfl; have hcz7_1 : w6.cell? ⟨gb174, 1, none⟩ = some (.int .i64 a0_1) := (blk_cell BK174.out 1).trans rfl; have hfz7_0 := blk_frozen BK174.out 0; have hfz7_1 := blk_frozen BK174.out 1; have p175 : 0 ≤ (a1 : Int) := oda; have q175 : a1 < (l0_0.length : Int) := oda; obtain ⟨ad175, A175_7, c175_7, e175, hx175_0, hx175_1, hx175_2, hx175_3, hx175_4, hx175_5, hx175_6, hx175_7, hx175_8, hl175_7, hi175_7⟩ := at_T52 HR0_0.out a1 p175 q175; cases e175; replace hx175_0 := hbc HB.out hx175_0; replace hx175_1 := hbc HB.out hx175_1; replace hx175_2 := hbc HB.out hx175_2; replace hx175_3 := hbc HB.out hx175_3; replace hx175_4 := hbc HB.out hx175_4; replace hx175_5 := hbc HB.out hx175_5; replace hx175_6 := hbc HB.out hx175_6; replace hx175_7 := hbc HB.out hx175_7; replace hx175_8 := hbc HB.out hx175_8; have HR175_7 := Aside0.mk hi175_7; have HC175_7 := Aside0.mk hl175_7; clear hi175_7 hl175_7; replace p175 := eq_true p175; replace q175 := eq_true q175) | ((with_reducible refine gate_dst (N := 5) rfl ?_); (try (refine gate_guard (by rfl) ?_; dsimp only)); refine box_event ?hg (N := 5) ?hd (cs := #[.int .i64 0, .int .i64 0, .string (⟨#[]⟩ : ByteArray), .bool false, .int .i64 0, .int .i64 0, .int .i64 0, .slice none 0 0, .int .i64 0]) (t := 52) ?hr ?_; (case hd => rfl); (case hg => rfl); (case hr => first | (go_simp; done) | (go_simp; rfl)); intro gb176 hg w8 hbox hb; have n0_ := Aside0.mk (pb BK174.out hb); have n1_ := Aside0.mk (below_step (pl1 HB.out GE174.out) hb); have n2_ := Aside0.mk (hbox); have n3_ := Aside0.mk ((by rw [hg]; exact (below_size (pl1 HB.out GE174.out)) : w.heap.size ≤ gb176)); have n4_ := Aside0.mk ((by rw [hg]; exact (below_size (pl1 HB.out GE174.out)) : w.heap.size ≤ gb176)); have n5_ := Aside0.mk ((by rw [hg]; exact Nat.ne_of_lt (blk_lt (g := gb174) (o := .cells #[.slice (some ad175) l0_0.length c0_0, .int .i64 a0_1] 29 (0, 0)) (pk BK174.out)) : gb174 ≠ gb176)); have n6_ := Aside0.mk ((by rw [hg]; exact Nat.ne_of_gt (blk_lt (g := gb174) (o := .cells #[.slice (some ad175) l0_0.length c0_0, .int .i64 a0_1] 29 (0, 0)) (pk BK174.out)) : gb176 ≠ gb174)); clear BK174; clear HB; have BK174 := n0_; have HB := n1_; have BK176 := n2_; have GW176 := n3_; have GE176 := n4_; have NB174_176 := n5_; have NB176_174 := n6_; clear n0_ n1_ n2_ n3_ n4_ n5_ n6_; clear hb hbox hg; have hnb9 := NB176_174.out; have hnc9 := NB174_176.out; have hcz10_0 : w8.cell? ⟨gb176, 0, none⟩ = some (.int .i64 0) := (blk_cell BK176.out 0).trans rfl; have hcz10_1 : w8.cell? ⟨gb176, 1, none⟩ = some (.int .i64 0) := (blk_cell BK176.out 1).trans rfl; have hcz10_2 : w8.cell? ⟨gb176, 2, none⟩ = some (.string (⟨#[]⟩ : ByteArray)) := (blk_cell BK176.out 2).trans rfl; have hcz10_3 : w8.cell? ⟨gb176, 3, none⟩ = some (.bool false) := (blk_cell BK176.out 3).trans rfl; have hcz10_4 : w8.cell? ⟨gb176, 4, none⟩ = some (.int .i64 0) := (blk_cell BK176.out 4).trans rfl; have hcz10_5 : w8.cell? ⟨gb176, 5, none⟩ = some (.int .i64 0) := (blk_cell BK176.out 5).trans rfl; have hcz10_6 : w8.cell? ⟨gb176, 6, none⟩ = some (.int .i64 0) := (blk_cell BK176.out 6).trans rfl; have hcz10_7 : w8.cell? ⟨gb176, 7, none⟩ = some (.slice none 0 0) := (blk_cell BK176.out 7).trans rfl; have hcz10_8 : w8.cell? ⟨gb176, 8, none⟩ = some (.int .i64 0) := (blk_cell BK176.out 8).trans rfl; have hfz10_0 := blk_frozen BK176.out 0; have hfz10_1 := blk_frozen BK176.out 1; have hfz10_2 := blk_frozen BK176.out 2; have hfz10_3 := blk_frozen BK176.out 3; have hfz10_4 := blk_frozen BK176.out 4; have hfz10_5 := blk_frozen BK176.out 5; have hfz10_6 := blk_frozen BK176.out 6; have hfz10_7 := blk_frozen BK176.out 7; have hfz10_8 := blk_frozen BK176.out 8)))
    (try simp only [Act.put, List.setIfInBounds_toArray, List.set_cons_zero, List.set_cons_succ])
    refine Zip.commit_ (Φ := fun wx_ => Aside0 (wx_.heap[gb174]? = some (.cells #[(.slice (some ad175) l0_0.length c0_0), .int .i64 a0_1] 29 (0, 0))) ∧ Aside0 (wx_.heap[gb176]? = some (.cells #[.int .i64 ((rd_T52 l0_0 a1).f0), .int .i64 ((rd_T52 l0_0 a1).f1), .string ((rd_T52 l0_0 a1).f2), .bool ((rd_T52 l0_0 a1).f3), .int .i64 ((rd_T52 l0_0 a1).f4), .int .i64 ((rd_T52 l0_0 a1).f5), .int .i64 ((rd_T52 l0_0 a1).f6), (.slice A175_7 ((rd_T52 l0_0 a1).f7).length c175_7), .int .i64 ((rd_T52 l0_0 a1).f8)] 52 (0, 0))) ∧ Aside0 (Below w.heap.size w wx_)) ⟨⟨by (with_reducible repeat (first | refine blk_drewN ?_ _ | refine blk_drew ?_ | refine blk_alloc ?_ _)); refine blk_far ?_ NB174_176.out _; (with_reducible repeat (first | refine blk_drewN ?_ _ | refine blk_drew ?_ | refine blk_alloc ?_ _)); refine blk_far ?_ NB174_176.out _; (with_reducible repeat (first | refine blk_drewN ?_ _ | refine blk_drew ?_ | refine blk_alloc ?_ _)); refine blk_far ?_ NB174_176.out _; (with_reducible repeat (first | refine blk_drewN ?_ _ | refine blk_drew ?_ | refine blk_alloc ?_ _)); refine blk_far ?_ NB174_176.out _; (with_reducible repeat (first | refine blk_drewN ?_ _ | refine blk_drew ?_ | refine blk_alloc ?_ _)); refine blk_far ?_ NB174_176.out _; (with_reducible repeat (first | refine blk_drewN ?_ _ | refine blk_drew ?_ | refine blk_alloc ?_ _)); refine blk_far ?_ NB174_176.out _; (with_reducible repeat (first | refine blk_drewN ?_ _ | refine blk_drew ?_ | refine blk_alloc ?_ _)); refine blk_far ?_ NB174_176.out _; (with_reducible repeat (first | refine blk_drewN ?_ _ | refine blk_drew ?_ | refine blk_alloc ?_ _)); refine blk_far ?_ NB174_176.out _; (with_reducible repeat (first | refine blk_drewN ?_ _ | refine blk_drew ?_ | refine blk_alloc ?_ _)); refine blk_far ?_ NB174_176.out _; (with_reducible repeat (first | refine blk_drewN ?_ _ | refine blk_drew ?_ | refine blk_alloc ?_ _)); exact BK174.out⟩, ⟨by (with_reducible repeat (first | refine blk_drewN ?_ _ | refine blk_drew ?_ | refine blk_alloc ?_ _)); refine blk_put (cs := #[.int .i64 ((rd_T52 l0_0 a1).f0), .int .i64 ((rd_T52 l0_0 a1).f1), .string ((rd_T52 l0_0 a1).f2), .bool ((rd_T52 l0_0 a1).f3), .int .i64 ((rd_T52 l0_0 a1).f4), .int .i64 ((rd_T52 l0_0 a1).f5), .int .i64 ((rd_T52 l0_0 a1).f6), .slice A175_7 ((rd_T52 l0_0 a1).f7).length c175_7, .int .i64 0]) ?_ 8 _ rfl; (with_reducible repeat (first | refine blk_drewN ?_ _ | refine blk_drew ?_ | refine blk_alloc ?_ _)); refine blk_put (cs := #[.int .i64 ((rd_T52 l0_0 a1).f0), .int .i64 ((rd_T52 l0_0 a1).f1), .string ((rd_T52 l0_0 a1).f2), .bool ((rd_T52 l0_0 a1).f3), .int .i64 ((rd_T52 l0_0 a1).f4), .int .i64 ((rd_T52 l0_0 a1).f5), .int .i64 ((rd_T52 l0_0 a1).f6), .slice none 0 0, .int .i64 0]) ?_ 7 _ rfl; (with_reducible repeat (first | refine blk_drewN ?_ _ | refine blk_drew ?_ | refine blk_alloc ?_ _)); refine blk_put (cs := #[.int .i64 ((rd_T52 l0_0 a1).f0), .int .i64 ((rd_T52 l0_0 a1).f1), .string ((rd_T52 l0_0 a1).f2), .bool ((rd_T52 l0_0 a1).f3), .int .i64 ((rd_T52 l0_0 a1).f4), .int .i64 ((rd_T52 l0_0 a1).f5), .int .i64 0, .slice none 0 0, .int .i64 0]) ?_ 6 _ rfl; (with_reducible repeat (first | refine blk_drewN ?_ _ | refine blk_drew ?_ | refine blk_alloc ?_ _)); refine blk_put (cs := #[.int .i64 ((rd_T52 l0_0 a1).f0), .int .i64 ((rd_T52 l0_0 a1).f1), .string ((rd_T52 l0_0 a1).f2), .bool ((rd_T52 l0_0 a1).f3), .int .i64 ((rd_T52 l0_0 a1).f4), .int .i64 0, .int .i64 0, .slice none 0 0, .int .i64 0]) ?_ 5 _ rfl; (with_reducible repeat (first | refine blk_drewN ?_ _ | refine blk_drew ?_ | refine blk_alloc ?_ _)); refine blk_put (cs := #[.int .i64 ((rd_T52 l0_0 a1).f0), .int .i64 ((rd_T52 l0_0 a1).f1), .string ((rd_T52 l0_0 a1).f2), .bool ((rd_T52 l0_0 a1).f3), .int .i64 0, .int .i64 0, .int .i64 0, .slice none 0 0, .int .i64 0]) ?_ 4 _ rfl; (with_reducible repeat (first | refine blk_drewN ?_ _ | refine blk_drew ?_ | refine blk_alloc ?_ _)); refine blk_put (cs := #[.int .i64 ((rd_T52 l0_0 a1).f0), .int .i64 ((rd_T52 l0_0 a1).f1), .string ((rd_T52 l0_0 a1).f2), .bool false, .int .i64 0, .int .i64 0, .int .i64 0, .slice none 0 0, .int .i64 0]) ?_ 3 _ rfl; (with_reducible repeat (first | refine blk_drewN ?_ _ | refine blk_drew ?_ | refine blk_alloc ?_ _)); refine blk_put (cs := #[.int .i64 ((rd_T52 l0_0 a1).f0), .int .i64 ((rd_T52 l0_0 a1).f1), .string (⟨#[]⟩ : ByteArray), .bool false, .int .i64 0, .int .i64 0, .int .i64 0, .slice none 0 0, .int .i64 0]) ?_ 2 _ rfl; (with_reducible repeat (first | refine blk_drewN ?_ _ | refine blk_drew ?_ | refine blk_alloc ?_ _)); refine blk_put (cs := #[.int .i64 ((rd_T52 l0_0 a1).f0), .int .i64 0, .string (⟨#[]⟩ : ByteArray), .bool false, .int .i64 0, .int .i64 0, .int .i64 0, .slice none 0 0, .int .i64 0]) ?_ 1 _ rfl; (with_reducible repeat (first | refine blk_drewN ?_ _ | refine blk_drew ?_ | refine blk_alloc ?_ _)); refine blk_put (cs := #[.int .i64 0, .int .i64 0, .string (⟨#[]⟩ : ByteArray), .bool false, .int .i64 0, .int .i64 0, .int .i64 0, .slice none 0 0, .int .i64 0]) ?_ 0 _ rfl; (with_reducible repeat (first | refine blk_drewN ?_ _ | refine blk_drew ?_ | refine blk_alloc ?_ _)); exact BK176.out⟩, ⟨pl2 HB.out GE174.out GE176.out⟩⟩ ?_
    try clear c3; try clear c3b0; try clear c4; try clear c4b0; try clear hcz10_0; try clear hcz10_1; try clear hcz10_2; try clear hcz10_3; try clear hcz10_4; try clear hcz10_5; try clear hcz10_6; try clear hcz10_7; try clear hcz10_8; try clear hcz7_0; try clear hcz7_1; try clear hfz10_0; try clear hfz10_1; try clear hfz10_2; try clear hfz10_3; try clear hfz10_4; try clear hfz10_5; try clear hfz10_6; try clear hfz10_7; try clear hfz10_8; try clear hfz7_0; try clear hfz7_1; try clear hx175_0; try clear hx175_1; try clear hx175_2; try clear hx175_3; try clear hx175_4; try clear hx175_5; try clear hx175_6; try clear hx175_7; try clear hx175_8; try clear p175; try clear q175
    clear BK174 BK176 HB
    rintro wk11 ⟨BK174, BK176, HB⟩
    go_cut [65] (fun v65 wc => ∃ (kq : Nat) (x65_4 : Bool), v65 = .bool x65_4 ∧ Aside0 (spec_l10Node.j0 kq a1 x65_4 l0_0 a0_1 ((rd_T52 l0_0 a1).f0) ((rd_T52 l0_0 a1).f1) ((rd_T52 l0_0 a1).f2) ((rd_T52 l0_0 a1).f3) ((rd_T52 l0_0 a1).f4) ((rd_T52 l0_0 a1).f5) ((rd_T52 l0_0 a1).f6) ((rd_T52 l0_0 a1).f7) ((rd_T52 l0_0 a1).f8) = some r) ∧ Aside0 (kq ≤ k) ∧ Aside0 (wc.heap[gb174]? = some (.cells #[(.slice (some ad175) l0_0.length c0_0), .int .i64 a0_1] 29 (0, 0))) ∧ Aside0 (wc.heap[gb176]? = some (.cells #[.int .i64 ((rd_T52 l0_0 a1).f0), .int .i64 ((rd_T52 l0_0 a1).f1), .string ((rd_T52 l0_0 a1).f2), .bool ((rd_T52 l0_0 a1).f3), .int .i64 ((rd_T52 l0_0 a1).f4), .int .i64 ((rd_T52 l0_0 a1).f5), .int .i64 ((rd_T52 l0_0 a1).f6), (.slice A175_7 ((rd_T52 l0_0 a1).f7).length c175_7), .int .i64 ((rd_T52 l0_0 a1).f8)] 52 (0, 0))) ∧ Aside0 (Below w.heap.size w wc))
    case first => as_aux_lemma =>
     have H := HC5.out
     clear HC5
     by_cases c12 : ((rd_T52 l0_0 a1).f0) ≥ a0_1
     ·rw [if_pos c12] at H
      have c12b0 : decide (a0_1 ≤ ((rd_T52 l0_0 a1).f0)) = true := decide_eq_true c12
      clear c12
      (first | rw [c12b0] | (simp only [i64_w, i32_w]; rw [c12b0]) | skip)
      have H' := Aside0.mk H
      clear H
      have hnb13 := NB176_174.out
      have hnc13 := NB174_176.out
      obtain ⟨hcz14_0, hcz14_1, hcz14_2, hcz14_3, hcz14_4, hcz14_5, hcz14_6, hcz14_7, hcz14_8, hfz14_0, hfz14_1, hfz14_2, hfz14_3, hfz14_4, hfz14_5, hfz14_6, hfz14_7, hfz14_8⟩ := z9 BK176.out
      obtain ⟨hcz15_0, hcz15_1, hfz15_0, hfz15_1⟩ := z2 BK174.out
      go_wp2
      repeat (go_quiet (fail); try go_wp2)
      go_meet
      case rel => exact ⟨_, (true), eqa, H', ⟨by first | omega | exact Nat.le_refl _⟩, ⟨pk BK174.out⟩, ⟨pk BK176.out⟩, ⟨pl2 HB.out GE174.out GE176.out⟩⟩
     ·rw [if_neg c12] at H
      have c12b0 : decide (a0_1 ≤ ((rd_T52 l0_0 a1).f0)) = false := decide_eq_false c12
      clear c12
      (first | rw [c12b0] | (simp only [i64_w, i32_w]; rw [c12b0]) | skip)
      by_cases c16 : a1 > 0
      ·rw [if_pos c16] at H
       have c16b0 : decide (0 < a1) = true := decide_eq_true c16
       clear c16
       obtain ⟨ji17, hji17⟩ : ∃ j_ : Int, (wrap64 (a1 - 1)) = j_ := ⟨_, rfl⟩
       replace H : (if 0 ≤ (ji17) then (if (ji17) < (l0_0.length : Int) then (if ((rd_T52 l0_0 (ji17)).f0) ≥ ((rd_T52 l0_0 a1).f0) then (spec_l10Node.j0 k a1 true l0_0 a0_1 ((rd_T52 l0_0 a1).f0) ((rd_T52 l0_0 a1).f1) ((rd_T52 l0_0 a1).f2) ((rd_T52 l0_0 a1).f3) ((rd_T52 l0_0 a1).f4) ((rd_T52 l0_0 a1).f5) ((rd_T52 l0_0 a1).f6) ((rd_T52 l0_0 a1).f7) ((rd_T52 l0_0 a1).f8)) else (if a1 = 0 then (if ((rd_T52 l0_0 a1).f0) = 1 then (if ((rd_T52 l0_0 a1).f1) = 0 then (if ((rd_T52 l0_0 a1).f2).toList = ([] : List UInt8) then (if ((rd_T52 l0_0 a1).f3 = true) then (spec_l10Node.j0 k a1 (((rd_T52 l0_0 a1).f4) == 0) l0_0 a0_1 ((rd_T52 l0_0 a1).f0) ((rd_T52 l0_0 a1).f1) ((rd_T52 l0_0 a1).f2) ((rd_T52 l0_0 a1).f3) ((rd_T52 l0_0 a1).f4) ((rd_T52 l0_0 a1).f5) ((rd_T52 l0_0 a1).f6) ((rd_T52 l0_0 a1).f7) ((rd_T52 l0_0 a1).f8)) else (spec_l10Node.j0 k a1 true l0_0 a0_1 ((rd_T52 l0_0 a1).f0) ((rd_T52 l0_0 a1).f1) ((rd_T52 l0_0 a1).f2) ((rd_T52 l0_0 a1).f3) ((rd_T52 l0_0 a1).f4) ((rd_T52 l0_0 a1).f5) ((rd_T52 l0_0 a1).f6) ((rd_T52 l0_0 a1).f7) ((rd_T52 l0_0 a1).f8))) else (spec_l10Node.j0 k a1 true l0_0 a0_1 ((rd_T52 l0_0 a1).f0) ((rd_T52 l0_0 a1).f1) ((rd_T52 l0_0 a1).f2) ((rd_T52 l0_0 a1).f3) ((rd_T52 l0_0 a1).f4) ((rd_T52 l0_0 a1).f5) ((rd_T52 l0_0 a1).f6) ((rd_T52 l0_0 a1).f7) ((rd_T52 l0_0 a1).f8))) else (spec_l10Node.j0 k a1 true l0_0 a0_1 ((rd_T52 l0_0 a1).f0) ((rd_T52 l0_0 a1).f1) ((rd_T52 l0_0 a1).f2) ((rd_T52 l0_0 a1).f3) ((rd_T52 l0_0 a1).f4) ((rd_T52 l0_0 a1).f5) ((rd_T52 l0_0 a1).f6) ((rd_T52 l0_0 a1).f7) ((rd_T52 l0_0 a1).f8))) else (spec_l10Node.j0 k a1 true l0_0 a0_1 ((rd_T52 l0_0 a1).f0) ((rd_T52 l0_0 a1).f1) ((rd_T52 l0_0 a1).f2) ((rd_T52 l0_0 a1).f3) ((rd_T52 l0_0 a1).f4) ((rd_T52 l0_0 a1).f5) ((rd_T52 l0_0 a1).f6) ((rd_T52 l0_0 a1).f7) ((rd_T52 l0_0 a1).f8))) else (spec_l10Node.j0 k a1 false l0_0 a0_1 ((rd_T52 l0_0 a1).f0) ((rd_T52 l0_0 a1).f1) ((rd_T52 l0_0 a1).f2) ((rd_T52 l0_0 a1).f3) ((rd_T52 l0_0 a1).f4) ((rd_T52 l0_0 a1).f5) ((rd_T52 l0_0 a1).f6) ((rd_T52 l0_0 a1).f7) ((rd_T52 l0_0 a1).f8)))) else (none)) else (none)) = some r := by first | (rw [hji17] at H; exact H) | (simp only [hji17] at H ⊢; exact H)
       have hji17w : (IntKind.i64.wrap (a1 - 1)) = ji17 := (i64_w _).trans hji17
       by_cases c18 : 0 ≤ (ji17)
       ·rw [if_pos c18] at H
        have c18b0 : decide (0 ≤ (ji17)) = true := decide_eq_true c18
        clear c18
        by_cases c19 : (ji17) < (l0_0.length : Int)
        ·rw [if_pos c19] at H
         have c19b0 : decide ((ji17) < (l0_0.length : Int)) = true := decide_eq_true c19
         clear c19
         by_cases c20 : ((rd_T52 l0_0 (ji17)).f0) ≥ ((rd_T52 l0_0 a1).f0)
         ·rw [if_pos c20] at H
          have c20b0 : decide (((rd_T52 l0_0 a1).f0) ≤ ((rd_T52 l0_0 (ji17)).f0)) = true := decide_eq_true c20
          clear c20
          have H' := Aside0.mk H
          clear H
          have hnb21 := NB176_174.out
          have hnc21 := NB174_176.out
          obtain ⟨hcz22_0, hcz22_1, hcz22_2, hcz22_3, hcz22_4, hcz22_5, hcz22_6, hcz22_7, hcz22_8, hfz22_0, hfz22_1, hfz22_2, hfz22_3, hfz22_4, hfz22_5, hfz22_6, hfz22_7, hfz22_8⟩ := z9 BK176.out
          obtain ⟨hcz23_0, hcz23_1, hfz23_0, hfz23_1⟩ := z2 BK174.out
          have p177 : 0 ≤ ((ji17) : Int) := oda
          have q177 : (ji17) < (l0_0.length : Int) := oda
          obtain ⟨ad177, A177_7, c177_7, e177, hx177_0, hx177_1, hx177_2, hx177_3, hx177_4, hx177_5, hx177_6, hx177_7, hx177_8, hl177_7, hi177_7⟩ := at_T52 HR0_0.out (ji17) p177 q177
          obtain rfl : ad175 = ad177 := (by injection e177)
          replace hx177_0 := hbc HB.out hx177_0
          replace hx177_1 := hbc HB.out hx177_1
          replace hx177_2 := hbc HB.out hx177_2
          replace hx177_3 := hbc HB.out hx177_3
          replace hx177_4 := hbc HB.out hx177_4
          replace hx177_5 := hbc HB.out hx177_5
          replace hx177_6 := hbc HB.out hx177_6
          replace hx177_7 := hbc HB.out hx177_7
          replace hx177_8 := hbc HB.out hx177_8
          have HR177_7 := Aside0.mk hi177_7
          have HC177_7 := Aside0.mk hl177_7
          clear hi177_7 hl177_7
          replace p177 := eq_true p177
          replace q177 := eq_true q177
          go_wp2
          repeat (go_quiet (fail); try go_wp2)
          go_meet
          case rel => exact ⟨_, (true), eqa, H', ⟨by first | omega | exact Nat.le_refl _⟩, ⟨pk BK174.out⟩, ⟨pk BK176.out⟩, ⟨pl2 HB.out GE174.out GE176.out⟩⟩
         ·rw [if_neg c20] at H
          have c20b0 : decide (((rd_T52 l0_0 a1).f0) ≤ ((rd_T52 l0_0 (ji17)).f0)) = false := decide_eq_false c20
          clear c20
          by_cases c24 : a1 = 0
          ·rw [if_pos c24] at H
           have c24b0 : (a1 == 0) = true := beq_iff_eq.mpr c24
           have c24b1 : (a1 != 0) = false := bne_eq_false_iff_eq.mpr c24
           clear c24
           by_cases c25 : ((rd_T52 l0_0 a1).f0) = 1
           ·rw [if_pos c25] at H
            have c25b0 : (((rd_T52 l0_0 a1).f0) == 1) = true := beq_iff_eq.mpr c25
            have c25b1 : (((rd_T52 l0_0 a1).f0) != 1) = false := bne_eq_false_iff_eq.mpr c25
            clear c25
            by_cases c26 : ((rd_T52 l0_0 a1).f1) = 0
            ·rw [if_pos c26] at H
             have c26b0 : (((rd_T52 l0_0 a1).f1) == 0) = true := beq_iff_eq.mpr c26
             have c26b1 : (((rd_T52 l0_0 a1).f1) != 0) = false := bne_eq_false_iff_eq.mpr c26
             clear c26
             by_cases c27 : ((rd_T52 l0_0 a1).f2).toList = ([] : List UInt8)
             ·rw [if_pos c27] at H
              have c27b0 : (((rd_T52 l0_0 a1).f2).toList == ([] : List UInt8)) = true := beq_iff_eq.mpr c27
              have c27b1 : (((rd_T52 l0_0 a1).f2).toList != ([] : List UInt8)) = false := bne_eq_false_iff_eq.mpr c27
              clear c27
              by_cases c28 : ((rd_T52 l0_0 a1).f3 = true)
              ·rw [if_pos c28] at H
               have c28b0 : (rd_T52 l0_0 a1).f3 = true := c28
               clear c28
               have H' := Aside0.mk H
               clear H
               have hnb29 := NB176_174.out
               have hnc29 := NB174_176.out
               obtain ⟨hcz30_0, hcz30_1, hcz30_2, hcz30_3, hcz30_4, hcz30_5, hcz30_6, hcz30_7, hcz30_8, hfz30_0, hfz30_1, hfz30_2, hfz30_3, hfz30_4, hfz30_5, hfz30_6, hfz30_7, hfz30_8⟩ := z9 BK176.out
               obtain ⟨hcz31_0, hcz31_1, hfz31_0, hfz31_1⟩ := z2 BK174.out
               have p177 : 0 ≤ ((ji17) : Int) := oda
               have q177 : (ji17) < (l0_0.length : Int) := oda
               obtain ⟨ad177, A177_7, c177_7, e177, hx177_0, hx177_1, hx177_2, hx177_3, hx177_4, hx177_5, hx177_6, hx177_7, hx177_8, hl177_7, hi177_7⟩ := at_T52 HR0_0.out (ji17) p177 q177
               obtain rfl : ad175 = ad177 := (by injection e177)
               replace hx177_0 := hbc HB.out hx177_0
               replace hx177_1 := hbc HB.out hx177_1
               replace hx177_2 := hbc HB.out hx177_2
               replace hx177_3 := hbc HB.out hx177_3
               replace hx177_4 := hbc HB.out hx177_4
               replace hx177_5 := hbc HB.out hx177_5
               replace hx177_6 := hbc HB.out hx177_6
               replace hx177_7 := hbc HB.out hx177_7
               replace hx177_8 := hbc HB.out hx177_8
               have HR177_7 := Aside0.mk hi177_7
               have HC177_7 := Aside0.mk hl177_7
               clear hi177_7 hl177_7
               replace p177 := eq_true p177
               replace q177 := eq_true q177
               go_wp2
               repeat (go_quiet (fail); try go_wp2)
               go_meet
               case rel => exact ⟨_, ((((rd_T52 l0_0 a1).f4) == 0)), eqa, H', ⟨by first | omega | exact Nat.le_refl _⟩, ⟨pk BK174.out⟩, ⟨pk BK176.out⟩, ⟨pl2 HB.out GE174.out GE176.out⟩⟩
              ·rw [if_neg c28] at H
               have c28b0 : (rd_T52 l0_0 a1).f3 = false := by simpa using c28
               clear c28
               have H' := Aside0.mk H
               clear H
               have hnb32 := NB176_174.out
               have hnc32 := NB174_176.out
               obtain ⟨hcz33_0, hcz33_1, hcz33_2, hcz33_3, hcz33_4, hcz33_5, hcz33_6, hcz33_7, hcz33_8, hfz33_0, hfz33_1, hfz33_2, hfz33_3, hfz33_4, hfz33_5, hfz33_6, hfz33_7, hfz33_8⟩ := z9 BK176.out
               obtain ⟨hcz34_0, hcz34_1, hfz34_0, hfz34_1⟩ := z2 BK174.out
               have p177 : 0 ≤ ((ji17) : Int) := oda
               have q177 : (ji17) < (l0_0.length : Int) := oda
               obtain ⟨ad177, A177_7, c177_7, e177, hx177_0, hx177_1, hx177_2, hx177_3, hx177_4, hx177_5, hx177_6, hx177_7, hx177_8, hl177_7, hi177_7⟩ := at_T52 HR0_0.out (ji17) p177 q177
               obtain rfl : ad175 = ad177 := (by injection e177)
               replace hx177_0 := hbc HB.out hx177_0
               replace hx177_1 := hbc HB.out hx177_1
               replace hx177_2 := hbc HB.out hx177_2
               replace hx177_3 := hbc HB.out hx177_3
               replace hx177_4 := hbc HB.out hx177_4
               replace hx177_5 := hbc HB.out hx177_5
               replace hx177_6 := hbc HB.out hx177_6
               replace hx177_7 := hbc HB.out hx177_7
               replace hx177_8 := hbc HB.out hx177_8
               have HR177_7 := Aside0.mk hi177_7
               have HC177_7 := Aside0.mk hl177_7
               clear hi177_7 hl177_7
               replace p177 := eq_true p177
               replace q177 := eq_true q177
               go_wp2
               repeat (go_quiet (fail); try go_wp2)
               go_meet
               case rel => exact ⟨_, (true), eqa, H', ⟨by first | omega | exact Nat.le_refl _⟩, ⟨pk BK174.out⟩, ⟨pk BK176.out⟩, ⟨pl2 HB.out GE174.out GE176.out⟩⟩
             ·rw [if_neg c27] at H
              have c27b0 : (((rd_T52 l0_0 a1).f2).toList == ([] : List UInt8)) = false := beq_eq_false_iff_ne.mpr c27
              have c27b1 : (((rd_T52 l0_0 a1).f2).toList != ([] : List UInt8)) = true := bne_iff_ne.mpr c27
              have H' := Aside0.mk H
              clear H
              have hnb35 := NB176_174.out
              have hnc35 := NB174_176.out
              obtain ⟨hcz36_0, hcz36_1, hcz36_2, hcz36_3, hcz36_4, hcz36_5, hcz36_6, hcz36_7, hcz36_8, hfz36_0, hfz36_1, hfz36_2, hfz36_3, hfz36_4, hfz36_5, hfz36_6, hfz36_7, hfz36_8⟩ := z9 BK176.out
              obtain ⟨hcz37_0, hcz37_1, hfz37_0, hfz37_1⟩ := z2 BK174.out
              have p177 : 0 ≤ ((ji17) : Int) := oda
              have q177 : (ji17) < (l0_0.length : Int) := oda
              obtain ⟨ad177, A177_7, c177_7, e177, hx177_0, hx177_1, hx177_2, hx177_3, hx177_4, hx177_5, hx177_6, hx177_7, hx177_8, hl177_7, hi177_7⟩ := at_T52 HR0_0.out (ji17) p177 q177
              obtain rfl : ad175 = ad177 := (by injection e177)
              replace hx177_0 := hbc HB.out hx177_0
              replace hx177_1 := hbc HB.out hx177_1
              replace hx177_2 := hbc HB.out hx177_2
              replace hx177_3 := hbc HB.out hx177_3
              replace hx177_4 := hbc HB.out hx177_4
              replace hx177_5 := hbc HB.out hx177_5
              replace hx177_6 := hbc HB.out hx177_6
              replace hx177_7 := hbc HB.out hx177_7
              replace hx177_8 := hbc HB.out hx177_8
              have HR177_7 := Aside0.mk hi177_7
              have HC177_7 := Aside0.mk hl177_7
              clear hi177_7 hl177_7
              replace p177 := eq_true p177
              replace q177 := eq_true q177
              go_wp2
              repeat (go_quiet (fail); try go_wp2)
              go_meet
              case rel => exact ⟨_, (true), eqa, H', ⟨by first | omega | exact Nat.le_refl _⟩, ⟨pk BK174.out⟩, ⟨pk BK176.out⟩, ⟨pl2 HB.out GE174.out GE176.out⟩⟩
            ·rw [if_neg c26] at H
             have c26b0 : (((rd_T52 l0_0 a1).f1) == 0) = false := beq_eq_false_iff_ne.mpr c26
             have c26b1 : (((rd_T52 l0_0 a1).f1) != 0) = true := bne_iff_ne.mpr c26
             have H' := Aside0.mk H
             clear H
             have hnb38 := NB176_174.out
             have hnc38 := NB174_176.out
             obtain ⟨hcz39_0, hcz39_1, hcz39_2, hcz39_3, hcz39_4, hcz39_5, hcz39_6, hcz39_7, hcz39_8, hfz39_0, hfz39_1, hfz39_2, hfz39_3, hfz39_4, hfz39_5, hfz39_6, hfz39_7, hfz39_8⟩ := z9 BK176.out
             obtain ⟨hcz40_0, hcz40_1, hfz40_0, hfz40_1⟩ := z2 BK174.out
             have p177 : 0 ≤ ((ji17) : Int) := oda
             have q177 : (ji17) < (l0_0.length : Int) := oda
             obtain ⟨ad177, A177_7, c177_7, e177, hx177_0, hx177_1, hx177_2, hx177_3, hx177_4, hx177_5, hx177_6, hx177_7, hx177_8, hl177_7, hi177_7⟩ := at_T52 HR0_0.out (ji17) p177 q177
             obtain rfl : ad175 = ad177 := (by injection e177)
             replace hx177_0 := hbc HB.out hx177_0
             replace hx177_1 := hbc HB.out hx177_1
             replace hx177_2 := hbc HB.out hx177_2
             replace hx177_3 := hbc HB.out hx177_3
             replace hx177_4 := hbc HB.out hx177_4
             replace hx177_5 := hbc HB.out hx177_5
             replace hx177_6 := hbc HB.out hx177_6
             replace hx177_7 := hbc HB.out hx177_7
             replace hx177_8 := hbc HB.out hx177_8
             have HR177_7 := Aside0.mk hi177_7
             have HC177_7 := Aside0.mk hl177_7
             clear hi177_7 hl177_7
             replace p177 := eq_true p177
             replace q177 := eq_true q177
             go_wp2
             repeat (go_quiet (fail); try go_wp2)
             go_meet
             case rel => exact ⟨_, (true), eqa, H', ⟨by first | omega | exact Nat.le_refl _⟩, ⟨pk BK174.out⟩, ⟨pk BK176.out⟩, ⟨pl2 HB.out GE174.out GE176.out⟩⟩
           ·rw [if_neg c25] at H
            have c25b0 : (((rd_T52 l0_0 a1).f0) == 1) = false := beq_eq_false_iff_ne.mpr c25
            have c25b1 : (((rd_T52 l0_0 a1).f0) != 1) = true := bne_iff_ne.mpr c25
            have H' := Aside0.mk H
            clear H
            have hnb41 := NB176_174.out
            have hnc41 := NB174_176.out
            obtain ⟨hcz42_0, hcz42_1, hcz42_2, hcz42_3, hcz42_4, hcz42_5, hcz42_6, hcz42_7, hcz42_8, hfz42_0, hfz42_1, hfz42_2, hfz42_3, hfz42_4, hfz42_5, hfz42_6, hfz42_7, hfz42_8⟩ := z9 BK176.out
            obtain ⟨hcz43_0, hcz43_1, hfz43_0, hfz43_1⟩ := z2 BK174.out
            have p177 : 0 ≤ ((ji17) : Int) := oda
            have q177 : (ji17) < (l0_0.length : Int) := oda
            obtain ⟨ad177, A177_7, c177_7, e177, hx177_0, hx177_1, hx177_2, hx177_3, hx177_4, hx177_5, hx177_6, hx177_7, hx177_8, hl177_7, hi177_7⟩ := at_T52 HR0_0.out (ji17) p177 q177
            obtain rfl : ad175 = ad177 := (by injection e177)
            replace hx177_0 := hbc HB.out hx177_0
            replace hx177_1 := hbc HB.out hx177_1
            replace hx177_2 := hbc HB.out hx177_2
            replace hx177_3 := hbc HB.out hx177_3
            replace hx177_4 := hbc HB.out hx177_4
            replace hx177_5 := hbc HB.out hx177_5
            replace hx177_6 := hbc HB.out hx177_6
            replace hx177_7 := hbc HB.out hx177_7
            replace hx177_8 := hbc HB.out hx177_8
            have HR177_7 := Aside0.mk hi177_7
            have HC177_7 := Aside0.mk hl177_7
            clear hi177_7 hl177_7
            replace p177 := eq_true p177
            replace q177 := eq_true q177
            go_wp2
            repeat (go_quiet (fail); try go_wp2)
            go_meet
            case rel => exact ⟨_, (true), eqa, H', ⟨by first | omega | exact Nat.le_refl _⟩, ⟨pk BK174.out⟩, ⟨pk BK176.out⟩, ⟨pl2 HB.out GE174.out GE176.out⟩⟩
          ·rw [if_neg c24] at H
           have c24b0 : (a1 == 0) = false := beq_eq_false_iff_ne.mpr c24
           have c24b1 : (a1 != 0) = true := bne_iff_ne.mpr c24
           have H' := Aside0.mk H
           clear H
           have hnb44 := NB176_174.out
           have hnc44 := NB174_176.out
           obtain ⟨hcz45_0, hcz45_1, hcz45_2, hcz45_3, hcz45_4, hcz45_5, hcz45_6, hcz45_7, hcz45_8, hfz45_0, hfz45_1, hfz45_2, hfz45_3, hfz45_4, hfz45_5, hfz45_6, hfz45_7, hfz45_8⟩ := z9 BK176.out
           obtain ⟨hcz46_0, hcz46_1, hfz46_0, hfz46_1⟩ := z2 BK174.out
           have p177 : 0 ≤ ((ji17) : Int) := oda
           have q177 : (ji17) < (l0_0.length : Int) := oda
           obtain ⟨ad177, A177_7, c177_7, e177, hx177_0, hx177_1, hx177_2, hx177_3, hx177_4, hx177_5, hx177_6, hx177_7, hx177_8, hl177_7, hi177_7⟩ := at_T52 HR0_0.out (ji17) p177 q177
           obtain rfl : ad175 = ad177 := (by injection e177)
           replace hx177_0 := hbc HB.out hx177_0
           replace hx177_1 := hbc HB.out hx177_1
           replace hx177_2 := hbc HB.out hx177_2
           replace hx177_3 := hbc HB.out hx177_3
           replace hx177_4 := hbc HB.out hx177_4
           replace hx177_5 := hbc HB.out hx177_5
           replace hx177_6 := hbc HB.out hx177_6
           replace hx177_7 := hbc HB.out hx177_7
           replace hx177_8 := hbc HB.out hx177_8
           have HR177_7 := Aside0.mk hi177_7
           have HC177_7 := Aside0.mk hl177_7
           clear hi177_7 hl177_7
           replace p177 := eq_true p177
           replace q177 := eq_true q177
           go_wp2
           repeat (go_quiet (fail); try go_wp2)
           go_meet
           case rel => exact ⟨_, (false), eqa, H', ⟨by first | omega | exact Nat.le_refl _⟩, ⟨pk BK174.out⟩, ⟨pk BK176.out⟩, ⟨pl2 HB.out GE174.out GE176.out⟩⟩
        ·rw [if_neg c19] at H
         exact absurd H (by simp)
       ·rw [if_neg c18] at H
        exact absurd H (by simp)
      ·rw [if_neg c16] at H
       have c16b0 : decide (0 < a1) = false := decide_eq_false c16
       clear c16
       by_cases c47 : a1 = 0
       ·rw [if_pos c47] at H
        have c47b0 : (a1 == 0) = true := beq_iff_eq.mpr c47
        have c47b1 : (a1 != 0) = false := bne_eq_false_iff_eq.mpr c47
        clear c47
        by_cases c48 : ((rd_T52 l0_0 a1).f0) = 1
        ·rw [if_pos c48] at H
         have c48b0 : (((rd_T52 l0_0 a1).f0) == 1) = true := beq_iff_eq.mpr c48
         have c48b1 : (((rd_T52 l0_0 a1).f0) != 1) = false := bne_eq_false_iff_eq.mpr c48
         clear c48
         by_cases c49 : ((rd_T52 l0_0 a1).f1) = 0
         ·rw [if_pos c49] at H
          have c49b0 : (((rd_T52 l0_0 a1).f1) == 0) = true := beq_iff_eq.mpr c49
          have c49b1 : (((rd_T52 l0_0 a1).f1) != 0) = false := bne_eq_false_iff_eq.mpr c49
          clear c49
          by_cases c50 : ((rd_T52 l0_0 a1).f2).toList = ([] : List UInt8)
          ·rw [if_pos c50] at H
           have c50b0 : (((rd_T52 l0_0 a1).f2).toList == ([] : List UInt8)) = true := beq_iff_eq.mpr c50
           have c50b1 : (((rd_T52 l0_0 a1).f2).toList != ([] : List UInt8)) = false := bne_eq_false_iff_eq.mpr c50
           clear c50
           by_cases c51 : ((rd_T52 l0_0 a1).f3 = true)
           ·rw [if_pos c51] at H
            have c51b0 : (rd_T52 l0_0 a1).f3 = true := c51
            clear c51
            have H' := Aside0.mk H
            clear H
            have hnb52 := NB176_174.out
            have hnc52 := NB174_176.out
            obtain ⟨hcz53_0, hcz53_1, hcz53_2, hcz53_3, hcz53_4, hcz53_5, hcz53_6, hcz53_7, hcz53_8, hfz53_0, hfz53_1, hfz53_2, hfz53_3, hfz53_4, hfz53_5, hfz53_6, hfz53_7, hfz53_8⟩ := z9 BK176.out
            obtain ⟨hcz54_0, hcz54_1, hfz54_0, hfz54_1⟩ := z2 BK174.out
            go_wp2
            repeat (go_quiet (fail); try go_wp2)
            go_meet
            case rel => exact ⟨_, ((((rd_T52 l0_0 a1).f4) == 0)), eqa, H', ⟨by first | omega | exact Nat.le_refl _⟩, ⟨pk BK174.out⟩, ⟨pk BK176.out⟩, ⟨pl2 HB.out GE174.out GE176.out⟩⟩
           ·rw [if_neg c51] at H
            have c51b0 : (rd_T52 l0_0 a1).f3 = false := by simpa using c51
            clear c51
            have H' := Aside0.mk H
            clear H
            have hnb55 := NB176_174.out
            have hnc55 := NB174_176.out
            obtain ⟨hcz56_0, hcz56_1, hcz56_2, hcz56_3, hcz56_4, hcz56_5, hcz56_6, hcz56_7, hcz56_8, hfz56_0, hfz56_1, hfz56_2, hfz56_3, hfz56_4, hfz56_5, hfz56_6, hfz56_7, hfz56_8⟩ := z9 BK176.out
            obtain ⟨hcz57_0, hcz57_1, hfz57_0, hfz57_1⟩ := z2 BK174.out
            go_wp2
            repeat (go_quiet (fail); try go_wp2)
            go_meet
            case rel => exact ⟨_, (true), eqa, H', ⟨by first | omega | exact Nat.le_refl _⟩, ⟨pk BK174.out⟩, ⟨pk BK176.out⟩, ⟨pl2 HB.out GE174.out GE176.out⟩⟩
          ·rw [if_neg c50] at H
           have c50b0 : (((rd_T52 l0_0 a1).f2).toList == ([] : List UInt8)) = false := beq_eq_false_iff_ne.mpr c50
           have c50b1 : (((rd_T52 l0_0 a1).f2).toList != ([] : List UInt8)) = true := bne_iff_ne.mpr c50
           have H' := Aside0.mk H
           clear H
           have hnb58 := NB176_174.out
           have hnc58 := NB174_176.out
           obtain ⟨hcz59_0, hcz59_1, hcz59_2, hcz59_3, hcz59_4, hcz59_5, hcz59_6, hcz59_7, hcz59_8, hfz59_0, hfz59_1, hfz59_2, hfz59_3, hfz59_4, hfz59_5, hfz59_6, hfz59_7, hfz59_8⟩ := z9 BK176.out
           obtain ⟨hcz60_0, hcz60_1, hfz60_0, hfz60_1⟩ := z2 BK174.out
           go_wp2
           repeat (go_quiet (fail); try go_wp2)
           go_meet
           case rel => exact ⟨_, (true), eqa, H', ⟨by first | omega | exact Nat.le_refl _⟩, ⟨pk BK174.out⟩, ⟨pk BK176.out⟩, ⟨pl2 HB.out GE174.out GE176.out⟩⟩
         ·rw [if_neg c49] at H
          have c49b0 : (((rd_T52 l0_0 a1).f1) == 0) = false := beq_eq_false_iff_ne.mpr c49
          have c49b1 : (((rd_T52 l0_0 a1).f1) != 0) = true := bne_iff_ne.mpr c49
          have H' := Aside0.mk H
          clear H
          have hnb61 := NB176_174.out
          have hnc61 := NB174_176.out
          obtain ⟨hcz62_0, hcz62_1, hcz62_2, hcz62_3, hcz62_4, hcz62_5, hcz62_6, hcz62_7, hcz62_8, hfz62_0, hfz62_1, hfz62_2, hfz62_3, hfz62_4, hfz62_5, hfz62_6, hfz62_7, hfz62_8⟩ := z9 BK176.out
          obtain ⟨hcz63_0, hcz63_1, hfz63_0, hfz63_1⟩ := z2 BK174.out
          go_wp2
          repeat (go_quiet (fail); try go_wp2)
          go_meet
          case rel => exact ⟨_, (true), eqa, H', ⟨by first | omega | exact Nat.le_refl _⟩, ⟨pk BK174.out⟩, ⟨pk BK176.out⟩, ⟨pl2 HB.out GE174.out GE176.out⟩⟩
        ·rw [if_neg c48] at H
         have c48b0 : (((rd_T52 l0_0 a1).f0) == 1) = false := beq_eq_false_iff_ne.mpr c48
         have c48b1 : (((rd_T52 l0_0 a1).f0) != 1) = true := bne_iff_ne.mpr c48
         have H' := Aside0.mk H
         clear H
         have hnb64 := NB176_174.out
         have hnc64 := NB174_176.out
         obtain ⟨hcz65_0, hcz65_1, hcz65_2, hcz65_3, hcz65_4, hcz65_5, hcz65_6, hcz65_7, hcz65_8, hfz65_0, hfz65_1, hfz65_2, hfz65_3, hfz65_4, hfz65_5, hfz65_6, hfz65_7, hfz65_8⟩ := z9 BK176.out
         obtain ⟨hcz66_0, hcz66_1, hfz66_0, hfz66_1⟩ := z2 BK174.out
         go_wp2
         repeat (go_quiet (fail); try go_wp2)
         go_meet
         case rel => exact ⟨_, (true), eqa, H', ⟨by first | omega | exact Nat.le_refl _⟩, ⟨pk BK174.out⟩, ⟨pk BK176.out⟩, ⟨pl2 HB.out GE174.out GE176.out⟩⟩
       ·rw [if_neg c47] at H
        have c47b0 : (a1 == 0) = false := beq_eq_false_iff_ne.mpr c47
        have c47b1 : (a1 != 0) = true := bne_iff_ne.mpr c47
        have H' := Aside0.mk H
        clear H
        have hnb67 := NB176_174.out
        have hnc67 := NB174_176.out
        obtain ⟨hcz68_0, hcz68_1, hcz68_2, hcz68_3, hcz68_4, hcz68_5, hcz68_6, hcz68_7, hcz68_8, hfz68_0, hfz68_1, hfz68_2, hfz68_3, hfz68_4, hfz68_5, hfz68_6, hfz68_7, hfz68_8⟩ := z9 BK176.out
        obtain ⟨hcz69_0, hcz69_1, hfz69_0, hfz69_1⟩ := z2 BK174.out
        go_wp2
        repeat (go_quiet (fail); try go_wp2)
        go_meet
        case rel => exact ⟨_, (false), eqa, H', ⟨by first | omega | exact Nat.le_refl _⟩, ⟨pk BK174.out⟩, ⟨pk BK176.out⟩, ⟨pl2 HB.out GE174.out GE176.out⟩⟩
    case rest => as_aux_lemma =>
     clear HC5
     obtain ⟨kq, x65_4, rfl, HA, HJ4, BK174, BK176, HB⟩ := hcut
     cases kq with
     | zero => exact absurd HA.out (by simp [spec_l10Node.j0])
     | succ kj4 =>
      have H := HA.out
      clear HA
      simp only [spec_l10Node.j0] at H
      by_cases c70 : x65_4 = true
      ·subst c70
       have H1 : (some false) = some r := by rw [if_pos rfl] at H; exact H
       clear H
       have H := H1
       clear H1
       obtain rfl := Option.some.inj H
       go_wp2
       repeat (go_quiet (fail); try go_wp2)
       go_ret
       exact ⟨erq, pl2 HB.out GE174.out GE176.out⟩
      ·replace c70 := Bool.eq_false_iff.mpr c70
       subst c70
       have H1 : (if ((rd_T52 l0_0 a1).f3) = true then ((spec_l01In.f ((rd_T52 l0_0 a1).f4) 0 3).bind fun t178 => (if t178 = true then ((spec_l01In.f ((rd_T52 l0_0 a1).f5) 0 1000).bind fun t179 => (if t179 = true then (if ((rd_T52 l0_0 a1).f6) = 0 then (if (((rd_T52 l0_0 a1).f7).length : Int) > 0 then (spec_l10Node.j1 kj4 a1 true l0_0 a0_1 ((rd_T52 l0_0 a1).f0) ((rd_T52 l0_0 a1).f1) ((rd_T52 l0_0 a1).f2) ((rd_T52 l0_0 a1).f3) ((rd_T52 l0_0 a1).f4) ((rd_T52 l0_0 a1).f5) ((rd_T52 l0_0 a1).f6) ((rd_T52 l0_0 a1).f7) ((rd_T52 l0_0 a1).f8)) else (if ((rd_T52 l0_0 a1).f8) = 0 then (spec_l10Node.j1 kj4 a1 false l0_0 a0_1 ((rd_T52 l0_0 a1).f0) ((rd_T52 l0_0 a1).f1) ((rd_T52 l0_0 a1).f2) ((rd_T52 l0_0 a1).f3) ((rd_T52 l0_0 a1).f4) ((rd_T52 l0_0 a1).f5) ((rd_T52 l0_0 a1).f6) ((rd_T52 l0_0 a1).f7) ((rd_T52 l0_0 a1).f8)) else (spec_l10Node.j1 kj4 a1 true l0_0 a0_1 ((rd_T52 l0_0 a1).f0) ((rd_T52 l0_0 a1).f1) ((rd_T52 l0_0 a1).f2) ((rd_T52 l0_0 a1).f3) ((rd_T52 l0_0 a1).f4) ((rd_T52 l0_0 a1).f5) ((rd_T52 l0_0 a1).f6) ((rd_T52 l0_0 a1).f7) ((rd_T52 l0_0 a1).f8)))) else (spec_l10Node.j1 kj4 a1 true l0_0 a0_1 ((rd_T52 l0_0 a1).f0) ((rd_T52 l0_0 a1).f1) ((rd_T52 l0_0 a1).f2) ((rd_T52 l0_0 a1).f3) ((rd_T52 l0_0 a1).f4) ((rd_T52 l0_0 a1).f5) ((rd_T52 l0_0 a1).f6) ((rd_T52 l0_0 a1).f7) ((rd_T52 l0_0 a1).f8))) else (spec_l10Node.j1 kj4 a1 true l0_0 a0_1 ((rd_T52 l0_0 a1).f0) ((rd_T52 l0_0 a1).f1) ((rd_T52 l0_0 a1).f2) ((rd_T52 l0_0 a1).f3) ((rd_T52 l0_0 a1).f4) ((rd_T52 l0_0 a1).f5) ((rd_T52 l0_0 a1).f6) ((rd_T52 l0_0 a1).f7) ((rd_T52 l0_0 a1).f8)))) else (spec_l10Node.j1 kj4 a1 true l0_0 a0_1 ((rd_T52 l0_0 a1).f0) ((rd_T52 l0_0 a1).f1) ((rd_T52 l0_0 a1).f2) ((rd_T52 l0_0 a1).f3) ((rd_T52 l0_0 a1).f4) ((rd_T52 l0_0 a1).f5) ((rd_T52 l0_0 a1).f6) ((rd_T52 l0_0 a1).f7) ((rd_T52 l0_0 a1).f8)))) else ((spec_l10File.f kj4 ((rd_T52 l0_0 a1).f0) ((rd_T52 l0_0 a1).f1) ((rd_T52 l0_0 a1).f2) ((rd_T52 l0_0 a1).f3) ((rd_T52 l0_0 a1).f4) ((rd_T52 l0_0 a1).f5) ((rd_T52 l0_0 a1).f6) ((rd_T52 l0_0 a1).f7) ((rd_T52 l0_0 a1).f8)).bind fun t180 => (spec_l10Node.j1 kj4 a1 (!t180) l0_0 a0_1 ((rd_T52 l0_0 a1).f0) ((rd_T52 l0_0 a1).f1) ((rd_T52 l0_0 a1).f2) ((rd_T52 l0_0 a1).f3) ((rd_T52 l0_0 a1).f4) ((rd_T52 l0_0 a1).f5) ((rd_T52 l0_0 a1).f6) ((rd_T52 l0_0 a1).f7) ((rd_T52 l0_0 a1).f8)))) = some r := by rw [if_neg (show ¬ (false = true) by decide)] at H; exact H
       clear H
       have H := H1
       clear H1
       have HC71 := Aside0.mk H
       clear H
       go_upto_region 4 with (fail)
       repeat (go_quiet (fail); go_upto_region 4 with (fail))
       go_cut [105] (fun v105 wc => ∃ (kq : Nat) (x105_70 : Bool), v105 = .bool x105_70 ∧ Aside0 (spec_l10Node.j1 kq a1 x105_70 l0_0 a0_1 ((rd_T52 l0_0 a1).f0) ((rd_T52 l0_0 a1).f1) ((rd_T52 l0_0 a1).f2) ((rd_T52 l0_0 a1).f3) ((rd_T52 l0_0 a1).f4) ((rd_T52 l0_0 a1).f5) ((rd_T52 l0_0 a1).f6) ((rd_T52 l0_0 a1).f7) ((rd_T52 l0_0 a1).f8) = some r) ∧ Aside0 (kq ≤ kj4) ∧ Aside0 (wc.heap[gb174]? = some (.cells #[(.slice (some ad175) l0_0.length c0_0), .int .i64 a0_1] 29 (0, 0))) ∧ Aside0 (wc.heap[gb176]? = some (.cells #[.int .i64 ((rd_T52 l0_0 a1).f0), .int .i64 ((rd_T52 l0_0 a1).f1), .string ((rd_T52 l0_0 a1).f2), .bool ((rd_T52 l0_0 a1).f3), .int .i64 ((rd_T52 l0_0 a1).f4), .int .i64 ((rd_T52 l0_0 a1).f5), .int .i64 ((rd_T52 l0_0 a1).f6), (.slice A175_7 ((rd_T52 l0_0 a1).f7).length c175_7), .int .i64 ((rd_T52 l0_0 a1).f8)] 52 (0, 0))) ∧ Aside0 (Below w.heap.size w wc))
       case first => as_aux_lemma =>
        have H := HC71.out
        clear HC71
        by_cases c72 : ((rd_T52 l0_0 a1).f3) = true
        ·rw [if_pos c72] at H
         have c72b0 : ((rd_T52 l0_0 a1).f3) = true := c72
         clear c72
         (first | rw [c72b0] | (simp only [i64_w, i32_w]; rw [c72b0]) | skip)
         replace H := Option.bind_eq_some_iff.mp H
         obtain ⟨t178, A730, H⟩ := H
         replace H : (if t178 = true then ((spec_l01In.f ((rd_T52 l0_0 a1).f5) 0 1000).bind fun t179 => (if t179 = true then (if ((rd_T52 l0_0 a1).f6) = 0 then (if (((rd_T52 l0_0 a1).f7).length : Int) > 0 then (spec_l10Node.j1 kj4 a1 true l0_0 a0_1 ((rd_T52 l0_0 a1).f0) ((rd_T52 l0_0 a1).f1) ((rd_T52 l0_0 a1).f2) ((rd_T52 l0_0 a1).f3) ((rd_T52 l0_0 a1).f4) ((rd_T52 l0_0 a1).f5) ((rd_T52 l0_0 a1).f6) ((rd_T52 l0_0 a1).f7) ((rd_T52 l0_0 a1).f8)) else (if ((rd_T52 l0_0 a1).f8) = 0 then (spec_l10Node.j1 kj4 a1 false l0_0 a0_1 ((rd_T52 l0_0 a1).f0) ((rd_T52 l0_0 a1).f1) ((rd_T52 l0_0 a1).f2) ((rd_T52 l0_0 a1).f3) ((rd_T52 l0_0 a1).f4) ((rd_T52 l0_0 a1).f5) ((rd_T52 l0_0 a1).f6) ((rd_T52 l0_0 a1).f7) ((rd_T52 l0_0 a1).f8)) else (spec_l10Node.j1 kj4 a1 true l0_0 a0_1 ((rd_T52 l0_0 a1).f0) ((rd_T52 l0_0 a1).f1) ((rd_T52 l0_0 a1).f2) ((rd_T52 l0_0 a1).f3) ((rd_T52 l0_0 a1).f4) ((rd_T52 l0_0 a1).f5) ((rd_T52 l0_0 a1).f6) ((rd_T52 l0_0 a1).f7) ((rd_T52 l0_0 a1).f8)))) else (spec_l10Node.j1 kj4 a1 true l0_0 a0_1 ((rd_T52 l0_0 a1).f0) ((rd_T52 l0_0 a1).f1) ((rd_T52 l0_0 a1).f2) ((rd_T52 l0_0 a1).f3) ((rd_T52 l0_0 a1).f4) ((rd_T52 l0_0 a1).f5) ((rd_T52 l0_0 a1).f6) ((rd_T52 l0_0 a1).f7) ((rd_T52 l0_0 a1).f8))) else (spec_l10Node.j1 kj4 a1 true l0_0 a0_1 ((rd_T52 l0_0 a1).f0) ((rd_T52 l0_0 a1).f1) ((rd_T52 l0_0 a1).f2) ((rd_T52 l0_0 a1).f3) ((rd_T52 l0_0 a1).f4) ((rd_T52 l0_0 a1).f5) ((rd_T52 l0_0 a1).f6) ((rd_T52 l0_0 a1).f7) ((rd_T52 l0_0 a1).f8)))) else (spec_l10Node.j1 kj4 a1 true l0_0 a0_1 ((rd_T52 l0_0 a1).f0) ((rd_T52 l0_0 a1).f1) ((rd_T52 l0_0 a1).f2) ((rd_T52 l0_0 a1).f3) ((rd_T52 l0_0 a1).f4) ((rd_T52 l0_0 a1).f5) ((rd_T52 l0_0 a1).f6) ((rd_T52 l0_0 a1).f7) ((rd_T52 l0_0 a1).f8))) = some r := H
         have A73 := Aside0.mk A730
         clear A730
         by_cases c74 : t178 = true
         ·subst c74
          have H1 : ((spec_l01In.f ((rd_T52 l0_0 a1).f5) 0 1000).bind fun t179 => (if t179 = true then (if ((rd_T52 l0_0 a1).f6) = 0 then (if (((rd_T52 l0_0 a1).f7).length : Int) > 0 then (spec_l10Node.j1 kj4 a1 true l0_0 a0_1 ((rd_T52 l0_0 a1).f0) ((rd_T52 l0_0 a1).f1) ((rd_T52 l0_0 a1).f2) ((rd_T52 l0_0 a1).f3) ((rd_T52 l0_0 a1).f4) ((rd_T52 l0_0 a1).f5) ((rd_T52 l0_0 a1).f6) ((rd_T52 l0_0 a1).f7) ((rd_T52 l0_0 a1).f8)) else (if ((rd_T52 l0_0 a1).f8) = 0 then (spec_l10Node.j1 kj4 a1 false l0_0 a0_1 ((rd_T52 l0_0 a1).f0) ((rd_T52 l0_0 a1).f1) ((rd_T52 l0_0 a1).f2) ((rd_T52 l0_0 a1).f3) ((rd_T52 l0_0 a1).f4) ((rd_T52 l0_0 a1).f5) ((rd_T52 l0_0 a1).f6) ((rd_T52 l0_0 a1).f7) ((rd_T52 l0_0 a1).f8)) else (spec_l10Node.j1 kj4 a1 true l0_0 a0_1 ((rd_T52 l0_0 a1).f0) ((rd_T52 l0_0 a1).f1) ((rd_T52 l0_0 a1).f2) ((rd_T52 l0_0 a1).f3) ((rd_T52 l0_0 a1).f4) ((rd_T52 l0_0 a1).f5) ((rd_T52 l0_0 a1).f6) ((rd_T52 l0_0 a1).f7) ((rd_T52 l0_0 a1).f8)))) else (spec_l10Node.j1 kj4 a1 true l0_0 a0_1 ((rd_T52 l0_0 a1).f0) ((rd_T52 l0_0 a1).f1) ((rd_T52 l0_0 a1).f2) ((rd_T52 l0_0 a1).f3) ((rd_T52 l0_0 a1).f4) ((rd_T52 l0_0 a1).f5) ((rd_T52 l0_0 a1).f6) ((rd_T52 l0_0 a1).f7) ((rd_T52 l0_0 a1).f8))) else (spec_l10Node.j1 kj4 a1 true l0_0 a0_1 ((rd_T52 l0_0 a1).f0) ((rd_T52 l0_0 a1).f1) ((rd_T52 l0_0 a1).f2) ((rd_T52 l0_0 a1).f3) ((rd_T52 l0_0 a1).f4) ((rd_T52 l0_0 a1).f5) ((rd_T52 l0_0 a1).f6) ((rd_T52 l0_0 a1).f7) ((rd_T52 l0_0 a1).f8)))) = some r := by rw [if_pos rfl] at H; exact H
          clear H
          have H := H1
          clear H1
          replace H := Option.bind_eq_some_iff.mp H
          obtain ⟨t179, A750, H⟩ := H
          replace H : (if t179 = true then (if ((rd_T52 l0_0 a1).f6) = 0 then (if (((rd_T52 l0_0 a1).f7).length : Int) > 0 then (spec_l10Node.j1 kj4 a1 true l0_0 a0_1 ((rd_T52 l0_0 a1).f0) ((rd_T52 l0_0 a1).f1) ((rd_T52 l0_0 a1).f2) ((rd_T52 l0_0 a1).f3) ((rd_T52 l0_0 a1).f4) ((rd_T52 l0_0 a1).f5) ((rd_T52 l0_0 a1).f6) ((rd_T52 l0_0 a1).f7) ((rd_T52 l0_0 a1).f8)) else (if ((rd_T52 l0_0 a1).f8) = 0 then (spec_l10Node.j1 kj4 a1 false l0_0 a0_1 ((rd_T52 l0_0 a1).f0) ((rd_T52 l0_0 a1).f1) ((rd_T52 l0_0 a1).f2) ((rd_T52 l0_0 a1).f3) ((rd_T52 l0_0 a1).f4) ((rd_T52 l0_0 a1).f5) ((rd_T52 l0_0 a1).f6) ((rd_T52 l0_0 a1).f7) ((rd_T52 l0_0 a1).f8)) else (spec_l10Node.j1 kj4 a1 true l0_0 a0_1 ((rd_T52 l0_0 a1).f0) ((rd_T52 l0_0 a1).f1) ((rd_T52 l0_0 a1).f2) ((rd_T52 l0_0 a1).f3) ((rd_T52 l0_0 a1).f4) ((rd_T52 l0_0 a1).f5) ((rd_T52 l0_0 a1).f6) ((rd_T52 l0_0 a1).f7) ((rd_T52 l0_0 a1).f8)))) else (spec_l10Node.j1 kj4 a1 true l0_0 a0_1 ((rd_T52 l0_0 a1).f0) ((rd_T52 l0_0 a1).f1) ((rd_T52 l0_0 a1).f2) ((rd_T52 l0_0 a1).f3) ((rd_T52 l0_0 a1).f4) ((rd_T52 l0_0 a1).f5) ((rd_T52 l0_0 a1).f6) ((rd_T52 l0_0 a1).f7) ((rd_T52 l0_0 a1).f8))) else (spec_l10Node.j1 kj4 a1 true l0_0 a0_1 ((rd_T52 l0_0 a1).f0) ((rd_T52 l0_0 a1).f1) ((rd_T52 l0_0 a1).f2) ((rd_T52 l0_0 a1).f3) ((rd_T52 l0_0 a1).f4) ((rd_T52 l0_0 a1).f5) ((rd_T52 l0_0 a1).f6) ((rd_T52 l0_0 a1).f7) ((rd_T52 l0_0 a1).f8))) = some r := H
          have A75 := Aside0.mk A750
          clear A750
          by_cases c76 : t179 = true
          ·subst c76
           have H1 : (if ((rd_T52 l0_0 a1).f6) = 0 then (if (((rd_T52 l0_0 a1).f7).length : Int) > 0 then (spec_l10Node.j1 kj4 a1 true l0_0 a0_1 ((rd_T52 l0_0 a1).f0) ((rd_T52 l0_0 a1).f1) ((rd_T52 l0_0 a1).f2) ((rd_T52 l0_0 a1).f3) ((rd_T52 l0_0 a1).f4) ((rd_T52 l0_0 a1).f5) ((rd_T52 l0_0 a1).f6) ((rd_T52 l0_0 a1).f7) ((rd_T52 l0_0 a1).f8)) else (if ((rd_T52 l0_0 a1).f8) = 0 then (spec_l10Node.j1 kj4 a1 false l0_0 a0_1 ((rd_T52 l0_0 a1).f0) ((rd_T52 l0_0 a1).f1) ((rd_T52 l0_0 a1).f2) ((rd_T52 l0_0 a1).f3) ((rd_T52 l0_0 a1).f4) ((rd_T52 l0_0 a1).f5) ((rd_T52 l0_0 a1).f6) ((rd_T52 l0_0 a1).f7) ((rd_T52 l0_0 a1).f8)) else (spec_l10Node.j1 kj4 a1 true l0_0 a0_1 ((rd_T52 l0_0 a1).f0) ((rd_T52 l0_0 a1).f1) ((rd_T52 l0_0 a1).f2) ((rd_T52 l0_0 a1).f3) ((rd_T52 l0_0 a1).f4) ((rd_T52 l0_0 a1).f5) ((rd_T52 l0_0 a1).f6) ((rd_T52 l0_0 a1).f7) ((rd_T52 l0_0 a1).f8)))) else (spec_l10Node.j1 kj4 a1 true l0_0 a0_1 ((rd_T52 l0_0 a1).f0) ((rd_T52 l0_0 a1).f1) ((rd_T52 l0_0 a1).f2) ((rd_T52 l0_0 a1).f3) ((rd_T52 l0_0 a1).f4) ((rd_T52 l0_0 a1).f5) ((rd_T52 l0_0 a1).f6) ((rd_T52 l0_0 a1).f7) ((rd_T52 l0_0 a1).f8))) = some r := by rw [if_pos rfl] at H; exact H
           clear H
           have H := H1
           clear H1
           by_cases c77 : ((rd_T52 l0_0 a1).f6) = 0
           ·rw [if_pos c77] at H
            have c77b0 : (((rd_T52 l0_0 a1).f6) == 0) = true := beq_iff_eq.mpr c77
            have c77b1 : (((rd_T52 l0_0 a1).f6) != 0) = false := bne_eq_false_iff_eq.mpr c77
            clear c77
            by_cases c78 : (((rd_T52 l0_0 a1).f7).length : Int) > 0
            ·rw [if_pos c78] at H
             have c78b0 : decide (0 < (((rd_T52 l0_0 a1).f7).length : Int)) = true := decide_eq_true c78
             have c78b1 : decide (0 < ((rd_T52 l0_0 a1).f7).length) = true := decide_eq_true (by omega)
             clear c78
             have H' := Aside0.mk H
             clear H
             have hnb79 := NB176_174.out
             have hnc79 := NB174_176.out
             obtain ⟨hcz80_0, hcz80_1, hcz80_2, hcz80_3, hcz80_4, hcz80_5, hcz80_6, hcz80_7, hcz80_8, hfz80_0, hfz80_1, hfz80_2, hfz80_3, hfz80_4, hfz80_5, hfz80_6, hfz80_7, hfz80_8⟩ := z9 BK176.out
             go_wp2_with (first | (go_at_call 38; (with_reducible refine (spec_l01In.calls ((rd_T52 l0_0 a1).f4) 0 3 true _ A73.out).mono ?_); rintro e w' ⟨rfl, ⟨nd, rfl⟩⟩; (try exact dw)) | (go_at_call 38; (with_reducible refine (spec_l01In.calls ((rd_T52 l0_0 a1).f5) 0 1000 true _ A75.out).mono ?_); rintro e w' ⟨rfl, ⟨nd, rfl⟩⟩; (try exact dw)))
             repeat (go_quiet (first | (go_at_call 38; (with_reducible refine (spec_l01In.calls ((rd_T52 l0_0 a1).f4) 0 3 true _ A73.out).mono ?_); rintro e w' ⟨rfl, ⟨nd, rfl⟩⟩; (try exact dw)) | (go_at_call 38; (with_reducible refine (spec_l01In.calls ((rd_T52 l0_0 a1).f5) 0 1000 true _ A75.out).mono ?_); rintro e w' ⟨rfl, ⟨nd, rfl⟩⟩; (try exact dw))); try go_wp2_with (first | (go_at_call 38; (with_reducible refine (spec_l01In.calls ((rd_T52 l0_0 a1).f4) 0 3 true _ A73.out).mono ?_); rintro e w' ⟨rfl, ⟨nd, rfl⟩⟩; (try exact dw)) | (go_at_call 38; (with_reducible refine (spec_l01In.calls ((rd_T52 l0_0 a1).f5) 0 1000 true _ A75.out).mono ?_); rintro e w' ⟨rfl, ⟨nd, rfl⟩⟩; (try exact dw))))
             go_meet
             case rel => exact ⟨_, (true), eqa, H', ⟨by have := HJ4.out; first | omega | exact Nat.le_refl _⟩, ⟨pk BK174.out⟩, ⟨pk BK176.out⟩, ⟨pl2 HB.out GE174.out GE176.out⟩⟩
            ·rw [if_neg c78] at H
             have c78b0 : decide (0 < (((rd_T52 l0_0 a1).f7).length : Int)) = false := decide_eq_false c78
             have c78b1 : decide (0 < ((rd_T52 l0_0 a1).f7).length) = false := decide_eq_false (by omega)
             clear c78
             by_cases c81 : ((rd_T52 l0_0 a1).f8) = 0
             ·rw [if_pos c81] at H
              have c81b0 : (((rd_T52 l0_0 a1).f8) == 0) = true := beq_iff_eq.mpr c81
              have c81b1 : (((rd_T52 l0_0 a1).f8) != 0) = false := bne_eq_false_iff_eq.mpr c81
              clear c81
              have H' := Aside0.mk H
              clear H
              have hnb82 := NB176_174.out
              have hnc82 := NB174_176.out
              obtain ⟨hcz83_0, hcz83_1, hcz83_2, hcz83_3, hcz83_4, hcz83_5, hcz83_6, hcz83_7, hcz83_8, hfz83_0, hfz83_1, hfz83_2, hfz83_3, hfz83_4, hfz83_5, hfz83_6, hfz83_7, hfz83_8⟩ := z9 BK176.out
              go_wp2_with (first | (go_at_call 38; (with_reducible refine (spec_l01In.calls ((rd_T52 l0_0 a1).f4) 0 3 true _ A73.out).mono ?_); rintro e w' ⟨rfl, ⟨nd, rfl⟩⟩; (try exact dw)) | (go_at_call 38; (with_reducible refine (spec_l01In.calls ((rd_T52 l0_0 a1).f5) 0 1000 true _ A75.out).mono ?_); rintro e w' ⟨rfl, ⟨nd, rfl⟩⟩; (try exact dw)))
              repeat (go_quiet (first | (go_at_call 38; (with_reducible refine (spec_l01In.calls ((rd_T52 l0_0 a1).f4) 0 3 true _ A73.out).mono ?_); rintro e w' ⟨rfl, ⟨nd, rfl⟩⟩; (try exact dw)) | (go_at_call 38; (with_reducible refine (spec_l01In.calls ((rd_T52 l0_0 a1).f5) 0 1000 true _ A75.out).mono ?_); rintro e w' ⟨rfl, ⟨nd, rfl⟩⟩; (try exact dw))); try go_wp2_with (first | (go_at_call 38; (with_reducible refine (spec_l01In.calls ((rd_T52 l0_0 a1).f4) 0 3 true _ A73.out).mono ?_); rintro e w' ⟨rfl, ⟨nd, rfl⟩⟩; (try exact dw)) | (go_at_call 38; (with_reducible refine (spec_l01In.calls ((rd_T52 l0_0 a1).f5) 0 1000 true _ A75.out).mono ?_); rintro e w' ⟨rfl, ⟨nd, rfl⟩⟩; (try exact dw))))
              go_meet
              case rel => exact ⟨_, (false), eqa, H', ⟨by have := HJ4.out; first | omega | exact Nat.le_refl _⟩, ⟨pk BK174.out⟩, ⟨pk BK176.out⟩, ⟨pl2 HB.out GE174.out GE176.out⟩⟩
             ·rw [if_neg c81] at H
              have c81b0 : (((rd_T52 l0_0 a1).f8) == 0) = false := beq_eq_false_iff_ne.mpr c81
              have c81b1 : (((rd_T52 l0_0 a1).f8) != 0) = true := bne_iff_ne.mpr c81
              have H' := Aside0.mk H
              clear H
              have hnb84 := NB176_174.out
              have hnc84 := NB174_176.out
              obtain ⟨hcz85_0, hcz85_1, hcz85_2, hcz85_3, hcz85_4, hcz85_5, hcz85_6, hcz85_7, hcz85_8, hfz85_0, hfz85_1, hfz85_2, hfz85_3, hfz85_4, hfz85_5, hfz85_6, hfz85_7, hfz85_8⟩ := z9 BK176.out
              go_wp2_with (first | (go_at_call 38; (with_reducible refine (spec_l01In.calls ((rd_T52 l0_0 a1).f4) 0 3 true _ A73.out).mono ?_); rintro e w' ⟨rfl, ⟨nd, rfl⟩⟩; (try exact dw)) | (go_at_call 38; (with_reducible refine (spec_l01In.calls ((rd_T52 l0_0 a1).f5) 0 1000 true _ A75.out).mono ?_); rintro e w' ⟨rfl, ⟨nd, rfl⟩⟩; (try exact dw)))
              repeat (go_quiet (first | (go_at_call 38; (with_reducible refine (spec_l01In.calls ((rd_T52 l0_0 a1).f4) 0 3 true _ A73.out).mono ?_); rintro e w' ⟨rfl, ⟨nd, rfl⟩⟩; (try exact dw)) | (go_at_call 38; (with_reducible refine (spec_l01In.calls ((rd_T52 l0_0 a1).f5) 0 1000 true _ A75.out).mono ?_); rintro e w' ⟨rfl, ⟨nd, rfl⟩⟩; (try exact dw))); try go_wp2_with (first | (go_at_call 38; (with_reducible refine (spec_l01In.calls ((rd_T52 l0_0 a1).f4) 0 3 true _ A73.out).mono ?_); rintro e w' ⟨rfl, ⟨nd, rfl⟩⟩; (try exact dw)) | (go_at_call 38; (with_reducible refine (spec_l01In.calls ((rd_T52 l0_0 a1).f5) 0 1000 true _ A75.out).mono ?_); rintro e w' ⟨rfl, ⟨nd, rfl⟩⟩; (try exact dw))))
              go_meet
              case rel => exact ⟨_, (true), eqa, H', ⟨by have := HJ4.out; first | omega | exact Nat.le_refl _⟩, ⟨pk BK174.out⟩, ⟨pk BK176.out⟩, ⟨pl2 HB.out GE174.out GE176.out⟩⟩
           ·rw [if_neg c77] at H
            have c77b0 : (((rd_T52 l0_0 a1).f6) == 0) = false := beq_eq_false_iff_ne.mpr c77
            have c77b1 : (((rd_T52 l0_0 a1).f6) != 0) = true := bne_iff_ne.mpr c77
            have H' := Aside0.mk H
            clear H
            have hnb86 := NB176_174.out
            have hnc86 := NB174_176.out
            obtain ⟨hcz87_0, hcz87_1, hcz87_2, hcz87_3, hcz87_4, hcz87_5, hcz87_6, hcz87_7, hcz87_8, hfz87_0, hfz87_1, hfz87_2, hfz87_3, hfz87_4, hfz87_5, hfz87_6, hfz87_7, hfz87_8⟩ := z9 BK176.out
            go_wp2_with (first | (go_at_call 38; (with_reducible refine (spec_l01In.calls ((rd_T52 l0_0 a1).f4) 0 3 true _ A73.out).mono ?_); rintro e w' ⟨rfl, ⟨nd, rfl⟩⟩; (try exact dw)) | (go_at_call 38; (with_reducible refine (spec_l01In.calls ((rd_T52 l0_0 a1).f5) 0 1000 true _ A75.out).mono ?_); rintro e w' ⟨rfl, ⟨nd, rfl⟩⟩; (try exact dw)))
            repeat (go_quiet (first | (go_at_call 38; (with_reducible refine (spec_l01In.calls ((rd_T52 l0_0 a1).f4) 0 3 true _ A73.out).mono ?_); rintro e w' ⟨rfl, ⟨nd, rfl⟩⟩; (try exact dw)) | (go_at_call 38; (with_reducible refine (spec_l01In.calls ((rd_T52 l0_0 a1).f5) 0 1000 true _ A75.out).mono ?_); rintro e w' ⟨rfl, ⟨nd, rfl⟩⟩; (try exact dw))); try go_wp2_with (first | (go_at_call 38; (with_reducible refine (spec_l01In.calls ((rd_T52 l0_0 a1).f4) 0 3 true _ A73.out).mono ?_); rintro e w' ⟨rfl, ⟨nd, rfl⟩⟩; (try exact dw)) | (go_at_call 38; (with_reducible refine (spec_l01In.calls ((rd_T52 l0_0 a1).f5) 0 1000 true _ A75.out).mono ?_); rintro e w' ⟨rfl, ⟨nd, rfl⟩⟩; (try exact dw))))
            go_meet
            case rel => exact ⟨_, (true), eqa, H', ⟨by have := HJ4.out; first | omega | exact Nat.le_refl _⟩, ⟨pk BK174.out⟩, ⟨pk BK176.out⟩, ⟨pl2 HB.out GE174.out GE176.out⟩⟩
          ·replace c76 := Bool.eq_false_iff.mpr c76
           subst c76
           have H1 : (spec_l10Node.j1 kj4 a1 true l0_0 a0_1 ((rd_T52 l0_0 a1).f0) ((rd_T52 l0_0 a1).f1) ((rd_T52 l0_0 a1).f2) ((rd_T52 l0_0 a1).f3) ((rd_T52 l0_0 a1).f4) ((rd_T52 l0_0 a1).f5) ((rd_T52 l0_0 a1).f6) ((rd_T52 l0_0 a1).f7) ((rd_T52 l0_0 a1).f8)) = some r := by rw [if_neg (show ¬ (false = true) by decide)] at H; exact H
           clear H
           have H := H1
           clear H1
           have H' := Aside0.mk H
           clear H
           have hnb88 := NB176_174.out
           have hnc88 := NB174_176.out
           obtain ⟨hcz89_0, hcz89_1, hcz89_2, hcz89_3, hcz89_4, hcz89_5, hcz89_6, hcz89_7, hcz89_8, hfz89_0, hfz89_1, hfz89_2, hfz89_3, hfz89_4, hfz89_5, hfz89_6, hfz89_7, hfz89_8⟩ := z9 BK176.out
           go_wp2_with (first | (go_at_call 38; (with_reducible refine (spec_l01In.calls ((rd_T52 l0_0 a1).f4) 0 3 true _ A73.out).mono ?_); rintro e w' ⟨rfl, ⟨nd, rfl⟩⟩; (try exact dw)) | (go_at_call 38; (with_reducible refine (spec_l01In.calls ((rd_T52 l0_0 a1).f5) 0 1000 false _ A75.out).mono ?_); rintro e w' ⟨rfl, ⟨nd, rfl⟩⟩; (try exact dw)))
           repeat (go_quiet (first | (go_at_call 38; (with_reducible refine (spec_l01In.calls ((rd_T52 l0_0 a1).f4) 0 3 true _ A73.out).mono ?_); rintro e w' ⟨rfl, ⟨nd, rfl⟩⟩; (try exact dw)) | (go_at_call 38; (with_reducible refine (spec_l01In.calls ((rd_T52 l0_0 a1).f5) 0 1000 false _ A75.out).mono ?_); rintro e w' ⟨rfl, ⟨nd, rfl⟩⟩; (try exact dw))); try go_wp2_with (first | (go_at_call 38; (with_reducible refine (spec_l01In.calls ((rd_T52 l0_0 a1).f4) 0 3 true _ A73.out).mono ?_); rintro e w' ⟨rfl, ⟨nd, rfl⟩⟩; (try exact dw)) | (go_at_call 38; (with_reducible refine (spec_l01In.calls ((rd_T52 l0_0 a1).f5) 0 1000 false _ A75.out).mono ?_); rintro e w' ⟨rfl, ⟨nd, rfl⟩⟩; (try exact dw))))
           go_meet
           case rel => exact ⟨_, (true), eqa, H', ⟨by have := HJ4.out; first | omega | exact Nat.le_refl _⟩, ⟨pk BK174.out⟩, ⟨pk BK176.out⟩, ⟨pl2 HB.out GE174.out GE176.out⟩⟩
         ·replace c74 := Bool.eq_false_iff.mpr c74
          subst c74
          have H1 : (spec_l10Node.j1 kj4 a1 true l0_0 a0_1 ((rd_T52 l0_0 a1).f0) ((rd_T52 l0_0 a1).f1) ((rd_T52 l0_0 a1).f2) ((rd_T52 l0_0 a1).f3) ((rd_T52 l0_0 a1).f4) ((rd_T52 l0_0 a1).f5) ((rd_T52 l0_0 a1).f6) ((rd_T52 l0_0 a1).f7) ((rd_T52 l0_0 a1).f8)) = some r := by rw [if_neg (show ¬ (false = true) by decide)] at H; exact H
          clear H
          have H := H1
          clear H1
          have H' := Aside0.mk H
          clear H
          have hnb90 := NB176_174.out
          have hnc90 := NB174_176.out
          obtain ⟨hcz91_0, hcz91_1, hcz91_2, hcz91_3, hcz91_4, hcz91_5, hcz91_6, hcz91_7, hcz91_8, hfz91_0, hfz91_1, hfz91_2, hfz91_3, hfz91_4, hfz91_5, hfz91_6, hfz91_7, hfz91_8⟩ := z9 BK176.out
          go_wp2_with (first | (go_at_call 38; (with_reducible refine (spec_l01In.calls ((rd_T52 l0_0 a1).f4) 0 3 false _ A73.out).mono ?_); rintro e w' ⟨rfl, ⟨nd, rfl⟩⟩; (try exact dw)))
          repeat (go_quiet (first | (go_at_call 38; (with_reducible refine (spec_l01In.calls ((rd_T52 l0_0 a1).f4) 0 3 false _ A73.out).mono ?_); rintro e w' ⟨rfl, ⟨nd, rfl⟩⟩; (try exact dw))); try go_wp2_with (first | (go_at_call 38; (with_reducible refine (spec_l01In.calls ((rd_T52 l0_0 a1).f4) 0 3 false _ A73.out).mono ?_); rintro e w' ⟨rfl, ⟨nd, rfl⟩⟩; (try exact dw))))
          go_meet
          case rel => exact ⟨_, (true), eqa, H', ⟨by have := HJ4.out; first | omega | exact Nat.le_refl _⟩, ⟨pk BK174.out⟩, ⟨pk BK176.out⟩, ⟨pl2 HB.out GE174.out GE176.out⟩⟩
        ·rw [if_neg c72] at H
         have c72b0 : ((rd_T52 l0_0 a1).f3) = false := by simpa using c72
         clear c72
         (first | rw [c72b0] | (simp only [i64_w, i32_w]; rw [c72b0]) | skip)
         replace H := Option.bind_eq_some_iff.mp H
         obtain ⟨t180, A920, H⟩ := H
         replace H : (spec_l10Node.j1 kj4 a1 (!t180) l0_0 a0_1 ((rd_T52 l0_0 a1).f0) ((rd_T52 l0_0 a1).f1) ((rd_T52 l0_0 a1).f2) ((rd_T52 l0_0 a1).f3) ((rd_T52 l0_0 a1).f4) ((rd_T52 l0_0 a1).f5) ((rd_T52 l0_0 a1).f6) ((rd_T52 l0_0 a1).f7) ((rd_T52 l0_0 a1).f8)) = some r := H
         have A92 := Aside0.mk A920
         clear A920
         have H' := Aside0.mk H
         clear H
         have hnb93 := NB176_174.out
         have hnc93 := NB174_176.out
         obtain ⟨hcz94_0, hcz94_1, hcz94_2, hcz94_3, hcz94_4, hcz94_5, hcz94_6, hcz94_7, hcz94_8, hfz94_0, hfz94_1, hfz94_2, hfz94_3, hfz94_4, hfz94_5, hfz94_6, hfz94_7, hfz94_8⟩ := z9 BK176.out
         go_wp2_with (first | (go_at_call 60; (try refine calls_of_args (args' := #[.agg #[.int .i64 ((rd_T52 l0_0 a1).f0), .int .i64 ((rd_T52 l0_0 a1).f1), .string ((rd_T52 l0_0 a1).f2), .bool ((rd_T52 l0_0 a1).f3), .int .i64 ((rd_T52 l0_0 a1).f4), .int .i64 ((rd_T52 l0_0 a1).f5), .int .i64 ((rd_T52 l0_0 a1).f6), .slice A175_7 ((rd_T52 l0_0 a1).f7).length c175_7, .int .i64 ((rd_T52 l0_0 a1).f8)]]) (by first | rfl | (simp [*]; done)) ?_); (with_reducible refine (spec_l10File.calls kj4 ((rd_T52 l0_0 a1).f0) ((rd_T52 l0_0 a1).f1) ((rd_T52 l0_0 a1).f2) ((rd_T52 l0_0 a1).f3) ((rd_T52 l0_0 a1).f4) ((rd_T52 l0_0 a1).f5) ((rd_T52 l0_0 a1).f6) _ _ ((rd_T52 l0_0 a1).f7) ((rd_T52 l0_0 a1).f8) t180 _ ?side1 ?side2 A92.out).mono ?_); (case side1 => exact pc (Kd.C_below HR175_7.out HB.out)); (case side2 => exact HC175_7.out); rintro e w95 ⟨rfl, hb⟩; have n0_ := Aside0.mk (pb BK174.out hb); have n1_ := Aside0.mk (pb BK176.out hb); have n2_ := Aside0.mk (below_step (pl2 HB.out GE174.out GE176.out) hb); clear BK174; clear BK176; clear HB; have BK174 := n0_; have BK176 := n1_; have HB := n2_; clear n0_ n1_ n2_; (try clear hb); (try clear hb2); (try clear hk); (try clear hi)))
         repeat (go_quiet (first | (go_at_call 60; (try refine calls_of_args (args' := #[.agg #[.int .i64 ((rd_T52 l0_0 a1).f0), .int .i64 ((rd_T52 l0_0 a1).f1), .string ((rd_T52 l0_0 a1).f2), .bool ((rd_T52 l0_0 a1).f3), .int .i64 ((rd_T52 l0_0 a1).f4), .int .i64 ((rd_T52 l0_0 a1).f5), .int .i64 ((rd_T52 l0_0 a1).f6), .slice A175_7 ((rd_T52 l0_0 a1).f7).length c175_7, .int .i64 ((rd_T52 l0_0 a1).f8)]]) (by first | rfl | (simp [*]; done)) ?_); (with_reducible refine (spec_l10File.calls kj4 ((rd_T52 l0_0 a1).f0) ((rd_T52 l0_0 a1).f1) ((rd_T52 l0_0 a1).f2) ((rd_T52 l0_0 a1).f3) ((rd_T52 l0_0 a1).f4) ((rd_T52 l0_0 a1).f5) ((rd_T52 l0_0 a1).f6) _ _ ((rd_T52 l0_0 a1).f7) ((rd_T52 l0_0 a1).f8) t180 _ ?side1 ?side2 A92.out).mono ?_); (case side1 => exact pc (Kd.C_below HR175_7.out HB.out)); (case side2 => exact HC175_7.out); rintro e w95 ⟨rfl, hb⟩; have n0_ := Aside0.mk (pb BK174.out hb); have n1_ := Aside0.mk (pb BK176.out hb); have n2_ := Aside0.mk (below_step (pl2 HB.out GE174.out GE176.out) hb); clear BK174; clear BK176; clear HB; have BK174 := n0_; have BK176 := n1_; have HB := n2_; clear n0_ n1_ n2_; (try clear hb); (try clear hb2); (try clear hk); (try clear hi))); try go_wp2_with (first | (go_at_call 60; (try refine calls_of_args (args' := #[.agg #[.int .i64 ((rd_T52 l0_0 a1).f0), .int .i64 ((rd_T52 l0_0 a1).f1), .string ((rd_T52 l0_0 a1).f2), .bool ((rd_T52 l0_0 a1).f3), .int .i64 ((rd_T52 l0_0 a1).f4), .int .i64 ((rd_T52 l0_0 a1).f5), .int .i64 ((rd_T52 l0_0 a1).f6), .slice A175_7 ((rd_T52 l0_0 a1).f7).length c175_7, .int .i64 ((rd_T52 l0_0 a1).f8)]]) (by first | rfl | (simp [*]; done)) ?_); (with_reducible refine (spec_l10File.calls kj4 ((rd_T52 l0_0 a1).f0) ((rd_T52 l0_0 a1).f1) ((rd_T52 l0_0 a1).f2) ((rd_T52 l0_0 a1).f3) ((rd_T52 l0_0 a1).f4) ((rd_T52 l0_0 a1).f5) ((rd_T52 l0_0 a1).f6) _ _ ((rd_T52 l0_0 a1).f7) ((rd_T52 l0_0 a1).f8) t180 _ ?side1 ?side2 A92.out).mono ?_); (case side1 => exact pc (Kd.C_below HR175_7.out HB.out)); (case side2 => exact HC175_7.out); rintro e w95 ⟨rfl, hb⟩; have n0_ := Aside0.mk (pb BK174.out hb); have n1_ := Aside0.mk (pb BK176.out hb); have n2_ := Aside0.mk (below_step (pl2 HB.out GE174.out GE176.out) hb); clear BK174; clear BK176; clear HB; have BK174 := n0_; have BK176 := n1_; have HB := n2_; clear n0_ n1_ n2_; (try clear hb); (try clear hb2); (try clear hk); (try clear hi))))
         go_meet
         case rel => exact ⟨_, (!t180), eqa, H', ⟨by have := HJ4.out; first | omega | exact Nat.le_refl _⟩, ⟨pk BK174.out⟩, ⟨pk BK176.out⟩, ⟨pl2 HB.out GE174.out GE176.out⟩⟩
       case rest => as_aux_lemma =>
        clear HC71
        try clear c70
        obtain ⟨kq, x105_70, rfl, HA, HJ70, BK174, BK176, HB⟩ := hcut
        cases kq with
        | zero => exact absurd HA.out (by simp [spec_l10Node.j1])
        | succ kj70 =>
         have H := HA.out
         clear HA
         simp only [spec_l10Node.j1] at H
         by_cases c96 : x105_70 = true
         ·subst c96
          have H1 : (some false) = some r := by rw [if_pos rfl] at H; exact H
          clear H
          have H := H1
          clear H1
          obtain rfl := Option.some.inj H
          go_wp2
          repeat (go_quiet (fail); try go_wp2)
          go_ret
          exact ⟨erq, pl2 HB.out GE174.out GE176.out⟩
         ·replace c96 := Bool.eq_false_iff.mpr c96
          subst c96
          have H1 : (if a1 = 0 then (some true) else ((spec_l10At.f kj70 l0_0 a0_1 ((rd_T52 l0_0 a1).f1)).bind fun t181 => ((spec_NameOk.f kj70 ((rd_T52 l0_0 a1).f2)).bind fun t182 => (if t182 = true then (if t181 < 0 then (spec_l10Node.j2 kj70 a1 true l0_0 a0_1 ((rd_T52 l0_0 a1).f0) ((rd_T52 l0_0 a1).f1) ((rd_T52 l0_0 a1).f2) ((rd_T52 l0_0 a1).f3) ((rd_T52 l0_0 a1).f4) ((rd_T52 l0_0 a1).f5) ((rd_T52 l0_0 a1).f6) ((rd_T52 l0_0 a1).f7) ((rd_T52 l0_0 a1).f8)) else (if 0 ≤ t181 then (if t181 < (l0_0.length : Int) then (spec_l10Node.j2 kj70 a1 (!((rd_T52 l0_0 t181).f3)) l0_0 a0_1 ((rd_T52 l0_0 a1).f0) ((rd_T52 l0_0 a1).f1) ((rd_T52 l0_0 a1).f2) ((rd_T52 l0_0 a1).f3) ((rd_T52 l0_0 a1).f4) ((rd_T52 l0_0 a1).f5) ((rd_T52 l0_0 a1).f6) ((rd_T52 l0_0 a1).f7) ((rd_T52 l0_0 a1).f8)) else (none)) else (none))) else (spec_l10Node.j2 kj70 a1 true l0_0 a0_1 ((rd_T52 l0_0 a1).f0) ((rd_T52 l0_0 a1).f1) ((rd_T52 l0_0 a1).f2) ((rd_T52 l0_0 a1).f3) ((rd_T52 l0_0 a1).f4) ((rd_T52 l0_0 a1).f5) ((rd_T52 l0_0 a1).f6) ((rd_T52 l0_0 a1).f7) ((rd_T52 l0_0 a1).f8)))))) = some r := by rw [if_neg (show ¬ (false = true) by decide)] at H; exact H
          clear H
          have H := H1
          clear H1
          by_cases c97 : a1 = 0
          ·rw [if_pos c97] at H
           have c97b0 : (a1 == 0) = true := beq_iff_eq.mpr c97
           have c97b1 : (a1 != 0) = false := bne_eq_false_iff_eq.mpr c97
           clear c97
           obtain rfl := Option.some.inj H
           go_wp2
           repeat (go_quiet (fail); try go_wp2)
           go_ret
           exact ⟨erq, pl2 HB.out GE174.out GE176.out⟩
          ·rw [if_neg c97] at H
           have c97b0 : (a1 == 0) = false := beq_eq_false_iff_ne.mpr c97
           have c97b1 : (a1 != 0) = true := bne_iff_ne.mpr c97
           replace H := Option.bind_eq_some_iff.mp H
           obtain ⟨t181, A980, H⟩ := H
           replace H : ((spec_NameOk.f kj70 ((rd_T52 l0_0 a1).f2)).bind fun t182 => (if t182 = true then (if t181 < 0 then (spec_l10Node.j2 kj70 a1 true l0_0 a0_1 ((rd_T52 l0_0 a1).f0) ((rd_T52 l0_0 a1).f1) ((rd_T52 l0_0 a1).f2) ((rd_T52 l0_0 a1).f3) ((rd_T52 l0_0 a1).f4) ((rd_T52 l0_0 a1).f5) ((rd_T52 l0_0 a1).f6) ((rd_T52 l0_0 a1).f7) ((rd_T52 l0_0 a1).f8)) else (if 0 ≤ t181 then (if t181 < (l0_0.length : Int) then (spec_l10Node.j2 kj70 a1 (!((rd_T52 l0_0 t181).f3)) l0_0 a0_1 ((rd_T52 l0_0 a1).f0) ((rd_T52 l0_0 a1).f1) ((rd_T52 l0_0 a1).f2) ((rd_T52 l0_0 a1).f3) ((rd_T52 l0_0 a1).f4) ((rd_T52 l0_0 a1).f5) ((rd_T52 l0_0 a1).f6) ((rd_T52 l0_0 a1).f7) ((rd_T52 l0_0 a1).f8)) else (none)) else (none))) else (spec_l10Node.j2 kj70 a1 true l0_0 a0_1 ((rd_T52 l0_0 a1).f0) ((rd_T52 l0_0 a1).f1) ((rd_T52 l0_0 a1).f2) ((rd_T52 l0_0 a1).f3) ((rd_T52 l0_0 a1).f4) ((rd_T52 l0_0 a1).f5) ((rd_T52 l0_0 a1).f6) ((rd_T52 l0_0 a1).f7) ((rd_T52 l0_0 a1).f8)))) = some r := H
           have A98 := Aside0.mk A980
           clear A980
           have HC99 := Aside0.mk H
           clear H
           have hnb100 := NB174_176.out
           have hnc100 := NB176_174.out
           obtain ⟨hcz101_0, hcz101_1, hfz101_0, hfz101_1⟩ := z2 BK174.out
           obtain ⟨hcz102_0, hcz102_1, hcz102_2, hcz102_3, hcz102_4, hcz102_5, hcz102_6, hcz102_7, hcz102_8, hfz102_0, hfz102_1, hfz102_2, hfz102_3, hfz102_4, hfz102_5, hfz102_6, hfz102_7, hfz102_8⟩ := z9 BK176.out
           go_upto_region 9 with (first | (go_at_call 48; (with_reducible refine (spec_l10At.calls kj70 _ _ l0_0 a0_1 ((rd_T52 l0_0 a1).f1) t181 _ ?side1 ?side2 A98.out).mono ?_); (case side1 => exact pc (Kd.C_below HR0_0.out HB.out)); (case side2 => exact HC0_0.out); rintro e w103 ⟨rfl, hb⟩; have n0_ := Aside0.mk (pb BK174.out hb); have n1_ := Aside0.mk (pb BK176.out hb); have n2_ := Aside0.mk (below_step (pl2 HB.out GE174.out GE176.out) hb); clear BK174; clear BK176; clear HB; have BK174 := n0_; have BK176 := n1_; have HB := n2_; clear n0_ n1_ n2_; (try clear hb); (try clear hb2); (try clear hk); (try clear hi)))
           repeat (go_quiet (first | (go_at_call 48; (with_reducible refine (spec_l10At.calls kj70 _ _ l0_0 a0_1 ((rd_T52 l0_0 a1).f1) t181 _ ?side1 ?side2 A98.out).mono ?_); (case side1 => exact pc (Kd.C_below HR0_0.out HB.out)); (case side2 => exact HC0_0.out); rintro e w103 ⟨rfl, hb⟩; have n0_ := Aside0.mk (pb BK174.out hb); have n1_ := Aside0.mk (pb BK176.out hb); have n2_ := Aside0.mk (below_step (pl2 HB.out GE174.out GE176.out) hb); clear BK174; clear BK176; clear HB; have BK174 := n0_; have BK176 := n1_; have HB := n2_; clear n0_ n1_ n2_; (try clear hb); (try clear hb2); (try clear hk); (try clear hi))); go_upto_region 9 with (first | (go_at_call 48; (with_reducible refine (spec_l10At.calls kj70 _ _ l0_0 a0_1 ((rd_T52 l0_0 a1).f1) t181 _ ?side1 ?side2 A98.out).mono ?_); (case side1 => exact pc (Kd.C_below HR0_0.out HB.out)); (case side2 => exact HC0_0.out); rintro e w103 ⟨rfl, hb⟩; have n0_ := Aside0.mk (pb BK174.out hb); have n1_ := Aside0.mk (pb BK176.out hb); have n2_ := Aside0.mk (below_step (pl2 HB.out GE174.out GE176.out) hb); clear BK174; clear BK176; clear HB; have BK174 := n0_; have BK176 := n1_; have HB := n2_; clear n0_ n1_ n2_; (try clear hb); (try clear hb2); (try clear hk); (try clear hi))))
           (try simp only [Act.put, List.setIfInBounds_toArray, List.set_cons_zero, List.set_cons_succ])
           go_cut [128] (fun v128 wc => ∃ (kq : Nat) (x128_98 : Bool), v128 = .bool x128_98 ∧ Aside0 (spec_l10Node.j2 kq a1 x128_98 l0_0 a0_1 ((rd_T52 l0_0 a1).f0) ((rd_T52 l0_0 a1).f1) ((rd_T52 l0_0 a1).f2) ((rd_T52 l0_0 a1).f3) ((rd_T52 l0_0 a1).f4) ((rd_T52 l0_0 a1).f5) ((rd_T52 l0_0 a1).f6) ((rd_T52 l0_0 a1).f7) ((rd_T52 l0_0 a1).f8) = some r) ∧ Aside0 (kq ≤ kj70) ∧ Aside0 (wc.heap[gb174]? = some (.cells #[(.slice (some ad175) l0_0.length c0_0), .int .i64 a0_1] 29 (0, 0))) ∧ Aside0 (wc.heap[gb176]? = some (.cells #[.int .i64 ((rd_T52 l0_0 a1).f0), .int .i64 ((rd_T52 l0_0 a1).f1), .string ((rd_T52 l0_0 a1).f2), .bool ((rd_T52 l0_0 a1).f3), .int .i64 ((rd_T52 l0_0 a1).f4), .int .i64 ((rd_T52 l0_0 a1).f5), .int .i64 ((rd_T52 l0_0 a1).f6), (.slice A175_7 ((rd_T52 l0_0 a1).f7).length c175_7), .int .i64 ((rd_T52 l0_0 a1).f8)] 52 (0, 0))) ∧ Aside0 (Below w.heap.size w wc))
           case first => as_aux_lemma =>
            have H := HC99.out
            clear HC99
            replace H := Option.bind_eq_some_iff.mp H
            obtain ⟨t182, A1040, H⟩ := H
            replace H : (if t182 = true then (if t181 < 0 then (spec_l10Node.j2 kj70 a1 true l0_0 a0_1 ((rd_T52 l0_0 a1).f0) ((rd_T52 l0_0 a1).f1) ((rd_T52 l0_0 a1).f2) ((rd_T52 l0_0 a1).f3) ((rd_T52 l0_0 a1).f4) ((rd_T52 l0_0 a1).f5) ((rd_T52 l0_0 a1).f6) ((rd_T52 l0_0 a1).f7) ((rd_T52 l0_0 a1).f8)) else (if 0 ≤ t181 then (if t181 < (l0_0.length : Int) then (spec_l10Node.j2 kj70 a1 (!((rd_T52 l0_0 t181).f3)) l0_0 a0_1 ((rd_T52 l0_0 a1).f0) ((rd_T52 l0_0 a1).f1) ((rd_T52 l0_0 a1).f2) ((rd_T52 l0_0 a1).f3) ((rd_T52 l0_0 a1).f4) ((rd_T52 l0_0 a1).f5) ((rd_T52 l0_0 a1).f6) ((rd_T52 l0_0 a1).f7) ((rd_T52 l0_0 a1).f8)) else (none)) else (none))) else (spec_l10Node.j2 kj70 a1 true l0_0 a0_1 ((rd_T52 l0_0 a1).f0) ((rd_T52 l0_0 a1).f1) ((rd_T52 l0_0 a1).f2) ((rd_T52 l0_0 a1).f3) ((rd_T52 l0_0 a1).f4) ((rd_T52 l0_0 a1).f5) ((rd_T52 l0_0 a1).f6) ((rd_T52 l0_0 a1).f7) ((rd_T52 l0_0 a1).f8))) = some r := H
            have A104 := Aside0.mk A1040
            clear A1040
            by_cases c105 : t182 = true
            ·subst c105
             have H1 : (if t181 < 0 then (spec_l10Node.j2 kj70 a1 true l0_0 a0_1 ((rd_T52 l0_0 a1).f0) ((rd_T52 l0_0 a1).f1) ((rd_T52 l0_0 a1).f2) ((rd_T52 l0_0 a1).f3) ((rd_T52 l0_0 a1).f4) ((rd_T52 l0_0 a1).f5) ((rd_T52 l0_0 a1).f6) ((rd_T52 l0_0 a1).f7) ((rd_T52 l0_0 a1).f8)) else (if 0 ≤ t181 then (if t181 < (l0_0.length : Int) then (spec_l10Node.j2 kj70 a1 (!((rd_T52 l0_0 t181).f3)) l0_0 a0_1 ((rd_T52 l0_0 a1).f0) ((rd_T52 l0_0 a1).f1) ((rd_T52 l0_0 a1).f2) ((rd_T52 l0_0 a1).f3) ((rd_T52 l0_0 a1).f4) ((rd_T52 l0_0 a1).f5) ((rd_T52 l0_0 a1).f6) ((rd_T52 l0_0 a1).f7) ((rd_T52 l0_0 a1).f8)) else (none)) else (none))) = some r := by rw [if_pos rfl] at H; exact H
             clear H
             have H := H1
             clear H1
             by_cases c106 : t181 < 0
             ·rw [if_pos c106] at H
              have c106b0 : decide (t181 < 0) = true := decide_eq_true c106
              clear c106
              (first | rw [c106b0] | (simp only [i64_w, i32_w]; rw [c106b0]) | skip)
              have H' := Aside0.mk H
              clear H
              have hnb107 := NB176_174.out
              have hnc107 := NB174_176.out
              obtain ⟨hcz108_0, hcz108_1, hcz108_2, hcz108_3, hcz108_4, hcz108_5, hcz108_6, hcz108_7, hcz108_8, hfz108_0, hfz108_1, hfz108_2, hfz108_3, hfz108_4, hfz108_5, hfz108_6, hfz108_7, hfz108_8⟩ := z9 BK176.out
              go_wp2_with (first | (go_at_call 61; (with_reducible refine (spec_NameOk.calls kj70 ((rd_T52 l0_0 a1).f2) true _ A104.out).mono ?_); rintro e w' ⟨rfl, ⟨nd, rfl⟩⟩; (try exact dw)))
              repeat (go_quiet (first | (go_at_call 61; (with_reducible refine (spec_NameOk.calls kj70 ((rd_T52 l0_0 a1).f2) true _ A104.out).mono ?_); rintro e w' ⟨rfl, ⟨nd, rfl⟩⟩; (try exact dw))); try go_wp2_with (first | (go_at_call 61; (with_reducible refine (spec_NameOk.calls kj70 ((rd_T52 l0_0 a1).f2) true _ A104.out).mono ?_); rintro e w' ⟨rfl, ⟨nd, rfl⟩⟩; (try exact dw))))
              go_meet
              case rel => exact ⟨_, (true), eqa, H', ⟨by have := HJ4.out; have := HJ70.out; first | omega | exact Nat.le_refl _⟩, ⟨pk BK174.out⟩, ⟨pk BK176.out⟩, ⟨pl2 HB.out GE174.out GE176.out⟩⟩
             ·rw [if_neg c106] at H
              have c106b0 : decide (t181 < 0) = false := decide_eq_false c106
              clear c106
              (first | rw [c106b0] | (simp only [i64_w, i32_w]; rw [c106b0]) | skip)
              by_cases c109 : 0 ≤ t181
              ·rw [if_pos c109] at H
               have c109b0 : decide (0 ≤ t181) = true := decide_eq_true c109
               clear c109
               by_cases c110 : t181 < (l0_0.length : Int)
               ·rw [if_pos c110] at H
                have c110b0 : decide (t181 < (l0_0.length : Int)) = true := decide_eq_true c110
                clear c110
                have H' := Aside0.mk H
                clear H
                have hnb111 := NB176_174.out
                have hnc111 := NB174_176.out
                obtain ⟨hcz112_0, hcz112_1, hcz112_2, hcz112_3, hcz112_4, hcz112_5, hcz112_6, hcz112_7, hcz112_8, hfz112_0, hfz112_1, hfz112_2, hfz112_3, hfz112_4, hfz112_5, hfz112_6, hfz112_7, hfz112_8⟩ := z9 BK176.out
                go_wp2_with (first | (go_at_call 61; (with_reducible refine (spec_NameOk.calls kj70 ((rd_T52 l0_0 a1).f2) true _ A104.out).mono ?_); rintro e w' ⟨rfl, ⟨nd, rfl⟩⟩; (try exact dw); have hcz113_0 : w103.cell? ⟨gb174, 0, none⟩ = some (.slice (some ad175) l0_0.length c0_0) := (blk_cell BK174.out 0).trans rfl; have hcz113_1 : w103.cell? ⟨gb174, 1, none⟩ = some (.int .i64 a0_1) := (blk_cell BK174.out 1).trans rfl; have hfz113_0 := blk_frozen BK174.out 0; have hfz113_1 := blk_frozen BK174.out 1; have p183 : 0 ≤ (t181 : Int) := oda; have q183 : t181 < (l0_0.length : Int) := oda; obtain ⟨ad183, A183_7, c183_7, e183, hx183_0, hx183_1, hx183_2, hx183_3, hx183_4, hx183_5, hx183_6, hx183_7, hx183_8, hl183_7, hi183_7⟩ := at_T52 HR0_0.out t181 p183 q183; obtain rfl : ad175 = ad183 := (by injection e183); replace hx183_0 := hbc HB.out hx183_0; replace hx183_1 := hbc HB.out hx183_1; replace hx183_2 := hbc HB.out hx183_2; replace hx183_3 := hbc HB.out hx183_3; replace hx183_4 := hbc HB.out hx183_4; replace hx183_5 := hbc HB.out hx183_5; replace hx183_6 := hbc HB.out hx183_6; replace hx183_7 := hbc HB.out hx183_7; replace hx183_8 := hbc HB.out hx183_8; have HR183_7 := Aside0.mk hi183_7; have HC183_7 := Aside0.mk hl183_7; clear hi183_7 hl183_7; replace p183 := eq_true p183; replace q183 := eq_true q183))
                repeat (go_quiet (first | (go_at_call 61; (with_reducible refine (spec_NameOk.calls kj70 ((rd_T52 l0_0 a1).f2) true _ A104.out).mono ?_); rintro e w' ⟨rfl, ⟨nd, rfl⟩⟩; (try exact dw); have hcz113_0 : w103.cell? ⟨gb174, 0, none⟩ = some (.slice (some ad175) l0_0.length c0_0) := (blk_cell BK174.out 0).trans rfl; have hcz113_1 : w103.cell? ⟨gb174, 1, none⟩ = some (.int .i64 a0_1) := (blk_cell BK174.out 1).trans rfl; have hfz113_0 := blk_frozen BK174.out 0; have hfz113_1 := blk_frozen BK174.out 1; have p183 : 0 ≤ (t181 : Int) := oda; have q183 : t181 < (l0_0.length : Int) := oda; obtain ⟨ad183, A183_7, c183_7, e183, hx183_0, hx183_1, hx183_2, hx183_3, hx183_4, hx183_5, hx183_6, hx183_7, hx183_8, hl183_7, hi183_7⟩ := at_T52 HR0_0.out t181 p183 q183; obtain rfl : ad175 = ad183 := (by injection e183); replace hx183_0 := hbc HB.out hx183_0; replace hx183_1 := hbc HB.out hx183_1; replace hx183_2 := hbc HB.out hx183_2; replace hx183_3 := hbc HB.out hx183_3; replace hx183_4 := hbc HB.out hx183_4; replace hx183_5 := hbc HB.out hx183_5; replace hx183_6 := hbc HB.out hx183_6; replace hx183_7 := hbc HB.out hx183_7; replace hx183_8 := hbc HB.out hx183_8; have HR183_7 := Aside0.mk hi183_7; have HC183_7 := Aside0.mk hl183_7; clear hi183_7 hl183_7; replace p183 := eq_true p183; replace q183 := eq_true q183)); try go_wp2_with (first | (go_at_call 61; (with_reducible refine (spec_NameOk.calls kj70 ((rd_T52 l0_0 a1).f2) true _ A104.out).mono ?_); rintro e w' ⟨rfl, ⟨nd, rfl⟩⟩; (try exact dw); have hcz113_0 : w103.cell? ⟨gb174, 0, none⟩ = some (.slice (some ad175) l0_0.length c0_0) := (blk_cell BK174.out 0).trans rfl; have hcz113_1 : w103.cell? ⟨gb174, 1, none⟩ = some (.int .i64 a0_1) := (blk_cell BK174.out 1).trans rfl; have hfz113_0 := blk_frozen BK174.out 0; have hfz113_1 := blk_frozen BK174.out 1; have p183 : 0 ≤ (t181 : Int) := oda; have q183 : t181 < (l0_0.length : Int) := oda; obtain ⟨ad183, A183_7, c183_7, e183, hx183_0, hx183_1, hx183_2, hx183_3, hx183_4, hx183_5, hx183_6, hx183_7, hx183_8, hl183_7, hi183_7⟩ := at_T52 HR0_0.out t181 p183 q183; obtain rfl : ad175 = ad183 := (by injection e183); replace hx183_0 := hbc HB.out hx183_0; replace hx183_1 := hbc HB.out hx183_1; replace hx183_2 := hbc HB.out hx183_2; replace hx183_3 := hbc HB.out hx183_3; replace hx183_4 := hbc HB.out hx183_4; replace hx183_5 := hbc HB.out hx183_5; replace hx183_6 := hbc HB.out hx183_6; replace hx183_7 := hbc HB.out hx183_7; replace hx183_8 := hbc HB.out hx183_8; have HR183_7 := Aside0.mk hi183_7; have HC183_7 := Aside0.mk hl183_7; clear hi183_7 hl183_7; replace p183 := eq_true p183; replace q183 := eq_true q183)))
                go_meet
                case rel => exact ⟨_, (!((rd_T52 l0_0 t181).f3)), eqa, H', ⟨by have := HJ4.out; have := HJ70.out; first | omega | exact Nat.le_refl _⟩, ⟨pk BK174.out⟩, ⟨pk BK176.out⟩, ⟨pl2 HB.out GE174.out GE176.out⟩⟩
               ·rw [if_neg c110] at H
                exact absurd H (by simp)
              ·rw [if_neg c109] at H
               exact absurd H (by simp)
            ·replace c105 := Bool.eq_false_iff.mpr c105
             subst c105
             have H1 : (spec_l10Node.j2 kj70 a1 true l0_0 a0_1 ((rd_T52 l0_0 a1).f0) ((rd_T52 l0_0 a1).f1) ((rd_T52 l0_0 a1).f2) ((rd_T52 l0_0 a1).f3) ((rd_T52 l0_0 a1).f4) ((rd_T52 l0_0 a1).f5) ((rd_T52 l0_0 a1).f6) ((rd_T52 l0_0 a1).f7) ((rd_T52 l0_0 a1).f8)) = some r := by rw [if_neg (show ¬ (false = true) by decide)] at H; exact H
             clear H
             have H := H1
             clear H1
             have H' := Aside0.mk H
             clear H
             have hnb114 := NB176_174.out
             have hnc114 := NB174_176.out
             obtain ⟨hcz115_0, hcz115_1, hcz115_2, hcz115_3, hcz115_4, hcz115_5, hcz115_6, hcz115_7, hcz115_8, hfz115_0, hfz115_1, hfz115_2, hfz115_3, hfz115_4, hfz115_5, hfz115_6, hfz115_7, hfz115_8⟩ := z9 BK176.out
             go_wp2_with (first | (go_at_call 61; (with_reducible refine (spec_NameOk.calls kj70 ((rd_T52 l0_0 a1).f2) false _ A104.out).mono ?_); rintro e w' ⟨rfl, ⟨nd, rfl⟩⟩; (try exact dw)))
             repeat (go_quiet (first | (go_at_call 61; (with_reducible refine (spec_NameOk.calls kj70 ((rd_T52 l0_0 a1).f2) false _ A104.out).mono ?_); rintro e w' ⟨rfl, ⟨nd, rfl⟩⟩; (try exact dw))); try go_wp2_with (first | (go_at_call 61; (with_reducible refine (spec_NameOk.calls kj70 ((rd_T52 l0_0 a1).f2) false _ A104.out).mono ?_); rintro e w' ⟨rfl, ⟨nd, rfl⟩⟩; (try exact dw))))
             go_meet
             case rel => exact ⟨_, (true), eqa, H', ⟨by have := HJ4.out; have := HJ70.out; first | omega | exact Nat.le_refl _⟩, ⟨pk BK174.out⟩, ⟨pk BK176.out⟩, ⟨pl2 HB.out GE174.out GE176.out⟩⟩
           case rest => as_aux_lemma =>
            clear HC99
            try clear c96; try clear c97; try clear c97b0; try clear c97b1; try clear hcz101_0; try clear hcz101_1; try clear hcz102_0; try clear hcz102_1; try clear hcz102_2; try clear hcz102_3; try clear hcz102_4; try clear hcz102_5; try clear hcz102_6; try clear hcz102_7; try clear hcz102_8; try clear hfz101_0; try clear hfz101_1; try clear hfz102_0; try clear hfz102_1; try clear hfz102_2; try clear hfz102_3; try clear hfz102_4; try clear hfz102_5; try clear hfz102_6; try clear hfz102_7; try clear hfz102_8
            obtain ⟨kq, x128_98, rfl, HA, HJ98, BK174, BK176, HB⟩ := hcut
            cases kq with
            | zero => exact absurd HA.out (by simp [spec_l10Node.j2])
            | succ kj98 =>
             have H := HA.out
             clear HA
             simp only [spec_l10Node.j2] at H
             by_cases c116 : x128_98 = true
             ·subst c116
              have H1 : (some false) = some r := by rw [if_pos rfl] at H; exact H
              clear H
              have H := H1
              clear H1
              obtain rfl := Option.some.inj H
              go_wp2
              repeat (go_quiet (fail); try go_wp2)
              go_ret
              exact ⟨erq, pl2 HB.out GE174.out GE176.out⟩
             ·replace c116 := Bool.eq_false_iff.mpr c116
              subst c116
              have H1 : (spec_l10Node.l0 kj98 a1 0 l0_0 a0_1 ((rd_T52 l0_0 a1).f0) ((rd_T52 l0_0 a1).f1) ((rd_T52 l0_0 a1).f2) ((rd_T52 l0_0 a1).f3) ((rd_T52 l0_0 a1).f4) ((rd_T52 l0_0 a1).f5) ((rd_T52 l0_0 a1).f6) ((rd_T52 l0_0 a1).f7) ((rd_T52 l0_0 a1).f8)) = some r := by rw [if_neg (show ¬ (false = true) by decide)] at H; exact H
              clear H
              have H := H1
              clear H1
              have H' := Aside0.mk H
              clear H
              go_wp2
              repeat (go_quiet (fail); try go_wp2)
              go_loopg [7] kj98 (fun kq v7 w' => ∃ (x7_4 : Int), v7 = .int .i64 x7_4 ∧ Aside0 (spec_l10Node.l0 kq a1 x7_4 l0_0 a0_1 ((rd_T52 l0_0 a1).f0) ((rd_T52 l0_0 a1).f1) ((rd_T52 l0_0 a1).f2) ((rd_T52 l0_0 a1).f3) ((rd_T52 l0_0 a1).f4) ((rd_T52 l0_0 a1).f5) ((rd_T52 l0_0 a1).f6) ((rd_T52 l0_0 a1).f7) ((rd_T52 l0_0 a1).f8) = some r) ∧ Aside0 (kq ≤ kj98) ∧ Aside0 (w'.heap[gb174]? = some (.cells #[(.slice (some ad175) l0_0.length c0_0), .int .i64 a0_1] 29 (0, 0))) ∧ Aside0 (w'.heap[gb176]? = some (.cells #[.int .i64 ((rd_T52 l0_0 a1).f0), .int .i64 ((rd_T52 l0_0 a1).f1), .string ((rd_T52 l0_0 a1).f2), .bool ((rd_T52 l0_0 a1).f3), .int .i64 ((rd_T52 l0_0 a1).f4), .int .i64 ((rd_T52 l0_0 a1).f5), .int .i64 ((rd_T52 l0_0 a1).f6), (.slice A175_7 ((rd_T52 l0_0 a1).f7).length c175_7), .int .i64 ((rd_T52 l0_0 a1).f8)] 52 (0, 0))) ∧ Aside0 (Below w.heap.size w w'))
              case atStart => exact ⟨(0), eqa, H', ⟨Nat.le_refl _⟩, ⟨pk BK174.out⟩, ⟨pk BK176.out⟩, ⟨pl2 HB.out GE174.out GE176.out⟩⟩
              case round =>
               clear H'
               try clear c116
               obtain ⟨x7_4, rfl, HA, HK4, BK174, BK176, HB⟩ := hrel
               cases gk with
               | zero => exact absurd HA.out (by simp [spec_l10Node.l0])
               | succ k4 =>
                have H := HA.out
                clear HA
                simp only [spec_l10Node.l0] at H
                by_cases c117 : x7_4 < a1
                ·rw [if_pos c117] at H
                 have c117b0 : decide (x7_4 < a1) = true := decide_eq_true c117
                 clear c117
                 by_cases c118 : 0 ≤ x7_4
                 ·rw [if_pos c118] at H
                  have c118b0 : decide (0 ≤ x7_4) = true := decide_eq_true c118
                  clear c118
                  by_cases c119 : x7_4 < (l0_0.length : Int)
                  ·rw [if_pos c119] at H
                   have c119b0 : decide (x7_4 < (l0_0.length : Int)) = true := decide_eq_true c119
                   clear c119
                   by_cases c120 : ((rd_T52 l0_0 x7_4).f1) = ((rd_T52 l0_0 a1).f1)
                   ·rw [if_pos c120] at H
                    have c120b0 : (((rd_T52 l0_0 x7_4).f1) == ((rd_T52 l0_0 a1).f1)) = true := beq_iff_eq.mpr c120
                    have c120b1 : (((rd_T52 l0_0 x7_4).f1) != ((rd_T52 l0_0 a1).f1)) = false := bne_eq_false_iff_eq.mpr c120
                    clear c120
                    by_cases c121 : ((rd_T52 l0_0 x7_4).f2).toList = ((rd_T52 l0_0 a1).f2).toList
                    ·rw [if_pos c121] at H
                     have c121b0 : (((rd_T52 l0_0 x7_4).f2).toList == ((rd_T52 l0_0 a1).f2).toList) = true := beq_iff_eq.mpr c121
                     have c121b1 : (((rd_T52 l0_0 x7_4).f2).toList != ((rd_T52 l0_0 a1).f2).toList) = false := bne_eq_false_iff_eq.mpr c121
                     clear c121
                     obtain rfl := Option.some.inj H
                     have hnb122 := NB174_176.out
                     have hnc122 := NB176_174.out
                     obtain ⟨hcz123_0, hcz123_1, hfz123_0, hfz123_1⟩ := z2 BK174.out
                     have p184 : 0 ≤ (x7_4 : Int) := oda
                     have q184 : x7_4 < (l0_0.length : Int) := oda
                     obtain ⟨ad184, A184_7, c184_7, e184, hx184_0, hx184_1, hx184_2, hx184_3, hx184_4, hx184_5, hx184_6, hx184_7, hx184_8, hl184_7, hi184_7⟩ := at_T52 HR0_0.out x7_4 p184 q184
                     obtain rfl : ad175 = ad184 := (by injection e184)
                     replace hx184_0 := hbc HB.out hx184_0
                     replace hx184_1 := hbc HB.out hx184_1
                     replace hx184_2 := hbc HB.out hx184_2
                     replace hx184_3 := hbc HB.out hx184_3
                     replace hx184_4 := hbc HB.out hx184_4
                     replace hx184_5 := hbc HB.out hx184_5
                     replace hx184_6 := hbc HB.out hx184_6
                     replace hx184_7 := hbc HB.out hx184_7
                     replace hx184_8 := hbc HB.out hx184_8
                     have HR184_7 := Aside0.mk hi184_7
                     have HC184_7 := Aside0.mk hl184_7
                     clear hi184_7 hl184_7
                     replace p184 := eq_true p184
                     replace q184 := eq_true q184
                     obtain ⟨hcz124_0, hcz124_1, hcz124_2, hcz124_3, hcz124_4, hcz124_5, hcz124_6, hcz124_7, hcz124_8, hfz124_0, hfz124_1, hfz124_2, hfz124_3, hfz124_4, hfz124_5, hfz124_6, hfz124_7, hfz124_8⟩ := z9 BK176.out
                     have p185 : 0 ≤ (x7_4 : Int) := oda
                     have q185 : x7_4 < (l0_0.length : Int) := oda
                     obtain ⟨ad185, A185_7, c185_7, e185, hx185_0, hx185_1, hx185_2, hx185_3, hx185_4, hx185_5, hx185_6, hx185_7, hx185_8, hl185_7, hi185_7⟩ := at_T52 HR0_0.out x7_4 p185 q185
                     obtain rfl : ad175 = ad185 := (by injection e185)
                     replace hx185_0 := hbc HB.out hx185_0
                     replace hx185_1 := hbc HB.out hx185_1
                     replace hx185_2 := hbc HB.out hx185_2
                     replace hx185_3 := hbc HB.out hx185_3
                     replace hx185_4 := hbc HB.out hx185_4
                     replace hx185_5 := hbc HB.out hx185_5
                     replace hx185_6 := hbc HB.out hx185_6
                     replace hx185_7 := hbc HB.out hx185_7
                     replace hx185_8 := hbc HB.out hx185_8
                     have HR185_7 := Aside0.mk hi185_7
                     have HC185_7 := Aside0.mk hl185_7
                     clear hi185_7 hl185_7
                     replace p185 := eq_true p185
                     replace q185 := eq_true q185
                     have ea_ := Option.some.inj (hx184_7.symm.trans hx185_7)
                     injection ea_ with ea_ en_ ec_
                     subst ea_
                     subst ec_
                     clear en_
                     go_wp2
                     repeat (go_quiet (fail); try go_wp2)
                     go_ret
                     exact ⟨erq, pl2 HB.out GE174.out GE176.out⟩
                    ·rw [if_neg c121] at H
                     have c121b0 : (((rd_T52 l0_0 x7_4).f2).toList == ((rd_T52 l0_0 a1).f2).toList) = false := beq_eq_false_iff_ne.mpr c121
                     have c121b1 : (((rd_T52 l0_0 x7_4).f2).toList != ((rd_T52 l0_0 a1).f2).toList) = true := bne_iff_ne.mpr c121
                     have H' := Aside0.mk H
                     clear H
                     have hnb125 := NB174_176.out
                     have hnc125 := NB176_174.out
                     obtain ⟨hcz126_0, hcz126_1, hfz126_0, hfz126_1⟩ := z2 BK174.out
                     have p184 : 0 ≤ (x7_4 : Int) := oda
                     have q184 : x7_4 < (l0_0.length : Int) := oda
                     obtain ⟨ad184, A184_7, c184_7, e184, hx184_0, hx184_1, hx184_2, hx184_3, hx184_4, hx184_5, hx184_6, hx184_7, hx184_8, hl184_7, hi184_7⟩ := at_T52 HR0_0.out x7_4 p184 q184
                     obtain rfl : ad175 = ad184 := (by injection e184)
                     replace hx184_0 := hbc HB.out hx184_0
                     replace hx184_1 := hbc HB.out hx184_1
                     replace hx184_2 := hbc HB.out hx184_2
                     replace hx184_3 := hbc HB.out hx184_3
                     replace hx184_4 := hbc HB.out hx184_4
                     replace hx184_5 := hbc HB.out hx184_5
                     replace hx184_6 := hbc HB.out hx184_6
                     replace hx184_7 := hbc HB.out hx184_7
                     replace hx184_8 := hbc HB.out hx184_8
                     have HR184_7 := Aside0.mk hi184_7
                     have HC184_7 := Aside0.mk hl184_7
                     clear hi184_7 hl184_7
                     replace p184 := eq_true p184
                     replace q184 := eq_true q184
                     obtain ⟨hcz127_0, hcz127_1, hcz127_2, hcz127_3, hcz127_4, hcz127_5, hcz127_6, hcz127_7, hcz127_8, hfz127_0, hfz127_1, hfz127_2, hfz127_3, hfz127_4, hfz127_5, hfz127_6, hfz127_7, hfz127_8⟩ := z9 BK176.out
                     have p185 : 0 ≤ (x7_4 : Int) := oda
                     have q185 : x7_4 < (l0_0.length : Int) := oda
                     obtain ⟨ad185, A185_7, c185_7, e185, hx185_0, hx185_1, hx185_2, hx185_3, hx185_4, hx185_5, hx185_6, hx185_7, hx185_8, hl185_7, hi185_7⟩ := at_T52 HR0_0.out x7_4 p185 q185
                     obtain rfl : ad175 = ad185 := (by injection e185)
                     replace hx185_0 := hbc HB.out hx185_0
                     replace hx185_1 := hbc HB.out hx185_1
                     replace hx185_2 := hbc HB.out hx185_2
                     replace hx185_3 := hbc HB.out hx185_3
                     replace hx185_4 := hbc HB.out hx185_4
                     replace hx185_5 := hbc HB.out hx185_5
                     replace hx185_6 := hbc HB.out hx185_6
                     replace hx185_7 := hbc HB.out hx185_7
                     replace hx185_8 := hbc HB.out hx185_8
                     have HR185_7 := Aside0.mk hi185_7
                     have HC185_7 := Aside0.mk hl185_7
                     clear hi185_7 hl185_7
                     replace p185 := eq_true p185
                     replace q185 := eq_true q185
                     have ea_ := Option.some.inj (hx184_7.symm.trans hx185_7)
                     injection ea_ with ea_ en_ ec_
                     subst ea_
                     subst ec_
                     clear en_
                     go_wp2
                     repeat (go_quiet (fail); try go_wp2)
                     go_roundg k4
                     case measure => have := HJ4.out; have := HJ70.out; have := HJ98.out; have := HK4.out; omega
                     case rel => exact ⟨(wrap64 (x7_4 + 1)), eqa, H', ⟨by have := HJ4.out; have := HJ70.out; have := HJ98.out; have := HK4.out; omega⟩, ⟨pk BK174.out⟩, ⟨pk BK176.out⟩, ⟨pl2 HB.out GE174.out GE176.out⟩⟩
                   ·rw [if_neg c120] at H
                    have c120b0 : (((rd_T52 l0_0 x7_4).f1) == ((rd_T52 l0_0 a1).f1)) = false := beq_eq_false_iff_ne.mpr c120
                    have c120b1 : (((rd_T52 l0_0 x7_4).f1) != ((rd_T52 l0_0 a1).f1)) = true := bne_iff_ne.mpr c120
                    have H' := Aside0.mk H
                    clear H
                    have hnb128 := NB174_176.out
                    have hnc128 := NB176_174.out
                    obtain ⟨hcz129_0, hcz129_1, hfz129_0, hfz129_1⟩ := z2 BK174.out
                    have p184 : 0 ≤ (x7_4 : Int) := oda
                    have q184 : x7_4 < (l0_0.length : Int) := oda
                    obtain ⟨ad184, A184_7, c184_7, e184, hx184_0, hx184_1, hx184_2, hx184_3, hx184_4, hx184_5, hx184_6, hx184_7, hx184_8, hl184_7, hi184_7⟩ := at_T52 HR0_0.out x7_4 p184 q184
                    obtain rfl : ad175 = ad184 := (by injection e184)
                    replace hx184_0 := hbc HB.out hx184_0
                    replace hx184_1 := hbc HB.out hx184_1
                    replace hx184_2 := hbc HB.out hx184_2
                    replace hx184_3 := hbc HB.out hx184_3
                    replace hx184_4 := hbc HB.out hx184_4
                    replace hx184_5 := hbc HB.out hx184_5
                    replace hx184_6 := hbc HB.out hx184_6
                    replace hx184_7 := hbc HB.out hx184_7
                    replace hx184_8 := hbc HB.out hx184_8
                    have HR184_7 := Aside0.mk hi184_7
                    have HC184_7 := Aside0.mk hl184_7
                    clear hi184_7 hl184_7
                    replace p184 := eq_true p184
                    replace q184 := eq_true q184
                    obtain ⟨hcz130_0, hcz130_1, hcz130_2, hcz130_3, hcz130_4, hcz130_5, hcz130_6, hcz130_7, hcz130_8, hfz130_0, hfz130_1, hfz130_2, hfz130_3, hfz130_4, hfz130_5, hfz130_6, hfz130_7, hfz130_8⟩ := z9 BK176.out
                    go_wp2
                    repeat (go_quiet (fail); try go_wp2)
                    go_roundg k4
                    case measure => have := HJ4.out; have := HJ70.out; have := HJ98.out; have := HK4.out; omega
                    case rel => exact ⟨(wrap64 (x7_4 + 1)), eqa, H', ⟨by have := HJ4.out; have := HJ70.out; have := HJ98.out; have := HK4.out; omega⟩, ⟨pk BK174.out⟩, ⟨pk BK176.out⟩, ⟨pl2 HB.out GE174.out GE176.out⟩⟩
                  ·rw [if_neg c119] at H
                   exact absurd H (by simp)
                 ·rw [if_neg c118] at H
                  exact absurd H (by simp)
                ·rw [if_neg c117] at H
                 have c117b0 : decide (x7_4 < a1) = false := decide_eq_false c117
                 clear c117
                 have H' := Aside0.mk H
                 clear H
                 have hnb131 := NB176_174.out
                 have hnc131 := NB174_176.out
                 obtain ⟨hcz132_0, hcz132_1, hcz132_2, hcz132_3, hcz132_4, hcz132_5, hcz132_6, hcz132_7, hcz132_8, hfz132_0, hfz132_1, hfz132_2, hfz132_3, hfz132_4, hfz132_5, hfz132_6, hfz132_7, hfz132_8⟩ := z9 BK176.out
                 go_wp2
                 repeat (go_quiet (fail); try go_wp2)
                 go_loopg [8, 9] k4 (fun kq v8 v9 w' => ∃ (x8_5 : Int) (x9_5 : Int), v8 = .int .i64 x8_5 ∧ v9 = .int .i64 x9_5 ∧ Aside0 (spec_l10Node.l1 kq x8_5 x9_5 l0_0 a0_1 = some r) ∧ Aside0 (kq ≤ k4) ∧ Aside0 (w'.heap[gb174]? = some (.cells #[(.slice (some ad175) l0_0.length c0_0), .int .i64 a0_1] 29 (0, 0))) ∧ Aside0 (w'.heap[gb176]? = some (.cells #[.int .i64 ((rd_T52 l0_0 a1).f0), .int .i64 ((rd_T52 l0_0 a1).f1), .string ((rd_T52 l0_0 a1).f2), .bool ((rd_T52 l0_0 a1).f3), .int .i64 ((rd_T52 l0_0 a1).f4), .int .i64 ((rd_T52 l0_0 a1).f5), .int .i64 ((rd_T52 l0_0 a1).f6), (.slice A175_7 ((rd_T52 l0_0 a1).f7).length c175_7), .int .i64 ((rd_T52 l0_0 a1).f8)] 52 (0, 0))) ∧ Aside0 (Below w.heap.size w w'))
                 case atStart => exact ⟨(((rd_T52 l0_0 a1).f0)), (0), eqa, eqa, H', ⟨Nat.le_refl _⟩, ⟨pk BK174.out⟩, ⟨pk BK176.out⟩, ⟨pl2 HB.out GE174.out GE176.out⟩⟩
                 case round =>
                  clear H'
                  try clear c117; try clear c117b0; try clear hcz132_0; try clear hcz132_1; try clear hcz132_2; try clear hcz132_3; try clear hcz132_4; try clear hcz132_5; try clear hcz132_6; try clear hcz132_7; try clear hcz132_8; try clear hfz132_0; try clear hfz132_1; try clear hfz132_2; try clear hfz132_3; try clear hfz132_4; try clear hfz132_5; try clear hfz132_6; try clear hfz132_7; try clear hfz132_8
                  obtain ⟨x8_5, x9_5, rfl, rfl, HA, HK5, BK174, BK176, HB⟩ := hrel
                  cases gk with
                  | zero => exact absurd HA.out (by simp [spec_l10Node.l1])
                  | succ k5 =>
                   have H := HA.out
                   clear HA
                   simp only [spec_l10Node.l1] at H
                   by_cases c133 : x9_5 < 4
                   ·rw [if_pos c133] at H
                    have c133b0 : decide (x9_5 < 4) = true := decide_eq_true c133
                    clear c133
                    replace H := Option.bind_eq_some_iff.mp H
                    obtain ⟨t186, A1340, H⟩ := H
                    replace H : (if t186 < 0 then (some false) else (if 0 ≤ t186 then (if t186 < (l0_0.length : Int) then (if ((rd_T52 l0_0 t186).f1) = 1 then (some true) else (spec_l10Node.l1 k5 ((rd_T52 l0_0 t186).f1) (wrap64 (x9_5 + 1)) l0_0 a0_1)) else (none)) else (none))) = some r := H
                    have A134 := Aside0.mk A1340
                    clear A1340
                    by_cases c135 : t186 < 0
                    ·rw [if_pos c135] at H
                     have c135b0 : decide (t186 < 0) = true := decide_eq_true c135
                     clear c135
                     obtain rfl := Option.some.inj H
                     have hnb136 := NB174_176.out
                     have hnc136 := NB176_174.out
                     obtain ⟨hcz137_0, hcz137_1, hfz137_0, hfz137_1⟩ := z2 BK174.out
                     go_wp2_with (first | (go_at_call 48; (with_reducible refine (spec_l10At.calls k5 _ _ l0_0 a0_1 x8_5 t186 _ ?side1 ?side2 A134.out).mono ?_); (case side1 => exact pc (Kd.C_below HR0_0.out HB.out)); (case side2 => exact HC0_0.out); rintro e w138 ⟨rfl, hb⟩; have n0_ := Aside0.mk (pb BK174.out hb); have n1_ := Aside0.mk (pb BK176.out hb); have n2_ := Aside0.mk (below_step (pl2 HB.out GE174.out GE176.out) hb); clear BK174; clear BK176; clear HB; have BK174 := n0_; have BK176 := n1_; have HB := n2_; clear n0_ n1_ n2_; (try clear hb); (try clear hb2); (try clear hk); (try clear hi)))
                     repeat (go_quiet (first | (go_at_call 48; (with_reducible refine (spec_l10At.calls k5 _ _ l0_0 a0_1 x8_5 t186 _ ?side1 ?side2 A134.out).mono ?_); (case side1 => exact pc (Kd.C_below HR0_0.out HB.out)); (case side2 => exact HC0_0.out); rintro e w138 ⟨rfl, hb⟩; have n0_ := Aside0.mk (pb BK174.out hb); have n1_ := Aside0.mk (pb BK176.out hb); have n2_ := Aside0.mk (below_step (pl2 HB.out GE174.out GE176.out) hb); clear BK174; clear BK176; clear HB; have BK174 := n0_; have BK176 := n1_; have HB := n2_; clear n0_ n1_ n2_; (try clear hb); (try clear hb2); (try clear hk); (try clear hi))); try go_wp2_with (first | (go_at_call 48; (with_reducible refine (spec_l10At.calls k5 _ _ l0_0 a0_1 x8_5 t186 _ ?side1 ?side2 A134.out).mono ?_); (case side1 => exact pc (Kd.C_below HR0_0.out HB.out)); (case side2 => exact HC0_0.out); rintro e w138 ⟨rfl, hb⟩; have n0_ := Aside0.mk (pb BK174.out hb); have n1_ := Aside0.mk (pb BK176.out hb); have n2_ := Aside0.mk (below_step (pl2 HB.out GE174.out GE176.out) hb); clear BK174; clear BK176; clear HB; have BK174 := n0_; have BK176 := n1_; have HB := n2_; clear n0_ n1_ n2_; (try clear hb); (try clear hb2); (try clear hk); (try clear hi))))
                     go_ret
                     exact ⟨erq, pl2 HB.out GE174.out GE176.out⟩
                    ·rw [if_neg c135] at H
                     have c135b0 : decide (t186 < 0) = false := decide_eq_false c135
                     clear c135
                     by_cases c139 : 0 ≤ t186
                     ·rw [if_pos c139] at H
                      have c139b0 : decide (0 ≤ t186) = true := decide_eq_true c139
                      clear c139
                      by_cases c140 : t186 < (l0_0.length : Int)
                      ·rw [if_pos c140] at H
                       have c140b0 : decide (t186 < (l0_0.length : Int)) = true := decide_eq_true c140
                       clear c140
                       by_cases c141 : ((rd_T52 l0_0 t186).f1) = 1
                       ·rw [if_pos c141] at H
                        have c141b0 : (((rd_T52 l0_0 t186).f1) == 1) = true := beq_iff_eq.mpr c141
                        have c141b1 : (((rd_T52 l0_0 t186).f1) != 1) = false := bne_eq_false_iff_eq.mpr c141
                        clear c141
                        obtain rfl := Option.some.inj H
                        have hnb142 := NB174_176.out
                        have hnc142 := NB176_174.out
                        obtain ⟨hcz143_0, hcz143_1, hfz143_0, hfz143_1⟩ := z2 BK174.out
                        go_wp2_with (first | (go_at_call 48; (with_reducible refine (spec_l10At.calls k5 _ _ l0_0 a0_1 x8_5 t186 _ ?side1 ?side2 A134.out).mono ?_); (case side1 => exact pc (Kd.C_below HR0_0.out HB.out)); (case side2 => exact HC0_0.out); rintro e w144 ⟨rfl, hb⟩; have n0_ := Aside0.mk (pb BK174.out hb); have n1_ := Aside0.mk (pb BK176.out hb); have n2_ := Aside0.mk (below_step (pl2 HB.out GE174.out GE176.out) hb); clear BK174; clear BK176; clear HB; have BK174 := n0_; have BK176 := n1_; have HB := n2_; clear n0_ n1_ n2_; (try clear hb); (try clear hb2); (try clear hk); (try clear hi); have hcz145_0 : w144.cell? ⟨gb174, 0, none⟩ = some (.slice (some ad175) l0_0.length c0_0) := (blk_cell BK174.out 0).trans rfl; have hcz145_1 : w144.cell? ⟨gb174, 1, none⟩ = some (.int .i64 a0_1) := (blk_cell BK174.out 1).trans rfl; have hfz145_0 := blk_frozen BK174.out 0; have hfz145_1 := blk_frozen BK174.out 1; have p187 : 0 ≤ (t186 : Int) := oda; have q187 : t186 < (l0_0.length : Int) := oda; obtain ⟨ad187, A187_7, c187_7, e187, hx187_0, hx187_1, hx187_2, hx187_3, hx187_4, hx187_5, hx187_6, hx187_7, hx187_8, hl187_7, hi187_7⟩ := at_T52 HR0_0.out t186 p187 q187; obtain rfl : ad175 = ad187 := (by injection e187); replace hx187_0 := hbc HB.out hx187_0; replace hx187_1 := hbc HB.out hx187_1; replace hx187_2 := hbc HB.out hx187_2; replace hx187_3 := hbc HB.out hx187_3; replace hx187_4 := hbc HB.out hx187_4; replace hx187_5 := hbc HB.out hx187_5; replace hx187_6 := hbc HB.out hx187_6; replace hx187_7 := hbc HB.out hx187_7; replace hx187_8 := hbc HB.out hx187_8; have HR187_7 := Aside0.mk hi187_7; have HC187_7 := Aside0.mk hl187_7; clear hi187_7 hl187_7; replace p187 := eq_true p187; replace q187 := eq_true q187))
                        repeat (go_quiet (first | (go_at_call 48; (with_reducible refine (spec_l10At.calls k5 _ _ l0_0 a0_1 x8_5 t186 _ ?side1 ?side2 A134.out).mono ?_); (case side1 => exact pc (Kd.C_below HR0_0.out HB.out)); (case side2 => exact HC0_0.out); rintro e w144 ⟨rfl, hb⟩; have n0_ := Aside0.mk (pb BK174.out hb); have n1_ := Aside0.mk (pb BK176.out hb); have n2_ := Aside0.mk (below_step (pl2 HB.out GE174.out GE176.out) hb); clear BK174; clear BK176; clear HB; have BK174 := n0_; have BK176 := n1_; have HB := n2_; clear n0_ n1_ n2_; (try clear hb); (try clear hb2); (try clear hk); (try clear hi); have hcz145_0 : w144.cell? ⟨gb174, 0, none⟩ = some (.slice (some ad175) l0_0.length c0_0) := (blk_cell BK174.out 0).trans rfl; have hcz145_1 : w144.cell? ⟨gb174, 1, none⟩ = some (.int .i64 a0_1) := (blk_cell BK174.out 1).trans rfl; have hfz145_0 := blk_frozen BK174.out 0; have hfz145_1 := blk_frozen BK174.out 1; have p187 : 0 ≤ (t186 : Int) := oda; have q187 : t186 < (l0_0.length : Int) := oda; obtain ⟨ad187, A187_7, c187_7, e187, hx187_0, hx187_1, hx187_2, hx187_3, hx187_4, hx187_5, hx187_6, hx187_7, hx187_8, hl187_7, hi187_7⟩ := at_T52 HR0_0.out t186 p187 q187; obtain rfl : ad175 = ad187 := (by injection e187); replace hx187_0 := hbc HB.out hx187_0; replace hx187_1 := hbc HB.out hx187_1; replace hx187_2 := hbc HB.out hx187_2; replace hx187_3 := hbc HB.out hx187_3; replace hx187_4 := hbc HB.out hx187_4; replace hx187_5 := hbc HB.out hx187_5; replace hx187_6 := hbc HB.out hx187_6; replace hx187_7 := hbc HB.out hx187_7; replace hx187_8 := hbc HB.out hx187_8; have HR187_7 := Aside0.mk hi187_7; have HC187_7 := Aside0.mk hl187_7; clear hi187_7 hl187_7; replace p187 := eq_true p187; replace q187 := eq_true q187)); try go_wp2_with (first | (go_at_call 48; (with_reducible refine (spec_l10At.calls k5 _ _ l0_0 a0_1 x8_5 t186 _ ?side1 ?side2 A134.out).mono ?_); (case side1 => exact pc (Kd.C_below HR0_0.out HB.out)); (case side2 => exact HC0_0.out); rintro e w144 ⟨rfl, hb⟩; have n0_ := Aside0.mk (pb BK174.out hb); have n1_ := Aside0.mk (pb BK176.out hb); have n2_ := Aside0.mk (below_step (pl2 HB.out GE174.out GE176.out) hb); clear BK174; clear BK176; clear HB; have BK174 := n0_; have BK176 := n1_; have HB := n2_; clear n0_ n1_ n2_; (try clear hb); (try clear hb2); (try clear hk); (try clear hi); have hcz145_0 : w144.cell? ⟨gb174, 0, none⟩ = some (.slice (some ad175) l0_0.length c0_0) := (blk_cell BK174.out 0).trans rfl; have hcz145_1 : w144.cell? ⟨gb174, 1, none⟩ = some (.int .i64 a0_1) := (blk_cell BK174.out 1).trans rfl; have hfz145_0 := blk_frozen BK174.out 0; have hfz145_1 := blk_frozen BK174.out 1; have p187 : 0 ≤ (t186 : Int) := oda; have q187 : t186 < (l0_0.length : Int) := oda; obtain ⟨ad187, A187_7, c187_7, e187, hx187_0, hx187_1, hx187_2, hx187_3, hx187_4, hx187_5, hx187_6, hx187_7, hx187_8, hl187_7, hi187_7⟩ := at_T52 HR0_0.out t186 p187 q187; obtain rfl : ad175 = ad187 := (by injection e187); replace hx187_0 := hbc HB.out hx187_0; replace hx187_1 := hbc HB.out hx187_1; replace hx187_2 := hbc HB.out hx187_2; replace hx187_3 := hbc HB.out hx187_3; replace hx187_4 := hbc HB.out hx187_4; replace hx187_5 := hbc HB.out hx187_5; replace hx187_6 := hbc HB.out hx187_6; replace hx187_7 := hbc HB.out hx187_7; replace hx187_8 := hbc HB.out hx187_8; have HR187_7 := Aside0.mk hi187_7; have HC187_7 := Aside0.mk hl187_7; clear hi187_7 hl187_7; replace p187 := eq_true p187; replace q187 := eq_true q187)))
                        go_ret
                        exact ⟨erq, pl2 HB.out GE174.out GE176.out⟩
                       ·rw [if_neg c141] at H
                        have c141b0 : (((rd_T52 l0_0 t186).f1) == 1) = false := beq_eq_false_iff_ne.mpr c141
                        have c141b1 : (((rd_T52 l0_0 t186).f1) != 1) = true := bne_iff_ne.mpr c141
                        have H' := Aside0.mk H
                        clear H
                        have hnb146 := NB174_176.out
                        have hnc146 := NB176_174.out
                        obtain ⟨hcz147_0, hcz147_1, hfz147_0, hfz147_1⟩ := z2 BK174.out
                        go_wp2_with (first | (go_at_call 48; (with_reducible refine (spec_l10At.calls k5 _ _ l0_0 a0_1 x8_5 t186 _ ?side1 ?side2 A134.out).mono ?_); (case side1 => exact pc (Kd.C_below HR0_0.out HB.out)); (case side2 => exact HC0_0.out); rintro e w148 ⟨rfl, hb⟩; have n0_ := Aside0.mk (pb BK174.out hb); have n1_ := Aside0.mk (pb BK176.out hb); have n2_ := Aside0.mk (below_step (pl2 HB.out GE174.out GE176.out) hb); clear BK174; clear BK176; clear HB; have BK174 := n0_; have BK176 := n1_; have HB := n2_; clear n0_ n1_ n2_; (try clear hb); (try clear hb2); (try clear hk); (try clear hi); have hcz149_0 : w148.cell? ⟨gb174, 0, none⟩ = some (.slice (some ad175) l0_0.length c0_0) := (blk_cell BK174.out 0).trans rfl; have hcz149_1 : w148.cell? ⟨gb174, 1, none⟩ = some (.int .i64 a0_1) := (blk_cell BK174.out 1).trans rfl; have hfz149_0 := blk_frozen BK174.out 0; have hfz149_1 := blk_frozen BK174.out 1; have p187 : 0 ≤ (t186 : Int) := oda; have q187 : t186 < (l0_0.length : Int) := oda; obtain ⟨ad187, A187_7, c187_7, e187, hx187_0, hx187_1, hx187_2, hx187_3, hx187_4, hx187_5, hx187_6, hx187_7, hx187_8, hl187_7, hi187_7⟩ := at_T52 HR0_0.out t186 p187 q187; obtain rfl : ad175 = ad187 := (by injection e187); replace hx187_0 := hbc HB.out hx187_0; replace hx187_1 := hbc HB.out hx187_1; replace hx187_2 := hbc HB.out hx187_2; replace hx187_3 := hbc HB.out hx187_3; replace hx187_4 := hbc HB.out hx187_4; replace hx187_5 := hbc HB.out hx187_5; replace hx187_6 := hbc HB.out hx187_6; replace hx187_7 := hbc HB.out hx187_7; replace hx187_8 := hbc HB.out hx187_8; have HR187_7 := Aside0.mk hi187_7; have HC187_7 := Aside0.mk hl187_7; clear hi187_7 hl187_7; replace p187 := eq_true p187; replace q187 := eq_true q187))
                        repeat (go_quiet (first | (go_at_call 48; (with_reducible refine (spec_l10At.calls k5 _ _ l0_0 a0_1 x8_5 t186 _ ?side1 ?side2 A134.out).mono ?_); (case side1 => exact pc (Kd.C_below HR0_0.out HB.out)); (case side2 => exact HC0_0.out); rintro e w148 ⟨rfl, hb⟩; have n0_ := Aside0.mk (pb BK174.out hb); have n1_ := Aside0.mk (pb BK176.out hb); have n2_ := Aside0.mk (below_step (pl2 HB.out GE174.out GE176.out) hb); clear BK174; clear BK176; clear HB; have BK174 := n0_; have BK176 := n1_; have HB := n2_; clear n0_ n1_ n2_; (try clear hb); (try clear hb2); (try clear hk); (try clear hi); have hcz149_0 : w148.cell? ⟨gb174, 0, none⟩ = some (.slice (some ad175) l0_0.length c0_0) := (blk_cell BK174.out 0).trans rfl; have hcz149_1 : w148.cell? ⟨gb174, 1, none⟩ = some (.int .i64 a0_1) := (blk_cell BK174.out 1).trans rfl; have hfz149_0 := blk_frozen BK174.out 0; have hfz149_1 := blk_frozen BK174.out 1; have p187 : 0 ≤ (t186 : Int) := oda; have q187 : t186 < (l0_0.length : Int) := oda; obtain ⟨ad187, A187_7, c187_7, e187, hx187_0, hx187_1, hx187_2, hx187_3, hx187_4, hx187_5, hx187_6, hx187_7, hx187_8, hl187_7, hi187_7⟩ := at_T52 HR0_0.out t186 p187 q187; obtain rfl : ad175 = ad187 := (by injection e187); replace hx187_0 := hbc HB.out hx187_0; replace hx187_1 := hbc HB.out hx187_1; replace hx187_2 := hbc HB.out hx187_2; replace hx187_3 := hbc HB.out hx187_3; replace hx187_4 := hbc HB.out hx187_4; replace hx187_5 := hbc HB.out hx187_5; replace hx187_6 := hbc HB.out hx187_6; replace hx187_7 := hbc HB.out hx187_7; replace hx187_8 := hbc HB.out hx187_8; have HR187_7 := Aside0.mk hi187_7; have HC187_7 := Aside0.mk hl187_7; clear hi187_7 hl187_7; replace p187 := eq_true p187; replace q187 := eq_true q187)); try go_wp2_with (first | (go_at_call 48; (with_reducible refine (spec_l10At.calls k5 _ _ l0_0 a0_1 x8_5 t186 _ ?side1 ?side2 A134.out).mono ?_); (case side1 => exact pc (Kd.C_below HR0_0.out HB.out)); (case side2 => exact HC0_0.out); rintro e w148 ⟨rfl, hb⟩; have n0_ := Aside0.mk (pb BK174.out hb); have n1_ := Aside0.mk (pb BK176.out hb); have n2_ := Aside0.mk (below_step (pl2 HB.out GE174.out GE176.out) hb); clear BK174; clear BK176; clear HB; have BK174 := n0_; have BK176 := n1_; have HB := n2_; clear n0_ n1_ n2_; (try clear hb); (try clear hb2); (try clear hk); (try clear hi); have hcz149_0 : w148.cell? ⟨gb174, 0, none⟩ = some (.slice (some ad175) l0_0.length c0_0) := (blk_cell BK174.out 0).trans rfl; have hcz149_1 : w148.cell? ⟨gb174, 1, none⟩ = some (.int .i64 a0_1) := (blk_cell BK174.out 1).trans rfl; have hfz149_0 := blk_frozen BK174.out 0; have hfz149_1 := blk_frozen BK174.out 1; have p187 : 0 ≤ (t186 : Int) := oda; have q187 : t186 < (l0_0.length : Int) := oda; obtain ⟨ad187, A187_7, c187_7, e187, hx187_0, hx187_1, hx187_2, hx187_3, hx187_4, hx187_5, hx187_6, hx187_7, hx187_8, hl187_7, hi187_7⟩ := at_T52 HR0_0.out t186 p187 q187; obtain rfl : ad175 = ad187 := (by injection e187); replace hx187_0 := hbc HB.out hx187_0; replace hx187_1 := hbc HB.out hx187_1; replace hx187_2 := hbc HB.out hx187_2; replace hx187_3 := hbc HB.out hx187_3; replace hx187_4 := hbc HB.out hx187_4; replace hx187_5 := hbc HB.out hx187_5; replace hx187_6 := hbc HB.out hx187_6; replace hx187_7 := hbc HB.out hx187_7; replace hx187_8 := hbc HB.out hx187_8; have HR187_7 := Aside0.mk hi187_7; have HC187_7 := Aside0.mk hl187_7; clear hi187_7 hl187_7; replace p187 := eq_true p187; replace q187 := eq_true q187)))
                        go_roundg k5
                        case measure => have := HJ4.out; have := HJ70.out; have := HJ98.out; have := HK4.out; have := HK5.out; omega
                        case rel => exact ⟨((rd_T52 l0_0 t186).f1), (wrap64 (x9_5 + 1)), eqa, eqa, H', ⟨by have := HJ4.out; have := HJ70.out; have := HJ98.out; have := HK4.out; have := HK5.out; omega⟩, ⟨pk BK174.out⟩, ⟨pk BK176.out⟩, ⟨pl2 HB.out GE174.out GE176.out⟩⟩
                      ·rw [if_neg c140] at H
                       exact absurd H (by simp)
                     ·rw [if_neg c139] at H
                      exact absurd H (by simp)
                   ·rw [if_neg c133] at H
                    have c133b0 : decide (x9_5 < 4) = false := decide_eq_false c133
                    clear c133
                    obtain rfl := Option.some.inj H
                    go_wp2
                    repeat (go_quiet (fail); try go_wp2)
                    go_ret
                    exact ⟨erq, pl2 HB.out GE174.out GE176.out⟩
   ·rw [if_neg c4] at H
    exact absurd H (by simp)
  ·rw [if_neg c3] at H
   exact absurd H (by simp)

end Go.Proofs.Ytnhbfbgflgplcaa.QTW
