/- Contracts: one decimal digit. -/
import Derived.Test.YtbhbkaonlillhaaGreatDoorCEp
import Derived.Test.YtbhbkaonlillhaaGreatDoorTn
namespace Go.Proofs.YtbhbkaonlillhaaGreatDoor
open Go Go.Abs Go.Proofs Go.Tm
set_option linter.unusedSimpArgs false
set_option linter.unusedVariables false
set_option maxRecDepth 10000
variable {Z : TypeId → Nat} {G : World → Prop} {B0 : Nat}
theorem l01Figure_spec (hZ : ZOk Tryz.prog Z) (x : Int) (hx : 0 ≤ x ∧ x ≤ 9) : Does Z Tryz.prog G B0 113 [iA x] [] [] (fun y _ => y = .c (.sc (.int .u8 (48 + x)))) := by
  have hw : IntKind.u8.wrap (IntKind.i64.wrap (48 + x)) = 48 + x := by
    rcases (by omega : x = 0 ∨ x = 1 ∨ x = 2 ∨ x = 3 ∨ x = 4 ∨ x = 5 ∨ x = 6 ∨ x = 7 ∨ x = 8 ∨ x = 9) with rfl | rfl | rfl | rfl | rfl | rfl | rfl | rfl | rfl | rfl <;> rfl
  have hl : x < 10 := by omega
  refine Does.bodyF hZ Tryz.func113 rfl rfl (Nat.le_of_ble_eq_true rfl) fun hf => ?_
  simp [Tryz.f113, hw, hl]
theorem Decimal_spec (hZ : ZOk Tryz.prog Z) (n : Int) (hn : 0 ≤ n ∧ n ≤ 8) : Does Z Tryz.prog G B0 46 [iA n] [] [] (fun y _ => y = sA (decT n)) := by
  refine Does.bodyF hZ Tryz.func46 rfl rfl (Nat.le_of_ble_eq_true rfl) fun hf => ?_
  simp [Tryz.f46]
  refine Br.dec (fun h => ?_) (fun h => ?_) <;> simp [h]
  · rfl
  have h0 : ¬ n < 0 := by omega
  simp [h0]
  refine LoopA.run hZ (fun p : Int × ByteArray => ⟨30, [(0, iA p.1), (3, bA false), (4, sA p.2)], [], []⟩) (fun p => (p.1 = n ∧ p.2 = ⟨#[]⟩) ∨ (p.1 = 0 ∧ p.2 = decT n)) (fun p => p.1.toNat) (n, ⟨#[]⟩) (.inl ⟨rfl, rfl⟩) (by first | exact Sub.by [] (by first | (simp []; done) | fail)) fun ⟨k, s⟩ hk => ?_
  dsimp only at hk
  simp
  rcases hk with ⟨rfl, rfl⟩ | ⟨rfl, rfl⟩
  · have e1 : k.tmod 10 = k := by rw [Int.tmod_eq_emod_of_nonneg hn.1]; omega
    have e2 : IntKind.i64.wrap (k.tdiv 10) = 0 := by
      rw [Int.tdiv_eq_ediv_of_nonneg hn.1, show k / 10 = 0 by omega]; rfl
    simp [h, e1, h0]
    first | refine CallA.snapE (l01Figure_spec hZ k (by omega)) (by first | (simp []; done) | fail) (by first | (simp []; done) | fail) ?_ | refine CallD.snapE (l01Figure_spec hZ k (by omega)) (by first | (simp []; done) | fail) (by first | (simp []; done) | fail) ?_
    simp
    refine Need.mk (by rw [bytesText_size]; simp) ?_
    have e3 : bytesText [48 + k] ++ (⟨#[]⟩ : ByteArray) = decT k := by apply ba_ext; rw [ba_app]; simp [decT]
    simp [e2, e3]
    exact Again.mk (0, decT k) (.inr ⟨rfl, rfl⟩) (by dsimp only; omega) (by first | exact Sub.by [] (by first | (simp []; done) | fail))
  · simp
end Go.Proofs.YtbhbkaonlillhaaGreatDoor
