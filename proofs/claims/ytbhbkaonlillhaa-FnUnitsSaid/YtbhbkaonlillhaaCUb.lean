/- Contracts: sums of texts. -/
import Derived.Test.YtbhbkaonlillhaaCUa
namespace Go.Proofs.Ytbhbkaonlillhaa
open Go Go.Abs Go.Proofs Go.Tm
set_option linter.unusedSimpArgs false
set_option linter.unusedVariables false
set_option maxRecDepth 10000
variable {Z : TypeId → Nat} {G : World → Prop} {B0 : Nat}
abbrev uA (x : Int) : AV := .c (.sc (.int .u32 x))
theorem w_u32 (n : Int) : 0 ≤ IntKind.u32.wrap n ∧ IntKind.u32.wrap n ≤ 4294967295 := by
  unfold IntKind.wrap
  simp [IntKind.bits, IntKind.signed]
  omega
theorem xor_u32 (a b : Int) : 0 ≤ xorI .u32 a b ∧ xorI .u32 a b ≤ 4294967295 := w_u32 _
theorem w_u32_eq {n : Int} (h : 0 ≤ n ∧ n ≤ 4294967295) : IntKind.u32.wrap n = n := by
  unfold IntKind.wrap
  simp [IntKind.bits, IntKind.signed]
  omega
theorem sumH_bound {s : Int} (h : 0 ≤ s ∧ s ≤ 4294967295) : 0 ≤ sumH s ∧ sumH s ≤ 4294967295 := by
  unfold sumH
  split
  · exact xor_u32 _ _
  · rw [Int.tdiv_eq_ediv_of_nonneg h.1]; omega
theorem sumR_bound : ∀ (n : Nat) {s : Int}, (0 ≤ s ∧ s ≤ 4294967295) → 0 ≤ sumR n s ∧ sumR n s ≤ 4294967295
  | 0, s, h => h
  | n + 1, s, h => sumR_bound n (sumH_bound h)
set_option maxHeartbeats 1000000 in
theorem SumMore_spec (hZ : ZOk Try.prog Z) (s : Int) (t : ByteArray) (hs : 0 ≤ s ∧ s ≤ 4294967295) : Does Z Try.prog G B0 100 [uA s, sA t] [] [] (fun y _ => y = uA (sumF t t.size 0 s)) := by
  generalize hr : sumF t t.size 0 s = r
  refine Does.bodyF hZ Try.func100 rfl rfl (Nat.le_of_ble_eq_true rfl) fun hf => ?_
  simp at hf
  simp [Try.f100]
  refine LoopA.run hZ (fun p : Nat × Int => ⟨33, [(0, uA p.2), (1, sA t), (5, iA p.1)], [], []⟩) (fun p => p.1 ≤ t.size ∧ (0 ≤ p.2 ∧ p.2 ≤ 4294967295) ∧ sumF t (t.size - p.1) p.1 p.2 = r) (fun p => t.size - p.1) (0, s) ⟨Nat.zero_le _, hs, hr⟩ (by first | exact Sub.by [] (by first | (simp []; done) | fail)) fun ⟨i, s⟩ ⟨hi, hs, he⟩ => ?_
  dsimp only at hi hs he
  simp
  refine Br.dec (fun h => ?_) (fun h => ?_) <;> simp [h]
  · have hw : IntKind.i64.wrap ((i : Int) + 1) = ((i + 1 : Nat) : Int) := wrap_i64 (by omega)
    have hbr := byteAt_range t i
    have hwb : IntKind.u32.wrap (byteAt t i) = byteAt t i := w_u32_eq (by omega)
    obtain ⟨m, hm⟩ : ∃ m, t.size - i = m + 1 := ⟨t.size - i - 1, by omega⟩
    rw [hm, sumF] at he
    simp [hwb]
    generalize hx : xorI .u32 s (byteAt t i) = x at he
    have hxb : 0 ≤ x ∧ x ≤ 4294967295 := by rw [← hx]; exact xor_u32 _ _
    refine LoopA.run hZ (fun p : Nat × Int => ⟨33, [(0, uA p.2), (1, sA t), (5, iA i), (6, iA p.1)], [], []⟩) (fun p => p.1 ≤ 8 ∧ (0 ≤ p.2 ∧ p.2 ≤ 4294967295) ∧ sumR (8 - p.1) p.2 = sumR 8 x) (fun p => 8 - p.1) (0, x) ⟨Nat.zero_le _, hxb, rfl⟩ (by first | exact Sub.by [] (by first | (simp []; done) | fail)) fun ⟨k, s⟩ ⟨hk, hs, hu⟩ => ?_
    dsimp only at hk hs hu
    simp
    refine Br.dec (fun h2 => ?_) (fun h2 => ?_) <;> simp [h2]
    · have hwk : IntKind.i64.wrap ((k : Int) + 1) = ((k + 1 : Nat) : Int) := wrap_i64 (by omega)
      obtain ⟨q, hq⟩ : ∃ q, 8 - k = q + 1 := ⟨8 - k - 1, by omega⟩
      rw [hq, sumR] at hu
      have hdv : IntKind.u32.wrap (s.tdiv 2) = s.tdiv 2 := w_u32_eq (by rw [Int.tdiv_eq_ediv_of_nonneg hs.1]; omega)
      have hsb := sumH_bound hs
      refine Br.dec (fun h3 => ?_) (fun h3 => ?_) <;> simp [h3, hdv]
      · have e : sumH s = xorI .u32 (s.tdiv 2) 3558460437 := by unfold sumH; rw [if_pos h3]
        exact Again.mk (k + 1, sumH s) ⟨by dsimp only; omega, hsb, by dsimp only; rw [show 8 - (k + 1) = q by omega]; exact hu⟩ (by dsimp only; omega) (by first | exact Sub.by [] (by first | (simp [hwk, e, hdv]; done) | fail))
      · have e : sumH s = s.tdiv 2 := by unfold sumH; rw [if_neg h3]
        exact Again.mk (k + 1, sumH s) ⟨by dsimp only; omega, hsb, by dsimp only; rw [show 8 - (k + 1) = q by omega]; exact hu⟩ (by dsimp only; omega) (by first | exact Sub.by [] (by first | (simp [hwk, e, hdv]; done) | fail))
    · rw [show 8 - k = 0 by omega, sumR] at hu
      exact Again.mk (i + 1, s) ⟨by dsimp only; omega, hs, by dsimp only; rw [show t.size - (i + 1) = m by omega, hu]; exact he⟩ (by dsimp only; omega) (by first | exact Sub.by [] (by first | (simp [hw]; done) | fail))
  · rw [show t.size - i = 0 by omega, sumF] at he
    exact he
theorem SumOf_spec (hZ : ZOk Try.prog Z) (t : ByteArray) : Does Z Try.prog G B0 75 [sA t] [] [] (fun y _ => y = uA (sumV t)) := by
  refine Does.bodyF hZ Try.func75 rfl rfl (Nat.le_of_ble_eq_true rfl) fun hf => ?_
  simp [Try.f75]
  first | refine CallA.snapE (SumMore_spec hZ 4294967295 t (by omega)) (by first | (simp []; done) | fail) (by first | (simp []; done) | fail) ?_ | refine CallD.snapE (SumMore_spec hZ 4294967295 t (by omega)) (by first | (simp []; done) | fail) (by first | (simp []; done) | fail) ?_
  simp [sumV]
set_option maxHeartbeats 1000000 in
theorem iSumMore_spec (hZ : ZOk Try.prog Z) (s : Int) (t : ByteArray) (hs : 0 ≤ s ∧ s ≤ 4294967295) : Does Z Try.prog G B0 99 [uA s, sA t] [] [] (fun y _ => y = uA (sumF t t.size 0 s)) := by
  generalize hr : sumF t t.size 0 s = r
  refine Does.bodyF hZ Try.func99 rfl rfl (Nat.le_of_ble_eq_true rfl) fun hf => ?_
  simp at hf
  simp [Try.f99]
  refine LoopA.run hZ (fun p : Nat × Int => ⟨33, [(0, uA p.2), (1, sA t), (5, iA p.1)], [], []⟩) (fun p => p.1 ≤ t.size ∧ (0 ≤ p.2 ∧ p.2 ≤ 4294967295) ∧ sumF t (t.size - p.1) p.1 p.2 = r) (fun p => t.size - p.1) (0, s) ⟨Nat.zero_le _, hs, hr⟩ (by first | exact Sub.by [] (by first | (simp []; done) | fail)) fun ⟨i, s⟩ ⟨hi, hs, he⟩ => ?_
  dsimp only at hi hs he
  simp
  refine Br.dec (fun h => ?_) (fun h => ?_) <;> simp [h]
  · have hw : IntKind.i64.wrap ((i : Int) + 1) = ((i + 1 : Nat) : Int) := wrap_i64 (by omega)
    have hbr := byteAt_range t i
    have hwb : IntKind.u32.wrap (byteAt t i) = byteAt t i := w_u32_eq (by omega)
    obtain ⟨m, hm⟩ : ∃ m, t.size - i = m + 1 := ⟨t.size - i - 1, by omega⟩
    rw [hm, sumF] at he
    simp [hwb]
    generalize hx : xorI .u32 s (byteAt t i) = x at he
    have hxb : 0 ≤ x ∧ x ≤ 4294967295 := by rw [← hx]; exact xor_u32 _ _
    refine LoopA.run hZ (fun p : Nat × Int => ⟨33, [(0, uA p.2), (1, sA t), (5, iA i), (6, iA p.1)], [], []⟩) (fun p => p.1 ≤ 8 ∧ (0 ≤ p.2 ∧ p.2 ≤ 4294967295) ∧ sumR (8 - p.1) p.2 = sumR 8 x) (fun p => 8 - p.1) (0, x) ⟨Nat.zero_le _, hxb, rfl⟩ (by first | exact Sub.by [] (by first | (simp []; done) | fail)) fun ⟨k, s⟩ ⟨hk, hs, hu⟩ => ?_
    dsimp only at hk hs hu
    simp
    refine Br.dec (fun h2 => ?_) (fun h2 => ?_) <;> simp [h2]
    · have hwk : IntKind.i64.wrap ((k : Int) + 1) = ((k + 1 : Nat) : Int) := wrap_i64 (by omega)
      obtain ⟨q, hq⟩ : ∃ q, 8 - k = q + 1 := ⟨8 - k - 1, by omega⟩
      rw [hq, sumR] at hu
      have hdv : IntKind.u32.wrap (s.tdiv 2) = s.tdiv 2 := w_u32_eq (by rw [Int.tdiv_eq_ediv_of_nonneg hs.1]; omega)
      have hsb := sumH_bound hs
      refine Br.dec (fun h3 => ?_) (fun h3 => ?_) <;> simp [h3, hdv]
      · have e : sumH s = xorI .u32 (s.tdiv 2) 3558460437 := by unfold sumH; rw [if_pos h3]
        exact Again.mk (k + 1, sumH s) ⟨by dsimp only; omega, hsb, by dsimp only; rw [show 8 - (k + 1) = q by omega]; exact hu⟩ (by dsimp only; omega) (by first | exact Sub.by [] (by first | (simp [hwk, e, hdv]; done) | fail))
      · have e : sumH s = s.tdiv 2 := by unfold sumH; rw [if_neg h3]
        exact Again.mk (k + 1, sumH s) ⟨by dsimp only; omega, hsb, by dsimp only; rw [show 8 - (k + 1) = q by omega]; exact hu⟩ (by dsimp only; omega) (by first | exact Sub.by [] (by first | (simp [hwk, e, hdv]; done) | fail))
    · rw [show 8 - k = 0 by omega, sumR] at hu
      exact Again.mk (i + 1, s) ⟨by dsimp only; omega, hs, by dsimp only; rw [show t.size - (i + 1) = m by omega, hu]; exact he⟩ (by dsimp only; omega) (by first | exact Sub.by [] (by first | (simp [hw]; done) | fail))
  · rw [show t.size - i = 0 by omega, sumF] at he
    exact he
theorem iSumOf_spec (hZ : ZOk Try.prog Z) (t : ByteArray) : Does Z Try.prog G B0 74 [sA t] [] [] (fun y _ => y = uA (sumV t)) := by
  refine Does.bodyF hZ Try.func74 rfl rfl (Nat.le_of_ble_eq_true rfl) fun hf => ?_
  simp [Try.f74]
  first | refine CallA.snapE (iSumMore_spec hZ 4294967295 t (by omega)) (by first | (simp []; done) | fail) (by first | (simp []; done) | fail) ?_ | refine CallD.snapE (iSumMore_spec hZ 4294967295 t (by omega)) (by first | (simp []; done) | fail) (by first | (simp []; done) | fail) ?_
  simp [sumV]
end Go.Proofs.Ytbhbkaonlillhaa
