/- Contracts. -/
import Derived.Test.YtbhbkaonlillhaaGreatDoorCEq
import Derived.Test.YtbhbkaonlillhaaGreatDoorTn
/- Contracts: sums of texts, whole numbers as texts. -/
namespace Go.Proofs.YtbhbkaonlillhaaGreatDoor
open Go Go.Abs Go.Proofs Go.Tm
set_option linter.unusedSimpArgs false
set_option linter.unusedVariables false
set_option maxRecDepth 10000
variable {Z : TypeId → Nat} {G : World → Prop} {B0 : Nat}
abbrev uA (x : Int) : AV := .c (.sc (.int .u32 x))
theorem w_u32 (n : Int) : 0 ≤ IntKind.u32.wrap n ∧ IntKind.u32.wrap n ≤ 4294967295 := by
  unfold IntKind.wrap
  simp [IntKind.bits, IntKind.signed]
  omega
theorem xor_u32 (a b : Int) : 0 ≤ xorI .u32 a b ∧ xorI .u32 a b ≤ 4294967295 := w_u32 _
theorem w_u32_eq {n : Int} (h : 0 ≤ n ∧ n ≤ 4294967295) : IntKind.u32.wrap n = n := by
  unfold IntKind.wrap
  simp [IntKind.bits, IntKind.signed]
  omega
theorem sumH_bound {s : Int} (h : 0 ≤ s ∧ s ≤ 4294967295) : 0 ≤ sumH s ∧ sumH s ≤ 4294967295 := by
  unfold sumH
  split
  · exact xor_u32 _ _
  · rw [Int.tdiv_eq_ediv_of_nonneg h.1]; omega
set_option maxHeartbeats 1000000 in
theorem SumMore_spec (hZ : ZOk Tryz.prog Z) (s : Int) (t : ByteArray) (hs : 0 ≤ s ∧ s ≤ 4294967295) : Does Z Tryz.prog G B0 190 [uA s, sA t] [] [] (fun y _ => y = uA (sumF t t.size 0 s)) := by
  generalize hr : sumF t t.size 0 s = r
  refine Does.bodyF hZ Tryz.func190 rfl rfl (Nat.le_of_ble_eq_true rfl) fun hf => ?_
  simp at hf
  simp [Tryz.f190]
  refine LoopA.run hZ (fun p : Nat × Int => ⟨33, [(0, uA p.2), (1, sA t), (5, iA p.1)], [], []⟩) (fun p => p.1 ≤ t.size ∧ (0 ≤ p.2 ∧ p.2 ≤ 4294967295) ∧ sumF t (t.size - p.1) p.1 p.2 = r) (fun p => t.size - p.1) (0, s) ⟨Nat.zero_le _, hs, hr⟩ (by first | exact Sub.by [] (by first | (simp []; done) | fail)) fun ⟨i, s⟩ ⟨hi, hs, he⟩ => ?_
  dsimp only at hi hs he
  simp
  refine Br.dec (fun h => ?_) (fun h => ?_) <;> simp [h]
  · have hw : IntKind.i64.wrap ((i : Int) + 1) = ((i + 1 : Nat) : Int) := wrap_i64 (by omega)
    have hbr := byteAt_range t i
    have hwb : IntKind.u32.wrap (byteAt t i) = byteAt t i := w_u32_eq (by omega)
    obtain ⟨m, hm⟩ : ∃ m, t.size - i = m + 1 := ⟨t.size - i - 1, by omega⟩
    rw [hm, sumF] at he
    simp [hwb]
    generalize hx : xorI .u32 s (byteAt t i) = x at he
    have hxb : 0 ≤ x ∧ x ≤ 4294967295 := by rw [← hx]; exact xor_u32 _ _
    refine LoopA.run hZ (fun p : Nat × Int => ⟨33, [(0, uA p.2), (1, sA t), (5, iA i), (6, iA p.1)], [], []⟩) (fun p => p.1 ≤ 8 ∧ (0 ≤ p.2 ∧ p.2 ≤ 4294967295) ∧ sumR (8 - p.1) p.2 = sumR 8 x) (fun p => 8 - p.1) (0, x) ⟨Nat.zero_le _, hxb, rfl⟩ (by first | exact Sub.by [] (by first | (simp []; done) | fail)) fun ⟨k, s⟩ ⟨hk, hs, hu⟩ => ?_
    dsimp only at hk hs hu
    simp
    refine Br.dec (fun h2 => ?_) (fun h2 => ?_) <;> simp [h2]
    · have hwk : IntKind.i64.wrap ((k : Int) + 1) = ((k + 1 : Nat) : Int) := wrap_i64 (by omega)
      obtain ⟨q, hq⟩ : ∃ q, 8 - k = q + 1 := ⟨8 - k - 1, by omega⟩
      rw [hq, sumR] at hu
      have hdv : IntKind.u32.wrap (s.tdiv 2) = s.tdiv 2 := w_u32_eq (by rw [Int.tdiv_eq_ediv_of_nonneg hs.1]; omega)
      have hsb := sumH_bound hs
      refine Br.dec (fun h3 => ?_) (fun h3 => ?_) <;> simp [h3, hdv]
      · have e : sumH s = xorI .u32 (s.tdiv 2) 3558460437 := by unfold sumH; rw [if_pos h3]
        exact Again.mk (k + 1, sumH s) ⟨by dsimp only; omega, hsb, by dsimp only; rw [show 8 - (k + 1) = q by omega]; exact hu⟩ (by dsimp only; omega) (by first | exact Sub.by [] (by first | (simp [hwk, e, hdv]; done) | fail))
      · have e : sumH s = s.tdiv 2 := by unfold sumH; rw [if_neg h3]
        exact Again.mk (k + 1, sumH s) ⟨by dsimp only; omega, hsb, by dsimp only; rw [show 8 - (k + 1) = q by omega]; exact hu⟩ (by dsimp only; omega) (by first | exact Sub.by [] (by first | (simp [hwk, e, hdv]; done) | fail))
    · rw [show 8 - k = 0 by omega, sumR] at hu
      exact Again.mk (i + 1, s) ⟨by dsimp only; omega, hs, by dsimp only; rw [show t.size - (i + 1) = m by omega, hu]; exact he⟩ (by dsimp only; omega) (by first | exact Sub.by [] (by first | (simp [hw]; done) | fail))
  · rw [show t.size - i = 0 by omega, sumF] at he
    exact he
theorem SumOf_spec (hZ : ZOk Tryz.prog Z) (t : ByteArray) : Does Z Tryz.prog G B0 146 [sA t] [] [] (fun y _ => y = uA (sumV t)) := by
  refine Does.bodyF hZ Tryz.func146 rfl rfl (Nat.le_of_ble_eq_true rfl) fun hf => ?_
  simp [Tryz.f146]
  first | refine CallA.snapE (SumMore_spec hZ 4294967295 t (by omega)) (by first | (simp []; done) | fail) (by first | (simp []; done) | fail) ?_ | refine CallD.snapE (SumMore_spec hZ 4294967295 t (by omega)) (by first | (simp []; done) | fail) (by first | (simp []; done) | fail) ?_
  simp [sumV]
set_option maxHeartbeats 1000000 in
theorem iSumMore_spec (hZ : ZOk Tryz.prog Z) (s : Int) (t : ByteArray) (hs : 0 ≤ s ∧ s ≤ 4294967295) : Does Z Tryz.prog G B0 193 [uA s, sA t] [] [] (fun y _ => y = uA (sumF t t.size 0 s)) := by
  generalize hr : sumF t t.size 0 s = r
  refine Does.bodyF hZ Tryz.func193 rfl rfl (Nat.le_of_ble_eq_true rfl) fun hf => ?_
  simp at hf
  simp [Tryz.f193]
  refine LoopA.run hZ (fun p : Nat × Int => ⟨33, [(0, uA p.2), (1, sA t), (5, iA p.1)], [], []⟩) (fun p => p.1 ≤ t.size ∧ (0 ≤ p.2 ∧ p.2 ≤ 4294967295) ∧ sumF t (t.size - p.1) p.1 p.2 = r) (fun p => t.size - p.1) (0, s) ⟨Nat.zero_le _, hs, hr⟩ (by first | exact Sub.by [] (by first | (simp []; done) | fail)) fun ⟨i, s⟩ ⟨hi, hs, he⟩ => ?_
  dsimp only at hi hs he
  simp
  refine Br.dec (fun h => ?_) (fun h => ?_) <;> simp [h]
  · have hw : IntKind.i64.wrap ((i : Int) + 1) = ((i + 1 : Nat) : Int) := wrap_i64 (by omega)
    have hbr := byteAt_range t i
    have hwb : IntKind.u32.wrap (byteAt t i) = byteAt t i := w_u32_eq (by omega)
    obtain ⟨m, hm⟩ : ∃ m, t.size - i = m + 1 := ⟨t.size - i - 1, by omega⟩
    rw [hm, sumF] at he
    simp [hwb]
    generalize hx : xorI .u32 s (byteAt t i) = x at he
    have hxb : 0 ≤ x ∧ x ≤ 4294967295 := by rw [← hx]; exact xor_u32 _ _
    refine LoopA.run hZ (fun p : Nat × Int => ⟨33, [(0, uA p.2), (1, sA t), (5, iA i), (6, iA p.1)], [], []⟩) (fun p => p.1 ≤ 8 ∧ (0 ≤ p.2 ∧ p.2 ≤ 4294967295) ∧ sumR (8 - p.1) p.2 = sumR 8 x) (fun p => 8 - p.1) (0, x) ⟨Nat.zero_le _, hxb, rfl⟩ (by first | exact Sub.by [] (by first | (simp []; done) | fail)) fun ⟨k, s⟩ ⟨hk, hs, hu⟩ => ?_
    dsimp only at hk hs hu
    simp
    refine Br.dec (fun h2 => ?_) (fun h2 => ?_) <;> simp [h2]
    · have hwk : IntKind.i64.wrap ((k : Int) + 1) = ((k + 1 : Nat) : Int) := wrap_i64 (by omega)
      obtain ⟨q, hq⟩ : ∃ q, 8 - k = q + 1 := ⟨8 - k - 1, by omega⟩
      rw [hq, sumR] at hu
      have hdv : IntKind.u32.wrap (s.tdiv 2) = s.tdiv 2 := w_u32_eq (by rw [Int.tdiv_eq_ediv_of_nonneg hs.1]; omega)
      have hsb := sumH_bound hs
      refine Br.dec (fun h3 => ?_) (fun h3 => ?_) <;> simp [h3, hdv]
      · have e : sumH s = xorI .u32 (s.tdiv 2) 3558460437 := by unfold sumH; rw [if_pos h3]
        exact Again.mk (k + 1, sumH s) ⟨by dsimp only; omega, hsb, by dsimp only; rw [show 8 - (k + 1) = q by omega]; exact hu⟩ (by dsimp only; omega) (by first | exact Sub.by [] (by first | (simp [hwk, e, hdv]; done) | fail))
      · have e : sumH s = s.tdiv 2 := by unfold sumH; rw [if_neg h3]
        exact Again.mk (k + 1, sumH s) ⟨by dsimp only; omega, hsb, by dsimp only; rw [show 8 - (k + 1) = q by omega]; exact hu⟩ (by dsimp only; omega) (by first | exact Sub.by [] (by first | (simp [hwk, e, hdv]; done) | fail))
    · rw [show 8 - k = 0 by omega, sumR] at hu
      exact Again.mk (i + 1, s) ⟨by dsimp only; omega, hs, by dsimp only; rw [show t.size - (i + 1) = m by omega, hu]; exact he⟩ (by dsimp only; omega) (by first | exact Sub.by [] (by first | (simp [hw]; done) | fail))
  · rw [show t.size - i = 0 by omega, sumF] at he
    exact he
theorem iSumOf_spec (hZ : ZOk Tryz.prog Z) (t : ByteArray) : Does Z Tryz.prog G B0 154 [sA t] [] [] (fun y _ => y = uA (sumV t)) := by
  refine Does.bodyF hZ Tryz.func154 rfl rfl (Nat.le_of_ble_eq_true rfl) fun hf => ?_
  simp [Tryz.f154]
  first | refine CallA.snapE (iSumMore_spec hZ 4294967295 t (by omega)) (by first | (simp []; done) | fail) (by first | (simp []; done) | fail) ?_ | refine CallD.snapE (iSumMore_spec hZ 4294967295 t (by omega)) (by first | (simp []; done) | fail) (by first | (simp []; done) | fail) ?_
  simp [sumV]
end Go.Proofs.YtbhbkaonlillhaaGreatDoor

/- Contracts: whole numbers as texts; frames. -/
namespace Go.Proofs.YtbhbkaonlillhaaGreatDoor
open Go Go.Abs Go.Proofs Go.Tm
set_option linter.unusedSimpArgs false
set_option linter.unusedVariables false
set_option maxRecDepth 10000
variable {Z : TypeId → Nat} {G : World → Prop} {B0 : Nat}
def byO (l : List Int) : Cell := .row true 5 (l.map fun x => [.sc (.int .u8 x)])
theorem w_u8 {n : Int} (h : 0 ≤ n) : IntKind.u8.wrap n = n % 256 := by
  unfold IntKind.wrap
  simp [IntKind.bits, IntKind.signed]
theorem w_u8_eq {n : Int} (h : 0 ≤ n ∧ n ≤ 255) : IntKind.u8.wrap n = n := by rw [w_u8 h.1]; omega
theorem rowBytes_map : ∀ (l : List Int), rowBytes (l.map fun x => [Cell.sc (.int .u8 x)]) = some l
  | [] => rfl
  | a :: l => by simp [rowBytes_map l]
theorem rowBytes_snoc (l : List Int) (a : Int) : rowBytes ((l.map fun x => [Cell.sc (.int .u8 x)]) ++ [[Cell.sc (.int .u8 a)]]) = some (l ++ [a]) := by
  rw [← rowBytes_map (l ++ [a])]; simp
def VInv (n : Int) (m : Int) (o : List Int) : Prop := 0 ≤ m ∧ m ≤ 9223372036854775807 ∧ ∃ d, d + o.length = 8 ∧ m < 128 ^ (d + 1) ∧ o ++ vd d m = vd 8 n
theorem vinv_zero {n : Int} (h0 : 0 ≤ n) (h1 : n ≤ 9223372036854775807) : VInv n n [] := ⟨h0, h1, 8, rfl, by have h9 : (128 : Int) ^ (8 + 1) = 9223372036854775808 := (by decide); omega, rfl⟩
theorem vinv_step {n m : Int} {o : List Int} (h : VInv n m o) (hm : 127 < m) : VInv n (m / 128) (o ++ [m % 128 + 128]) := by
  obtain ⟨h0, h1, d, hd, hl, he⟩ := h
  cases d with
  | zero => simp at hl; omega
  | succ d =>
    refine ⟨by omega, by omega, d, by simp; omega, by have h9 : (128 : Int) ^ (d + 1 + 1) = 128 ^ (d + 1) * 128 := (Int.pow_succ ..); omega, ?_⟩
    rw [← he, vd, if_pos (by omega)]; simp
theorem vinv_end {n m : Int} {o : List Int} (h : VInv n m o) (hm : ¬ 127 < m) : bytesText (o ++ [m % 256]) = varT n := by
  obtain ⟨h0, h1, d, hd, hl, he⟩ := h
  unfold varT
  rw [← he]
  cases d with
  | zero => rfl
  | succ d => rw [vd, if_neg (by omega)]
theorem vinv_len {n m : Int} {o : List Int} (h : VInv n m o) : o.length ≤ 8 := by obtain ⟨_, _, d, hd, _⟩ := h; omega
theorem l01Var_spec (hZ : ZOk Tryz.prog Z) (n : Int) (hn : 0 ≤ n ∧ n ≤ 9223372036854775807) : Does Z Tryz.prog G B0 144 [iA n] [] [] (fun y _ => y = sA (varT n)) := by
  refine Does.bodyF hZ Tryz.func144 rfl rfl (Nat.le_of_ble_eq_true rfl) fun hf => ?_
  simp [Tryz.f144]
  refine LoopA.run hZ (fun p : Int × List Int => ⟨22, [(0, iA p.1), (3, .bor [(0, 0)] 0 p.2.length)], [[byO p.2]], [false]⟩) (fun p => VInv n p.1 p.2) (fun p => p.1.toNat) (n, []) (vinv_zero hn.1 hn.2) (by first | exact Sub.by [0] (by first | (simp [byO]; done) | fail) | exact Sub.by [1] (by first | (simp [byO]; done) | fail)) fun ⟨m, o⟩ hi => ?_
  dsimp only at hi
  have hol := vinv_len hi
  have h0 := hi.1
  have h1 := hi.2.1
  simp [byO]
  refine Br.dec (fun h => ?_) (fun h => ?_) <;> simp [h]
  · have e1 : IntKind.u8.wrap (IntKind.i64.wrap (m.tmod 128 + 128)) = m % 128 + 128 := by
      rw [Int.tmod_eq_emod_of_nonneg h0, wrap_i64 (by omega), w_u8_eq (by omega)]
    have e2 : IntKind.i64.wrap (m.tdiv 128) = m / 128 := by rw [Int.tdiv_eq_ediv_of_nonneg h0, wrap_i64 (by omega)]
    first | refine Need.mk ⟨by omega, by omega⟩ ?_ | refine Need.mk (by omega) ?_
    simp [e1, e2]
    exact Again.mk (m / 128, o ++ [m % 128 + 128]) (vinv_step hi h) (by dsimp only; omega) (by first | exact Sub.by [2] (by first | (simp [e1, e2, byO]; done) | fail) | exact Sub.by [3] (by first | (simp [e1, e2, byO]; done) | fail) | exact Sub.by [4] (by first | (simp [e1, e2, byO]; done) | fail))
  · have e3 := w_u8 h0
    have e4 := vinv_end hi h
    first | refine Need.mk ⟨by omega, by omega⟩ ?_ | refine Need.mk (by omega) ?_
    have e5 : o.length + 1 ≤ 9223372036854775807 := by omega
    simp [e3, e4, e5, rowBytes_snoc]
theorem VarText_spec (hZ : ZOk Tryz.prog Z) (n : Int) (hn : 0 ≤ n ∧ n ≤ 1000000000) : Does Z Tryz.prog G B0 153 [iA n] [] [] (fun y _ => y = .tup [sA (varT n), bA true]) := by
  refine Does.bodyF hZ Tryz.func153 rfl rfl (Nat.le_of_ble_eq_true rfl) fun hf => ?_
  simp [Tryz.f153]
  have hin : inB n 0 1000000000 = true := inB_iff.2 hn
  first | refine CallA.snapE (within_spec hZ n 0 1000000000) (by first | (simp []; done) | fail) (by first | (simp []; done) | fail) ?_ | refine CallD.snapE (within_spec hZ n 0 1000000000) (by first | (simp []; done) | fail) (by first | (simp []; done) | fail) ?_
  simp [hin]
  refine LoopA.run hZ (fun p : Int × List Int => ⟨25, [(0, iA p.1), (4, .bor [(0, 0)] 0 p.2.length)], [[byO p.2]], [false]⟩) (fun p => VInv n p.1 p.2) (fun p => p.1.toNat) (n, []) (vinv_zero hn.1 (by omega)) ((Sub.nil 4 5 rfl).trans (by first | exact Sub.by [0] (by first | (simp [byO]; done) | fail) | exact Sub.by [1] (by first | (simp [byO]; done) | fail) | exact Sub.by [2] (by first | (simp [byO]; done) | fail))) fun ⟨m, o⟩ hi => ?_
  dsimp only at hi
  have hol := vinv_len hi
  have h0 := hi.1
  have h1 := hi.2.1
  simp [byO]
  refine Br.dec (fun h => ?_) (fun h => ?_) <;> simp [h]
  · have e1 : IntKind.u8.wrap (IntKind.i64.wrap (m.tmod 128 + 128)) = m % 128 + 128 := by
      rw [Int.tmod_eq_emod_of_nonneg h0, wrap_i64 (by omega), w_u8_eq (by omega)]
    have e2 : IntKind.i64.wrap (m.tdiv 128) = m / 128 := by rw [Int.tdiv_eq_ediv_of_nonneg h0, wrap_i64 (by omega)]
    first | refine Need.mk ⟨by omega, by omega⟩ ?_ | refine Need.mk (by omega) ?_
    simp [e1, e2]
    exact Again.mk (m / 128, o ++ [m % 128 + 128]) (vinv_step hi h) (by dsimp only; omega) (by first | exact Sub.by [2] (by first | (simp [e1, e2, byO]; done) | fail) | exact Sub.by [3] (by first | (simp [e1, e2, byO]; done) | fail) | exact Sub.by [4] (by first | (simp [e1, e2, byO]; done) | fail))
  · have e3 := w_u8 h0
    have e4 := vinv_end hi h
    first | refine Need.mk ⟨by omega, by omega⟩ ?_ | refine Need.mk (by omega) ?_
    have e5 : o.length + 1 ≤ 9223372036854775807 := by omega
    simp [e3, e4, e5, rowBytes_snoc]
theorem VarText_big (hZ : ZOk Tryz.prog Z) (n : Int) (hn : 1000000000 < n) : Does Z Tryz.prog G B0 153 [iA n] [] [] (fun y _ => y = .tup [sA ⟨#[]⟩, bA false]) := by
  refine Does.bodyF hZ Tryz.func153 rfl rfl (Nat.le_of_ble_eq_true rfl) fun hf => ?_
  simp [Tryz.f153]
  have hin : inB n 0 1000000000 = false := by
    cases h : inB n 0 1000000000 with
    | false => rfl
    | true => have := inB_iff.1 h; omega
  first | refine CallA.snapE (within_spec hZ n 0 1000000000) (by first | (simp []; done) | fail) (by first | (simp []; done) | fail) ?_ | refine CallD.snapE (within_spec hZ n 0 1000000000) (by first | (simp []; done) | fail) (by first | (simp []; done) | fail) ?_
  simp [hin]
theorem l02Four_spec (hZ : ZOk Tryz.prog Z) (x : Int) : Does Z Tryz.prog G B0 145 [uA x] [] [] (fun y _ => y = sA (fourT x)) := by
  refine Does.bodyF hZ Tryz.func145 rfl rfl (Nat.le_of_ble_eq_true rfl) fun hf => ?_
  simp [Tryz.f145, fourT]
theorem fr_no {t : ByteArray} (h : inB t.size 1 9000 = false) : frV t = (⟨#[]⟩, false) := by
  unfold frV; rw [if_neg]; intro c; rw [inB_iff.2 c] at h; cases h
theorem Frame_spec (hZ : ZOk Tryz.prog Z) (t : ByteArray) : Does Z Tryz.prog G B0 79 [sA t] [] [] (fun y _ => y = .tup [sA (frV t).1, bA (frV t).2]) := by
  refine Does.bodyF hZ Tryz.func79 rfl rfl (Nat.le_of_ble_eq_true rfl) fun hf => ?_
  simp at hf
  simp [Tryz.f79]
  first | refine CallA.snapE (l01In_spec hZ t.size 1 9000) (by first | (simp []; done) | fail) (by first | (simp []; done) | fail) ?_ | refine CallD.snapE (l01In_spec hZ t.size 1 9000) (by first | (simp []; done) | fail) (by first | (simp []; done) | fail) ?_
  have hv := varT_size (t.size : Int)
  have hx := fourT_size (sumV t)
  rcases Bool.eq_false_or_eq_true (inB t.size 1 9000) with h | h
  rotate_left
  · simp [h, fr_no h]
  have hb := inB_iff.1 h
  rw [fr_ok (by omega)]
  simp [h]
  first | refine CallA.snapE (l01Var_spec hZ t.size (by omega)) (by first | (simp []; done) | fail) (by first | (simp []; done) | fail) ?_ | refine CallD.snapE (l01Var_spec hZ t.size (by omega)) (by first | (simp []; done) | fail) (by first | (simp []; done) | fail) ?_
  simp
  first | refine CallA.snapE (SumOf_spec hZ t) (by first | (simp []; done) | fail) (by first | (simp []; done) | fail) ?_ | refine CallD.snapE (SumOf_spec hZ t) (by first | (simp []; done) | fail) (by first | (simp []; done) | fail) ?_
  simp
  first | refine CallA.snapE (l02Four_spec hZ (sumV t)) (by first | (simp []; done) | fail) (by first | (simp []; done) | fail) ?_ | refine CallD.snapE (l02Four_spec hZ (sumV t)) (by first | (simp []; done) | fail) (by first | (simp []; done) | fail) ?_
  have e1 : (varT t.size).size + (fourT (sumV t)).size ≤ 9223372036854775807 := by omega
  have e2 : (varT t.size).size + (fourT (sumV t)).size + t.size ≤ 9223372036854775807 := by omega
  simp [e1, e2]
theorem iFrame_spec (hZ : ZOk Tryz.prog Z) (t : ByteArray) : Does Z Tryz.prog G B0 85 [sA t] [] [] (fun y _ => y = .tup [sA (frV t).1, bA (frV t).2]) := by
  refine Does.bodyF hZ Tryz.func85 rfl rfl (Nat.le_of_ble_eq_true rfl) fun hf => ?_
  simp at hf
  simp [Tryz.f85]
  first | refine CallA.snapE (within_spec hZ t.size 1 9000) (by first | (simp []; done) | fail) (by first | (simp []; done) | fail) ?_ | refine CallD.snapE (within_spec hZ t.size 1 9000) (by first | (simp []; done) | fail) (by first | (simp []; done) | fail) ?_
  have hv := varT_size (t.size : Int)
  have hx := fourT_size (sumV t)
  rcases Bool.eq_false_or_eq_true (inB t.size 1 9000) with h | h
  rotate_left
  · simp [h, fr_no h]
  have hb := inB_iff.1 h
  rw [fr_ok (by omega)]
  simp [h]
  first | refine CallA.snapE (VarText_spec hZ t.size (by omega)) (by first | (simp []; done) | fail) (by first | (simp []; done) | fail) ?_ | refine CallD.snapE (VarText_spec hZ t.size (by omega)) (by first | (simp []; done) | fail) (by first | (simp []; done) | fail) ?_
  simp
  first | refine CallA.snapE (iSumOf_spec hZ t) (by first | (simp []; done) | fail) (by first | (simp []; done) | fail) ?_ | refine CallD.snapE (iSumOf_spec hZ t) (by first | (simp []; done) | fail) (by first | (simp []; done) | fail) ?_
  have e1 : (varT t.size).size + (fourT (sumV t)).size ≤ 9223372036854775807 := by omega
  have e2 : (varT t.size).size + (fourT (sumV t)).size + t.size ≤ 9223372036854775807 := by omega
  unfold fourT at e1 e2
  simp [e1, e2, fourT]
end Go.Proofs.YtbhbkaonlillhaaGreatDoor

/- Contracts: whole numbers read from a text. -/
namespace Go.Proofs.YtbhbkaonlillhaaGreatDoor
open Go Go.Abs Go.Proofs Go.Tm
set_option linter.unusedSimpArgs false
set_option linter.unusedVariables false
set_option maxRecDepth 10000
variable {Z : TypeId → Nat} {G : World → Prop} {B0 : Nat}
theorem shl_pow {x : Int} {i : Nat} (h0 : 0 ≤ x) (h1 : x < 128) (h : i ≤ 4) : shlI .i64 x (IntKind.i64.wrap (7 * (i : Int))) = x * 128 ^ i := by
  rw [wrap_i64 (by omega)]
  unfold shlI
  match i, h with
  | 0, _ => rw [show min (7 * ((0 : Nat) : Int)).toNat IntKind.i64.bits = 0 from rfl, wrap_i64 (by omega)]; omega
  | 1, _ => rw [show min (7 * ((1 : Nat) : Int)).toNat IntKind.i64.bits = 7 from rfl, wrap_i64 (by omega)]; omega
  | 2, _ => rw [show min (7 * ((2 : Nat) : Int)).toNat IntKind.i64.bits = 14 from rfl, wrap_i64 (by omega)]; omega
  | 3, _ => rw [show min (7 * ((3 : Nat) : Int)).toNat IntKind.i64.bits = 21 from rfl, wrap_i64 (by omega)]; omega
  | 4, _ => rw [show min (7 * ((4 : Nat) : Int)).toNat IntKind.i64.bits = 28 from rfl, wrap_i64 (by omega)]; omega
theorem rv_out {p : ByteArray} {a : Int} (h : inB a 0 p.size = false) : rvV p a = (0, 0, false) := by
  unfold rvV
  rw [if_neg]
  intro c
  rw [inB_iff.2 c] at h; cases h
theorem rv_in {p : ByteArray} {k : Nat} (h : inB k 0 p.size = true) : rvV p k = rvL p k 5 0 0 := by
  unfold rvV
  rw [if_pos (inB_iff.1 h)]
set_option maxHeartbeats 1000000 in
theorem iReadVar_spec (hZ : ZOk Tryz.prog Z) (p : ByteArray) (a : Int) (hp : p.size ≤ 4294967280) : Does Z Tryz.prog G B0 183 [sA p, iA a] [] [] (fun y _ => y = .tup [iA (rvV p a).1, iA (rvV p a).2.1, bA (rvV p a).2.2]) := by
  refine Does.bodyF hZ Tryz.func183 rfl rfl (Nat.le_of_ble_eq_true rfl) fun hf => ?_
  simp [Tryz.f183]
  first | refine CallA.snapE (within_spec hZ a 0 p.size) (by first | (simp []; done) | fail) (by first | (simp []; done) | fail) ?_ | refine CallD.snapE (within_spec hZ a 0 p.size) (by first | (simp []; done) | fail) (by first | (simp []; done) | fail) ?_
  simp
  refine Br.bool (fun hin => ?_) (fun hin => ?_) <;> simp [hin]
  rotate_left
  · simp [rv_out hin]
  obtain ⟨k, rfl⟩ : ∃ k : Nat, a = (k : Int) := ⟨a.toNat, by have := inB_iff.1 hin; omega⟩
  have hks := inB_iff.1 hin
  rw [rv_in hin]
  generalize hr : rvL p k 5 0 0 = r
  refine LoopA.run hZ (fun q : Nat × Int => ⟨63, [(0, sA p), (1, iA k), (7, iA q.2), (8, iA q.1)], [], []⟩) (fun q => q.1 ≤ 5 ∧ Run p k q.1 q.2 ∧ rvL p k (5 - q.1) q.1 q.2 = r) (fun q => 5 - q.1) (0, 0) ⟨by omega, run_zero p k (by omega) (by omega), hr⟩ (by first | exact Sub.by [] (by first | (simp []; done) | fail)) fun ⟨i, n⟩ ⟨hi, hR, he⟩ => ?_
  dsimp only at hi hR he
  simp
  by_cases h5 : i = 5
  · subst h5
    simp [rvL] at he; subst he
    simp
  have h5a : i < 5 := by omega
  have h5b : (i : Int) < 5 := by omega
  obtain ⟨m, hm⟩ : ∃ m, 5 - i = m + 1 := ⟨5 - i - 1, by omega⟩
  have hw0 : IntKind.i64.wrap ((k : Int) + i) = (k : Int) + i := wrap_i64 (by omega)
  simp [h5a, h5b, hw0]
  by_cases hlt : (k : Int) + i < p.size
  rotate_left
  · rw [hm, rvL, if_neg hlt] at he; subst he; simp [hlt, h5a, h5b, hw0]
  simp [hlt, h5a, h5b, hw0]
  rw [hm, rvL, if_pos hlt] at he
  have hbr := byteAt_range p ((k : Int) + i)
  have hb := run_bound hR (by omega)
  have hq := p128 i (by omega)
  have e1 : IntKind.i64.wrap (byteAt p ((k : Int) + i)) = byteAt p ((k : Int) + i) := wrap_i64 (by omega)
  have e2 : (byteAt p ((k : Int) + i)).tmod 128 = byteAt p ((k : Int) + i) % 128 := Int.tmod_eq_emod_of_nonneg hbr.1
  have e3 := shl_pow (x := byteAt p ((k : Int) + i) % 128) (i := i) (by omega) (by omega) (by omega)
  have e4 : IntKind.i64.wrap (n + byteAt p ((k : Int) + i) % 128 * 128 ^ i) = n + byteAt p ((k : Int) + i) % 128 * 128 ^ i := wrap_i64 (by omega)
  have e6 : IntKind.i64.wrap ((i : Int) + 1) = (i : Int) + 1 := wrap_i64 (by omega)
  have e3b : ¬ IntKind.i64.wrap (7 * (i : Int)) < 0 := by rw [wrap_i64 (by omega)]; omega
  refine Need.mk (by omega) ?_
  simp [e1, e2, e3, e3b, e4, e6]
  refine Br.dec (fun c => ?_) (fun c => ?_) <;> simp [c]
  rotate_left
  · rw [if_neg c] at he
    exact Again.mk (i + 1, n + byteAt p ((k : Int) + i) % 128 * 128 ^ i) ⟨by dsimp only; omega, run_next hR c hlt, by dsimp only; rw [show 5 - (i + 1) = m by omega]; exact he⟩ (by dsimp only; omega) (by first | exact Sub.by [] (by first | (simp [e6]; done) | fail))
  rw [if_pos c] at he
  have hv := varT_size (n + byteAt p ((k : Int) + i) % 128 * 128 ^ i)
  generalize n + byteAt p ((k : Int) + i) % 128 * 128 ^ i = n' at *
  by_cases c2 : 1000000000 < n'
  · rw [if_pos c2] at he
    subst he
    first | refine CallA.snapE (VarText_big hZ n' c2) (by first | (simp []; done) | fail) (by first | (simp []; done) | fail) ?_ | refine CallD.snapE (VarText_big hZ n' c2) (by first | (simp []; done) | fail) (by first | (simp []; done) | fail) ?_
    simp
  · rw [if_neg c2] at he
    first | refine CallA.snapE (VarText_spec hZ n' ⟨by omega, by omega⟩) (by first | (simp []; done) | fail) (by first | (simp []; done) | fail) ?_ | refine CallD.snapE (VarText_spec hZ n' ⟨by omega, by omega⟩) (by first | (simp []; done) | fail) (by first | (simp []; done) | fail) ?_
    have e7 : IntKind.i64.wrap ((k : Int) + i + 1) = (k : Int) + i + 1 := by rw [wrap_i64 (by omega)]
    by_cases c3 : (varT n').size = i + 1
    · rw [if_pos c3] at he
      subst he
      simp [c3, e6, hw0, e7]
    · rw [if_neg c3] at he
      have c4 : ¬ ((varT n').size : Int) = i + 1 := by omega
      subst he
      simp [c3, c4, e6]
end Go.Proofs.YtbhbkaonlillhaaGreatDoor

