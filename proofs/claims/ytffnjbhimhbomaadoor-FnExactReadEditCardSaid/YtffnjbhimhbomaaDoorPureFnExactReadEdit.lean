/- The program's ReadEdit returns what the reference's returns: the law is true for every text. -/
import Derived.Test.YtffnjbhimhbomaaDoorQTE
import Derived.Test.YtffnjbhimhbomaaDoorPureFnExactEditText
namespace Go.Proofs.YtffnjbhimhbomaaDoor.Pure
open Go.RowKit Go.Proofs.YtffnjbhimhbomaaDoor.QTA Go.Proofs.YtffnjbhimhbomaaDoor.QTB Go.Proofs.YtffnjbhimhbomaaDoor.QTC Go.Proofs.YtffnjbhimhbomaaDoor.QTD Go.Proofs.YtffnjbhimhbomaaDoor.QTE Go.Proofs.YtffnjbhimhbomaaDoorW.PrintWords Go.Proofs.YtffnjbhimhbomaaDoorW.PrintLast Go.Proofs.YtffnjbhimhbomaaDoorW.PrintMore
set_option linter.unusedSimpArgs false
set_option linter.unusedVariables false
def dsOf (p : ByteArray) (a : Int) (n : Nat) : List Int := (List.range n).map fun (j : Nat) => bt p (a + (j : Int))
def vval : List Int → Int
  | [] => 0
  | c :: r => c % 128 + 128 * vval r
theorem ds_len (p : ByteArray) (a : Int) (n : Nat) : (dsOf p a n).length = n := by simp [dsOf]
theorem ds_succ (p : ByteArray) (a : Int) (n : Nat) : dsOf p a (n + 1) = dsOf p a n ++ [bt p (a + (n : Int))] := by
  unfold dsOf
  rw [List.range_succ, List.map_append]
  rfl
theorem ds_str (p : ByteArray) (a : Int) (n : Nat) (ha : 0 ≤ a) (hn : a + n ≤ p.size) : strOfNums (dsOf p a n) = p.extract a.toNat (a + n).toNat := by
  have hs : (strOfNums (dsOf p a n)).size = n := by rw [strOf_size, ds_len]
  refine ByteArray.ext_getElem (by rw [hs, ByteArray.size_extract]; omega) fun i hi hi' => ?_
  rw [hs] at hi
  rw [ByteArray.getElem_extract, ByteArray.getElem_eq_getElem_data]
  simp only [strOfNums, dsOf, List.getElem_toArray, List.getElem_map, List.getElem_range, bt]
  rw [dif_pos (by omega)]
  have e : (a + (i : Int)).toNat = a.toNat + i := by omega
  simp only [e, Int.toNat_natCast]
  simp
theorem vval_app : ∀ (l : List Int) (c : Int), vval (l ++ [c]) = vval l + 128 ^ l.length * (c % 128)
  | [], c => by simp [vval]
  | x :: l, c => by
    have ih := vval_app l c
    have e : (128 : Int) ^ (l.length + 1) = 128 ^ l.length * 128 := Int.pow_succ ..
    rw [List.cons_append, vval, vval, ih, List.length_cons, e]
    generalize (128 : Int) ^ l.length = P
    have h : P * 128 * (c % 128) = 128 * (P * (c % 128)) := by rw [Int.mul_comm P 128, Int.mul_assoc]
    rw [h]
    omega
theorem vval_pos : ∀ l : List Int, 0 ≤ vval l
  | [] => by simp [vval]
  | x :: l => by
    have ih := vval_pos l
    unfold vval
    omega
theorem vval_lt : ∀ l : List Int, vval l < 128 ^ l.length
  | [] => by simp [vval]
  | x :: l => by
    have ih := vval_lt l
    have e : (128 : Int) ^ (l.length + 1) = 128 ^ l.length * 128 := Int.pow_succ ..
    rw [List.length_cons, e]
    unfold vval
    omega
theorem vd_canon : ∀ (hi : List Int) (c : Int) (d : Nat), (∀ x ∈ hi, 128 ≤ x ∧ x ≤ 255) → 0 ≤ c → c < 128 → (c ≠ 0 ∨ hi = []) → hi.length ≤ d → vd d (vval (hi ++ [c])) = hi ++ [c] := by
  intro hi
  induction hi with
  | nil =>
    intro c d _ h0 h1 _ _
    have e : vval [c] = c := by unfold vval vval; omega
    rw [List.nil_append, e]
    cases d with
    | zero => unfold vd; rw [show c % 256 = c by omega]
    | succ d => unfold vd; rw [if_neg (by omega), show c % 256 = c by omega]
  | cons x l ih =>
    intro c d hx h0 h1 hc hd
    obtain ⟨d, rfl⟩ : ∃ m, d = m + 1 := ⟨d - 1, by simp only [List.length_cons] at hd; omega⟩
    have hx0 := hx x (by simp)
    have hc0 : c ≠ 0 := by
      rcases hc with h | h
      · exact h
      · cases h
    have ih' := ih c d (fun y hy => hx y (by simp [hy])) h0 h1 (.inl hc0) (by simp only [List.length_cons] at hd; omega)
    have hp : 1 ≤ vval (l ++ [c]) := by
      rw [vval_app]
      have h2 := vval_pos l
      have h3 : (1 : Int) ≤ 128 ^ l.length := by have := Int.pow_pos (n := 128) (m := l.length) (show (0 : Int) < 128 by decide); omega
      have h4 : (1 : Int) * 1 ≤ 128 ^ l.length * (c % 128) := Int.mul_le_mul h3 (by omega) (by decide) (by omega)
      omega
    have e : vval ((x :: l) ++ [c]) = x % 128 + 128 * vval (l ++ [c]) := rfl
    rw [e]
    unfold vd
    rw [if_pos (by omega), show (x % 128 + 128 * vval (l ++ [c])) / 128 = vval (l ++ [c]) by omega, ih', show (x % 128 + 128 * vval (l ++ [c])) % 128 + 128 = x by omega]
    rfl
theorem vd_short : ∀ (m d : Nat) (n : Int), 1 ≤ m → 0 ≤ n → n < 128 ^ m → (vd d n).length ≤ m := by
  intro m
  induction m with
  | zero => intro d n h; omega
  | succ m ih =>
    intro d n _ h0 h1
    have e : (128 : Int) ^ (m + 1) = 128 ^ m * 128 := Int.pow_succ ..
    cases d with
    | zero => simp [vd]
    | succ d =>
      unfold vd
      by_cases c : n > 127
      · rw [if_pos c, List.length_cons]
        cases m with
        | zero => simp at h1; omega
        | succ m =>
          have := ih d (n / 128) (by omega) (by omega) (by omega)
          omega
      · rw [if_neg c]; simp
def rvL (p : ByteArray) (a : Int) : Nat → Nat → Int → Int × Int × Bool
  | 0, _, _ => (0, 0, false)
  | r + 1, i, n =>
    if a + i < (p.size : Int) then
      (if bt p (a + i) < 128 then
        (if n + bt p (a + i) % 128 * 128 ^ i > 1000000000 then (0, 0, false)
         else if (varT (n + bt p (a + i) % 128 * 128 ^ i)).size = i + 1 then (n + bt p (a + i) % 128 * 128 ^ i, a + i + 1, true) else (0, 0, false))
       else rvL p a r (i + 1) (n + bt p (a + i) % 128 * 128 ^ i))
    else (0, 0, false)
def rvV (p : ByteArray) (a : Int) : Int × Int × Bool := if 0 ≤ a ∧ a ≤ (p.size : Int) then rvL p a 5 0 0 else (0, 0, false)
theorem p128 (i : Nat) (h : i ≤ 5) : (1 : Int) ≤ 128 ^ i ∧ (128 : Int) ^ i ≤ 34359738368 := by
  match i, h with
  | 0, _ => decide
  | 1, _ => decide
  | 2, _ => decide
  | 3, _ => decide
  | 4, _ => decide
  | 5, _ => decide
theorem shl7 (x : Int) (i : Nat) (h0 : 0 ≤ x) (h1 : x < 128) (h : i ≤ 4) : shl .i64 x (wrap64 (7 * (i : Int))) = x * 128 ^ i := by
  have hb : IntKind.i64.bits = 64 := rfl
  match i, h with
  | 0, _ => unfold shl; rw [i64_w, show min (wrap64 (7 * ((0 : Nat) : Int))).toNat IntKind.i64.bits = 0 from by unfold wrap64; rfl]; unfold wrap64; omega
  | 1, _ => unfold shl; rw [i64_w, show min (wrap64 (7 * ((1 : Nat) : Int))).toNat IntKind.i64.bits = 7 from by unfold wrap64; rfl]; unfold wrap64; omega
  | 2, _ => unfold shl; rw [i64_w, show min (wrap64 (7 * ((2 : Nat) : Int))).toNat IntKind.i64.bits = 14 from by unfold wrap64; rfl]; unfold wrap64; omega
  | 3, _ => unfold shl; rw [i64_w, show min (wrap64 (7 * ((3 : Nat) : Int))).toNat IntKind.i64.bits = 21 from by unfold wrap64; rfl]; unfold wrap64; omega
  | 4, _ => unfold shl; rw [i64_w, show min (wrap64 (7 * ((4 : Nat) : Int))).toNat IntKind.i64.bits = 28 from by unfold wrap64; rfl]; unfold wrap64; omega
structure Run (p : ByteArray) (a : Int) (i : Nat) (n : Int) : Prop where
  ha : 0 ≤ a
  hs : a + i ≤ p.size
  hn : n = vval (dsOf p a i)
  hi : ∀ x ∈ dsOf p a i, 128 ≤ x ∧ x ≤ 255
theorem run_add {p : ByteArray} {a : Int} {i : Nat} {n : Int} (h : Run p a i n) : n + bt p (a + i) % 128 * 128 ^ i = vval (dsOf p a (i + 1)) := by
  rw [ds_succ, vval_app, ds_len, h.hn, Int.mul_comm]
theorem run_next {p : ByteArray} {a : Int} {i : Nat} {n : Int} (h : Run p a i n) (hc : ¬ bt p (a + i) < 128) (hs : a + i < p.size) : Run p a (i + 1) (n + bt p (a + i) % 128 * 128 ^ i) where
  ha := h.ha
  hs := by omega
  hn := run_add h
  hi := by
    intro x hx
    rw [ds_succ, List.mem_append] at hx
    rcases hx with hx | hx
    · exact h.hi x hx
    · obtain rfl : x = bt p (a + i) := by simpa using hx
      have := bt_range p (a + i)
      omega
theorem run_text {p : ByteArray} {a : Int} {i : Nat} {n : Int} (h : Run p a i n) (h5 : i ≤ 4) (hc : bt p (a + i) < 128) (hs : a + i < p.size) :
    (varT (n + bt p (a + i) % 128 * 128 ^ i) = p.extract a.toNat (a + i + 1).toNat) ∨ (varT (n + bt p (a + i) % 128 * 128 ^ i)).size ≠ i + 1 := by
  have hr := bt_range p (a + i)
  by_cases c : bt p (a + i) ≠ 0 ∨ dsOf p a i = []
  · left
    rw [run_add h, ds_succ]
    unfold varT
    rw [vd_canon (dsOf p a i) (bt p (a + i)) 8 h.hi hr.1 hc c (by rw [ds_len]; omega), ← ds_succ, ds_str p a (i + 1) h.ha (by omega)]
    rw [show a + ((i + 1 : Nat) : Int) = a + i + 1 by omega]
  · right
    have c0 : bt p (a + i) = 0 := Classical.byContradiction fun e => c (.inl e)
    have c1 : dsOf p a i ≠ [] := fun e => c (.inr e)
    have hl : 1 ≤ i := by
      have := ds_len p a i
      cases i with
      | zero => exact absurd (List.eq_nil_of_length_eq_zero this) c1
      | succ i => omega
    unfold varT
    rw [strOf_size, c0, h.hn]
    have := vd_short i 8 (vval (dsOf p a i)) hl (vval_pos _) (by have := vval_lt (dsOf p a i); rw [ds_len] at this; exact this)
    rw [show vval (dsOf p a i) + 0 % 128 * 128 ^ i = vval (dsOf p a i) by omega]
    omega
theorem run_bound {p : ByteArray} {a : Int} {i : Nat} {n : Int} (h : Run p a i n) (h5 : i ≤ 4) : 0 ≤ n + bt p (a + i) % 128 * 128 ^ i ∧ n + bt p (a + i) % 128 * 128 ^ i < 34359738368 ∧ 0 ≤ bt p (a + i) % 128 * 128 ^ i ∧ bt p (a + i) % 128 * 128 ^ i ≤ 34359738368 ∧ 0 ≤ n := by
  have h1 := vval_pos (dsOf p a (i + 1))
  have h2 := vval_lt (dsOf p a (i + 1))
  rw [ds_len] at h2
  have h3 := (p128 (i + 1) (by omega)).2
  have h4 := run_add h
  have h6 : 0 ≤ bt p (a + i) % 128 * 128 ^ i := Int.mul_nonneg (by omega) (by have := (p128 i (by omega)).1; omega)
  have h7 := vval_pos (dsOf p a i)
  rw [← h.hn] at h7
  omega
theorem rv_spec_loop (p : ByteArray) (hp : p.size ≤ 4294967280) (a : Int) : ∀ (r k i : Nat) (n : Int), r + i = 5 → Run p a i n → 2 * r + 14 < k → spec_ReadVar.l0 k p a n (128 ^ i) (a + i) = some (rvL p a r i n) := by
  intro r
  induction r with
  | zero =>
    intro k i n hri hR hk
    obtain rfl : i = 5 := by omega
    have ha := hR.ha
    have hs := hR.hs
    obtain ⟨k, rfl⟩ : ∃ m, k = m + 2 := ⟨k - 2, by omega⟩
    have hw : wrap64 (a + 5) = a + 5 := by unfold wrap64; omega
    have hd : decide (a + ((5 : Nat) : Int) < a + 5) = false := decide_eq_false (by omega)
    simp only [spec_ReadVar.l0, spec_ReadVar.j1, hw, hd, Bool.false_eq_true, if_false, ite_self]
    rfl
  | succ r ih =>
    intro k i n hri hR hk
    have ha := hR.ha
    have hs := hR.hs
    obtain ⟨k, rfl⟩ : ∃ m, k = m + 2 := ⟨k - 2, by omega⟩
    have hw : wrap64 (a + 5) = a + 5 := by unfold wrap64; omega
    have hd : decide (a + (i : Int) < a + 5) = true := decide_eq_true (by omega)
    have hbr := bt_range p (a + i)
    have hb := run_bound hR (by omega)
    have hq := p128 i (by omega)
    have hm : Int.tmod (wrap64 (bt p (a + i))) 128 = bt p (a + i) % 128 := by
      rw [show wrap64 (bt p (a + i)) = bt p (a + i) by unfold wrap64; omega]
      exact Int.tmod_eq_emod_of_nonneg hbr.1
    have hw1 : wrap64 (bt p (a + i) % 128 * 128 ^ i) = bt p (a + i) % 128 * 128 ^ i := by unfold wrap64; omega
    have hw2 : wrap64 (n + bt p (a + i) % 128 * 128 ^ i) = n + bt p (a + i) % 128 * 128 ^ i := by unfold wrap64; omega
    have hw3 : wrap64 (a + i + 1) = a + i + 1 := by unfold wrap64; omega
    have hw4 : wrap64 (128 ^ i * 128) = 128 ^ (i + 1) := by
      have := (p128 (i + 1) (by omega)).2
      have e : (128 : Int) ^ (i + 1) = 128 ^ i * 128 := Int.pow_succ ..
      unfold wrap64; omega
    simp only [spec_ReadVar.l0, spec_ReadVar.j1, hw, hd, if_true, Bool.false_eq_true, if_false, hm, hw1, hw2, hw3, hw4]
    unfold rvL
    by_cases c : a + (i : Int) < (p.size : Int)
    · simp only [if_pos c]
      rw [if_pos (show 0 ≤ a + (i : Int) by omega)]
      by_cases c1 : bt p (a + i) < 128
      · rw [if_pos c1, if_pos c1]
        by_cases c2 : n + bt p (a + i) % 128 * 128 ^ i > 1000000000
        · rw [if_pos c2, if_pos c2]
        · rw [if_neg c2, if_neg c2, var_spec _ hb.1 (by omega) k (by omega), Option.bind_some, if_pos ha, if_pos (by omega), if_pos (by omega)]
          rcases run_text hR (by omega) c1 c with e | e
          · rw [e, if_pos rfl, if_pos (by rw [ByteArray.size_extract]; omega)]
          · rw [if_neg e, if_neg]
            intro e2
            apply e
            have e3 := congrArg List.length e2
            rw [Lib.toList_data, Lib.toList_data, ← Lib.size_eq, ← Lib.size_eq, ByteArray.size_extract] at e3
            omega
      · rw [if_neg c1, if_neg c1]
        have := ih k (i + 1) _ (by omega) (run_next hR c1 c) (by omega)
        rw [show a + ((i + 1 : Nat) : Int) = a + i + 1 by omega] at this
        exact this
    · simp only [if_neg c]
theorem nsc (m i : Nat) : ((m : Int) = (i : Int) + 1) ↔ m = i + 1 := by omega
theorem w7 (i : Nat) (h : i ≤ 4) : 0 ≤ wrap64 (7 * (i : Int)) := by
  have e : wrap64 (7 * (i : Int)) = 7 * (i : Int) := by unfold wrap64; omega
  rw [e]
  omega
theorem rv_impl_loop (p : ByteArray) (hp : p.size ≤ 4294967280) (a : Int) : ∀ (r k i : Nat) (n : Int), r + i = 5 → Run p a i n → 2 * r + 14 < k → impl_ReadVar.l0 k p a n (i : Int) = some (rvL p a r i n) := by
  intro r
  induction r with
  | zero =>
    intro k i n hri hR hk
    obtain rfl : i = 5 := by omega
    obtain ⟨k, rfl⟩ : ∃ m, k = m + 2 := ⟨k - 2, by omega⟩
    simp only [impl_ReadVar.l0, impl_ReadVar.j1]
    rw [if_neg (by omega), if_neg (by decide)]
    rfl
  | succ r ih =>
    intro k i n hri hR hk
    have ha := hR.ha
    have hs := hR.hs
    obtain ⟨k, rfl⟩ : ∃ m, k = m + 2 := ⟨k - 2, by omega⟩
    have hw7 : 0 ≤ wrap64 (7 * (i : Int)) := w7 i (by omega)
    have hw5 : wrap64 ((i : Int) + 1) = (i : Int) + 1 := by unfold wrap64; omega
    have f1 : (i : Int) < 5 := by omega
    have f2 : 0 ≤ a + (i : Int) := by omega
    have f4 : 8 < k := by omega
    have f5 : r + (i + 1) = 5 := by omega
    have f6 : 2 * r + 14 < k := by omega
    have hbr := bt_range p (a + i)
    have hb := run_bound hR (by omega)
    have hwa : wrap64 (a + i) = a + i := by unfold wrap64; omega
    have hwb : wrap64 (bt p (a + i)) = bt p (a + i) := by unfold wrap64; omega
    have hm : Int.tmod (bt p (a + i)) 128 = bt p (a + i) % 128 := Int.tmod_eq_emod_of_nonneg hbr.1
    have hsh := shl7 (bt p (a + i) % 128) i (by omega) (by omega) (by omega)
    have hw2 : wrap64 (n + bt p (a + i) % 128 * 128 ^ i) = n + bt p (a + i) % 128 * 128 ^ i := by unfold wrap64; omega
    have hw3 : wrap64 (a + i + 1) = a + i + 1 := by unfold wrap64; omega
    simp only [impl_ReadVar.l0, impl_ReadVar.j1, hwa, hwb, hm, hsh, hw2, hw3, hw5]
    rw [if_pos f1]
    unfold rvL
    by_cases c : a + (i : Int) < (p.size : Int)
    · simp only [decide_eq_true c, if_true, if_pos c]
      rw [if_pos f2, if_pos hw7]
      by_cases c1 : bt p (a + i) < 128
      · rw [if_pos c1, if_pos c1]
        by_cases c2 : n + bt p (a + i) % 128 * 128 ^ i > 1000000000
        · rw [if_pos c2]
          unfold impl_VarText.f
          rw [in_impl, Option.bind_some, decide_eq_false (Int.not_le.mpr c2), Bool.and_false, if_neg (by decide), Option.bind_some, if_neg (by decide)]
        · rw [if_neg c2, var_impl _ hb.1 (Int.not_lt.mp c2) k f4, Option.bind_some, if_pos rfl]
          by_cases c3 : (varT (n + bt p (a + i) % 128 * 128 ^ i)).size = i + 1
          · rw [if_pos c3, if_pos ((nsc _ _).mpr c3)]
          · rw [if_neg c3, if_neg (fun e => c3 ((nsc _ _).mp e))]
      · rw [if_neg c1, if_neg c1]
        have := ih k (i + 1) _ f5 (run_next hR c1 c) f6
        rw [show ((i + 1 : Nat) : Int) = (i : Int) + 1 from rfl] at this
        exact this
    · simp only [decide_eq_false c, Bool.false_eq_true, if_false, if_neg c]
theorem run_zero (p : ByteArray) (a : Int) (h0 : 0 ≤ a) (h1 : a ≤ p.size) : Run p a 0 0 where
  ha := h0
  hs := by omega
  hn := rfl
  hi := fun x hx => by cases hx
theorem rv_spec (p : ByteArray) (hp : p.size ≤ 4294967280) (a : Int) (k : Nat) (hk : 24 < k) : spec_ReadVar.f k p a = some (rvV p a) := by
  unfold spec_ReadVar.f rvV
  rw [in_spec, Option.bind_some]
  by_cases h : 0 ≤ a ∧ a ≤ (p.size : Int)
  · have e := rv_spec_loop p hp a 5 k 0 0 rfl (run_zero p a h.1 h.2) (by omega)
    rw [if_pos h, decide_eq_true h.1, decide_eq_true h.2]
    simp only [Int.pow_zero, Int.natCast_zero, Int.add_zero] at e
    exact e
  · rw [if_neg h, if_neg]
    simp only [Bool.and_eq_true, decide_eq_true_eq]
    exact h
theorem rv_impl (p : ByteArray) (hp : p.size ≤ 4294967280) (a : Int) (k : Nat) (hk : 24 < k) : impl_ReadVar.f k p a = some (rvV p a) := by
  unfold impl_ReadVar.f rvV
  rw [in_impl, Option.bind_some]
  by_cases h : 0 ≤ a ∧ a ≤ (p.size : Int)
  · have e := rv_impl_loop p hp a 5 k 0 0 rfl (run_zero p a h.1 h.2) (by omega)
    rw [if_pos h, decide_eq_true h.1, decide_eq_true h.2]
    exact e
  · rw [if_neg h, if_neg]
    simp only [Bool.and_eq_true, decide_eq_true_eq]
    exact h
theorem rvL_ok (p : ByteArray) (a : Int) : ∀ (r i : Nat) (n : Int), r + i = 5 → Run p a i n → (rvL p a r i n).2.2 = true →
    0 ≤ (rvL p a r i n).1 ∧ (rvL p a r i n).1 ≤ 1000000000 ∧ a < (rvL p a r i n).2.1 ∧ (rvL p a r i n).2.1 ≤ p.size ∧ varT (rvL p a r i n).1 = p.extract a.toNat (rvL p a r i n).2.1.toNat := by
  intro r
  induction r with
  | zero => intro i n _ _ h; cases h
  | succ r ih =>
    intro i n hri hR
    have hb := run_bound hR (by omega)
    unfold rvL
    by_cases c : a + (i : Int) < (p.size : Int)
    · rw [if_pos c]
      by_cases c1 : bt p (a + i) < 128
      · rw [if_pos c1]
        by_cases c2 : n + bt p (a + i) % 128 * 128 ^ i > 1000000000
        · rw [if_pos c2]; intro h; cases h
        · rw [if_neg c2]
          by_cases c3 : (varT (n + bt p (a + i) % 128 * 128 ^ i)).size = i + 1
          · rw [if_pos c3]
            intro _
            refine ⟨hb.1, by omega, by dsimp only; omega, by dsimp only; omega, ?_⟩
            rcases run_text hR (by omega) c1 c with e | e
            · exact e
            · exact absurd c3 e
          · rw [if_neg c3]; intro h; cases h
      · rw [if_neg c1]
        exact ih (i + 1) _ (by omega) (run_next hR c1 c)
    · rw [if_neg c]; intro h; cases h
theorem rv_ok (p : ByteArray) (a : Int) (h : (rvV p a).2.2 = true) : 0 ≤ a ∧ 0 ≤ (rvV p a).1 ∧ (rvV p a).1 ≤ 1000000000 ∧ a < (rvV p a).2.1 ∧ (rvV p a).2.1 ≤ p.size ∧ varT (rvV p a).1 = p.extract a.toNat (rvV p a).2.1.toNat := by
  unfold rvV at h ⊢
  by_cases c : 0 ≤ a ∧ a ≤ (p.size : Int)
  · rw [if_pos c] at h ⊢
    exact ⟨c.1, rvL_ok p a 5 0 0 rfl (run_zero p a c.1 c.2) h⟩
  · rw [if_neg c] at h; cases h
def rsV (p : ByteArray) (a : Int) : ByteArray × Int × Bool :=
  if (rvV p a).2.2 = true then
    (if (rvV p a).1 > 20000 then (⟨#[]⟩, 0, false)
     else if (rvV p a).1 > (p.size : Int) - (rvV p a).2.1 then (⟨#[]⟩, 0, false)
     else (p.extract (rvV p a).2.1.toNat ((rvV p a).2.1 + (rvV p a).1).toNat, (rvV p a).2.1 + (rvV p a).1, true))
  else (⟨#[]⟩, 0, false)
theorem rs_spec (p : ByteArray) (hp : p.size ≤ 4294967280) (a : Int) (k : Nat) (hk : 24 < k) : spec_ReadShort.f k p a = some (rsV p a) := by
  have h := rv_ok p a
  unfold spec_ReadShort.f rsV
  rw [rv_spec p hp a k hk, Option.bind_some]
  generalize rvV p a = v at h ⊢
  obtain ⟨n, nx, b⟩ := v
  cases b with
  | false => rfl
  | true =>
    obtain ⟨h0, h1, h2, h3, h4, _⟩ := h rfl
    dsimp only at h1 h2 h3 h4
    have e1 : wrap64 ((p.size : Int) - nx) = (p.size : Int) - nx := by unfold wrap64; omega
    have e2 : wrap64 (nx + n) = nx + n := by unfold wrap64; omega
    dsimp only
    rw [if_pos rfl, if_pos rfl, e1, e2]
    by_cases c1 : n > 20000
    · rw [if_pos c1, if_pos c1]
    · rw [if_neg c1, if_neg c1]
      by_cases c2 : n > (p.size : Int) - nx
      · rw [if_pos c2, if_pos c2]
      · rw [if_neg c2, if_neg c2, if_pos (by omega), if_pos (by omega), if_pos (by omega)]
theorem rs_impl (p : ByteArray) (hp : p.size ≤ 4294967280) (a : Int) (k : Nat) (hk : 24 < k) : impl_ReadShort.f k p a = some (rsV p a) := by
  have h := rv_ok p a
  unfold impl_ReadShort.f rsV
  rw [rv_impl p hp a k hk, Option.bind_some]
  generalize rvV p a = v at h ⊢
  obtain ⟨n, nx, b⟩ := v
  cases b with
  | false => rfl
  | true =>
    obtain ⟨h0, h1, h2, h3, h4, _⟩ := h rfl
    dsimp only at h1 h2 h3 h4
    have e1 : wrap64 ((p.size : Int) - nx) = (p.size : Int) - nx := by unfold wrap64; omega
    have e2 : wrap64 (nx + n) = nx + n := by unfold wrap64; omega
    dsimp only
    rw [if_pos rfl, if_pos rfl, e1, e2]
    by_cases c1 : n > 20000
    · rw [if_pos c1, if_pos c1]
    · rw [if_neg c1, if_neg c1]
      by_cases c2 : n > (p.size : Int) - nx
      · rw [if_pos c2, if_pos c2]
      · rw [if_neg c2, if_neg c2, if_pos (by omega), if_pos (by omega), if_pos (by omega)]
theorem ex_app (p : ByteArray) (a b c : Nat) (h1 : a ≤ b) (h2 : b ≤ c) : p.extract a b ++ p.extract b c = p.extract a c := by
  rw [ByteArray.extract_append_extract, Nat.min_eq_left h1, Nat.max_eq_right h2]
theorem rs_ok (p : ByteArray) (a : Int) (h : (rsV p a).2.2 = true) : 0 ≤ a ∧ (rsV p a).1.size ≤ 20000 ∧ a < (rsV p a).2.1 ∧ (rsV p a).2.1 ≤ p.size ∧ varT (rsV p a).1.size ++ (rsV p a).1 = p.extract a.toNat (rsV p a).2.1.toNat := by
  have hv := rv_ok p a
  unfold rsV at h ⊢
  generalize rvV p a = v at h hv ⊢
  obtain ⟨n, nx, b⟩ := v
  cases b with
  | false => cases h
  | true =>
    obtain ⟨h0, h1, h2, h3, h4, h5⟩ := hv rfl
    dsimp only at h h1 h2 h3 h4 h5 ⊢
    rw [if_pos rfl] at h ⊢
    by_cases c1 : n > 20000
    · rw [if_pos c1] at h; cases h
    · rw [if_neg c1] at h ⊢
      by_cases c2 : n > (p.size : Int) - nx
      · rw [if_pos c2] at h; cases h
      · rw [if_neg c2]
        dsimp only
        have hz : (p.extract nx.toNat (nx + n).toNat).size = n.toNat := by rw [ByteArray.size_extract]; omega
        refine ⟨h0, by omega, by omega, by omega, ?_⟩
        rw [hz, show ((n.toNat : Nat) : Int) = n by omega, h5, ex_app p a.toNat nx.toNat (nx + n).toNat (by omega) (by omega)]
theorem rs_size (p : ByteArray) (a : Int) : (rsV p a).1.size ≤ 20000 := by
  by_cases h : (rsV p a).2.2 = true
  · exact (rs_ok p a h).2.1
  · unfold rsV at h ⊢
    repeat' split at h
    all_goals first
      | exact absurd rfl h
      | (simp_all; done)
      | (simp_all; decide)
def reV (p : ByteArray) : Int × ByteArray × ByteArray × Int × Int × Bool :=
  if (p.size : Int) < 2 then (0, ⟨#[]⟩, ⟨#[]⟩, 0, 0, false)
  else if (rsV p 2).2.2 = true ∧ (rsV p (rsV p 2).2.1).2.2 = true ∧ (rvV p (rsV p (rsV p 2).2.1).2.1).2.2 = true ∧ (rvV p (rsV p (rsV p 2).2.1).2.1).2.1 = (p.size : Int) ∧
      eoV (bt p 0) (rsV p 2).1 (rsV p (rsV p 2).2.1).1 (rvV p (rsV p (rsV p 2).2.1).2.1).1 (bt p 1) = true then
    (bt p 0, (rsV p 2).1, (rsV p (rsV p 2).2.1).1, (rvV p (rsV p (rsV p 2).2.1).2.1).1, bt p 1, true)
  else (0, ⟨#[]⟩, ⟨#[]⟩, 0, 0, false)
theorem bt_w (p : ByteArray) (i : Int) : wrap64 (bt p i) = bt p i := by
  have := bt_range p i
  unfold wrap64
  omega
theorem re_impl (p : ByteArray) (hp : p.size ≤ 4294967280) (k : Nat) (hk : 24 < k) : impl_ReadEdit.f k p = some (reV p) := by
  have z1 := rs_size p 2
  have z2 := rs_size p (rsV p 2).2.1
  unfold impl_ReadEdit.f reV
  by_cases c0 : (p.size : Int) < 2
  · rw [if_pos c0, if_pos c0]
  · rw [if_neg c0, if_neg c0, rs_impl p hp 2 k hk, Option.bind_some, rs_impl p hp _ k hk, Option.bind_some, rv_impl p hp _ k hk, Option.bind_some, if_pos (by omega), if_pos (by omega), bt_w, bt_w]
    rw [eo_impl (bt p 0) (rsV p 2).1 (rsV p (rsV p 2).2.1).1 (rvV p (rsV p (rsV p 2).2.1).2.1).1 (bt p 1) (by omega) (by omega) k (by omega), Option.bind_some]
    by_cases c1 : (rsV p 2).2.2 = true
    · by_cases c2 : (rsV p (rsV p 2).2.1).2.2 = true
      · by_cases c3 : (rvV p (rsV p (rsV p 2).2.1).2.1).2.2 = true
        · by_cases c4 : (rvV p (rsV p (rsV p 2).2.1).2.1).2.1 = (p.size : Int)
          · by_cases c5 : eoV (bt p 0) (rsV p 2).1 (rsV p (rsV p 2).2.1).1 (rvV p (rsV p (rsV p 2).2.1).2.1).1 (bt p 1) = true
            · rw [if_pos c1, if_pos c2, if_pos c3, if_pos c4, if_pos c5, if_pos ⟨c1, c2, c3, c4, c5⟩]
            · rw [if_pos c1, if_pos c2, if_pos c3, if_pos c4, if_neg c5, if_neg (fun h => c5 h.2.2.2.2)]
          · rw [if_pos c1, if_pos c2, if_pos c3, if_neg c4, if_neg (fun h => c4 h.2.2.2.1)]
        · rw [if_pos c1, if_pos c2, if_neg c3, if_neg (fun h => c3 h.2.2.1)]
      · rw [if_pos c1, if_neg c2, if_neg (fun h => c2 h.2.1)]
    · rw [if_neg c1, if_neg (fun h => c1 h.1)]
theorem re_back (p : ByteArray) (h0 : 2 ≤ p.size) (c1 : (rsV p 2).2.2 = true) (c2 : (rsV p (rsV p 2).2.1).2.2 = true) (c3 : (rvV p (rsV p (rsV p 2).2.1).2.1).2.2 = true)
    (c5 : eoV (bt p 0) (rsV p 2).1 (rsV p (rsV p 2).2.1).1 (rvV p (rsV p (rsV p 2).2.1).2.1).1 (bt p 1) = true) :
    (etV (bt p 0) (rsV p 2).1 (rsV p (rsV p 2).2.1).1 (rvV p (rsV p (rsV p 2).2.1).2.1).1 (bt p 1)).1 = p.extract 0 (rvV p (rsV p (rsV p 2).2.1).2.1).2.1.toNat ∧
    0 ≤ (rvV p (rsV p (rsV p 2).2.1).2.1).2.1 ∧ (rvV p (rsV p (rsV p 2).2.1).2.1).2.1 ≤ p.size := by
  obtain ⟨_, _, a3, a4, a5⟩ := rs_ok p 2 c1
  obtain ⟨_, _, b3, b4, b5⟩ := rs_ok p (rsV p 2).2.1 c2
  obtain ⟨_, _, _, d3, d4, d5⟩ := rv_ok p (rsV p (rsV p 2).2.1).2.1 c3
  refine ⟨?_, by omega, d4⟩
  have e0 : strOfNums [bt p 0 % 256, bt p 1 % 256] = p.extract 0 2 := by
    have r0 := bt_range p 0
    have r1 := bt_range p 1
    rw [show bt p 0 % 256 = bt p 0 by omega, show bt p 1 % 256 = bt p 1 by omega]
    exact ds_str p 0 2 (by omega) (by omega)
  unfold etV
  rw [if_pos c5]
  dsimp only
  rw [e0, ByteArray.append_assoc (a := p.extract 0 2), a5, show (2 : Int).toNat = 2 from rfl, ex_app p 0 2 _ (by omega) (by omega), ByteArray.append_assoc (b := varT (rsV p (rsV p 2).2.1).1.size), b5, ex_app p 0 _ _ (by omega) (by omega), d5, ex_app p 0 _ _ (by omega) (by omega)]
theorem ex_all (p : ByteArray) (n : Nat) (hn : n ≤ p.size) : (p.extract 0 n).toList = p.toList ↔ n = p.size := by
  constructor
  · intro e
    have e2 := congrArg List.length e
    rw [Lib.toList_data, Lib.toList_data, ← Lib.size_eq, ← Lib.size_eq, ByteArray.size_extract] at e2
    omega
  · intro e
    rw [e, ByteArray.extract_zero_size]
theorem re_spec (p : ByteArray) (hp : p.size ≤ 4294967280) (k : Nat) (hk : 4000010 < k) : spec_ReadEdit.f k p = some (reV p) := by
  have z1 := rs_size p 2
  have z2 := rs_size p (rsV p 2).2.1
  unfold spec_ReadEdit.f reV
  by_cases c0 : (p.size : Int) < 2
  · rw [if_pos c0, if_pos c0]
  · have hb := re_back p (by omega)
    rw [if_neg c0, if_neg c0, if_pos (by omega), if_pos (by omega), rs_spec p hp 2 k (by omega), Option.bind_some, rs_spec p hp _ k (by omega), Option.bind_some, rv_spec p hp _ k (by omega), Option.bind_some, bt_w, bt_w]
    rw [et_spec (bt p 0) (rsV p 2).1 (rsV p (rsV p 2).2.1).1 (rvV p (rsV p (rsV p 2).2.1).2.1).1 (bt p 1) (by omega) (by omega) k (by omega), Option.bind_some]
    by_cases c1 : (rsV p 2).2.2 = true
    · by_cases c2 : (rsV p (rsV p 2).2.1).2.2 = true
      · by_cases c3 : (rvV p (rsV p (rsV p 2).2.1).2.1).2.2 = true
        · by_cases c5 : eoV (bt p 0) (rsV p 2).1 (rsV p (rsV p 2).2.1).1 (rvV p (rsV p (rsV p 2).2.1).2.1).1 (bt p 1) = true
          · obtain ⟨e1, e2, e3⟩ := hb c1 c2 c3 c5
            have e4 : (etV (bt p 0) (rsV p 2).1 (rsV p (rsV p 2).2.1).1 (rvV p (rsV p (rsV p 2).2.1).2.1).1 (bt p 1)).2 = true := by unfold etV; rw [if_pos c5]
            rw [if_pos c1, if_pos c2, if_pos c3, e1, if_pos e4]
            by_cases c4 : (rvV p (rsV p (rsV p 2).2.1).2.1).2.1 = (p.size : Int)
            · rw [if_pos ((ex_all p _ (by omega)).mpr (by omega)), if_pos ⟨c1, c2, c3, c4, c5⟩]
            · rw [if_neg (fun h => c4 (by have := (ex_all p _ (by omega)).mp h; omega)), if_neg (fun h => c4 h.2.2.2.1)]
          · have e4 : ¬ (etV (bt p 0) (rsV p 2).1 (rsV p (rsV p 2).2.1).1 (rvV p (rsV p (rsV p 2).2.1).2.1).1 (bt p 1)).2 = true := by unfold etV; rw [if_neg c5]; decide
            rw [if_pos c1, if_pos c2, if_pos c3, if_neg e4, if_neg (fun h => c5 h.2.2.2.2)]
        · rw [if_pos c1, if_pos c2, if_neg c3, if_neg (fun h => c3 h.2.2.1)]
      · rw [if_pos c1, if_neg c2, if_neg (fun h => c2 h.2.1)]
    · rw [if_neg c1, if_neg (fun h => c1 h.1)]
theorem FnExactReadEdit (a0 : ByteArray) (_ : a0.size ≤ 140737488351232) : ∃ k, laws_FnExactReadEdit.f k a0 = some true := by
  refine ⟨4194304, ?_⟩
  unfold laws_FnExactReadEdit.f
  by_cases c : (a0.size : Int) > 1048576
  · rw [if_pos c]
  · have e1 := fun k hk => re_spec a0 (by omega) k hk
    have e2 := fun k hk => re_impl a0 (by omega) k hk
    rw [if_neg c, e1 4194304 (by omega), Option.bind_some, e2 4194304 (by omega), Option.bind_some]
    unfold laws_eqEdit.f
    rw [if_pos rfl, if_pos rfl, if_pos rfl, if_pos rfl, if_pos rfl, Option.bind_some, if_pos rfl, bne_self_eq_false, if_neg (by decide)]
end Go.Proofs.YtffnjbhimhbomaaDoor.Pure
