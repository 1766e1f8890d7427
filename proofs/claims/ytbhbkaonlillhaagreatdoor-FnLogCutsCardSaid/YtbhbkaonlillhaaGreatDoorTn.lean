/- Plain facts on trees, marks and lists, part 2. -/
import Derived.Test.YtbhbkaonlillhaaGreatDoorTm
/- The new tree. -/
namespace Go.Tm
open Go Go.Abs
/-- The tree of a new disk. -/
def newTr : Tree := ⟨[⟨1, 0, ⟨#[]⟩, true, 1, 0, 0, [], 0⟩], 2⟩
end Go.Tm

/- Whole numbers as bytes, short texts, sums: what is written and read. -/
namespace Go.Tm
open Go Go.Abs
set_option linter.unusedVariables false
set_option linter.unusedSimpArgs false
theorem bytesText_list (ns : List Int) : (bytesText ns).data.toList = ns.map fun n => UInt8.ofNat n.toNat := by
  have key : ∀ (ns : List Int) (r : ByteArray), (ns.foldl (fun r n => r.push (UInt8.ofNat n.toNat)) r).data.toList = r.data.toList ++ ns.map fun n => UInt8.ofNat n.toNat := by
    intro ns
    induction ns with
    | nil => intro r; simp
    | cons n ns ih =>
      intro r
      rw [List.foldl_cons, ih]
      have : (r.push (UInt8.ofNat n.toNat)).data = r.data.push (UInt8.ofNat n.toNat) := rfl
      rw [this, Array.toList_push]
      simp
  have := key ns ByteArray.empty
  unfold bytesText
  rw [this]
  rfl
theorem byteAt_range (p : ByteArray) (i : Int) : 0 ≤ byteAt p i ∧ byteAt p i ≤ 255 := by
  unfold byteAt
  have := (p.data.getD i.toNat 0).toNat_lt
  omega
/-- The bytes of a text from a place on. -/
def dsOf (p : ByteArray) (a : Int) (n : Nat) : List Int := (List.range n).map fun (j : Nat) => byteAt p (a + (j : Int))
def vval : List Int → Int
  | [] => 0
  | c :: r => c % 128 + 128 * vval r
/-- The numbers of a whole number's text: seven bits each, the lowest first; all but the last have the high bit. -/
def vd : Nat → Int → List Int
  | 0, n => [n % 256]
  | d + 1, n => if n > 127 then (n % 128 + 128) :: vd d (n / 128) else [n % 256]
def varT (n : Int) : ByteArray := bytesText (vd 8 n)
theorem vd_len : ∀ (d : Nat) (n : Int), 1 ≤ (vd d n).length ∧ (vd d n).length ≤ d + 1
  | 0, n => by simp [vd]
  | d + 1, n => by
    have ih := vd_len d (n / 128)
    unfold vd
    split
    · rw [List.length_cons]; omega
    · simp
theorem varT_size (n : Int) : 1 ≤ (varT n).size ∧ (varT n).size ≤ 9 := by
  unfold varT
  rw [bytesText_size]
  exact vd_len 8 n
theorem ds_len (p : ByteArray) (a : Int) (n : Nat) : (dsOf p a n).length = n := by simp [dsOf]
theorem ds_succ (p : ByteArray) (a : Int) (n : Nat) : dsOf p a (n + 1) = dsOf p a n ++ [byteAt p (a + (n : Int))] := by
  unfold dsOf
  rw [List.range_succ, List.map_append]
  rfl
theorem byteAt_get {p : ByteArray} {i : Int} (h0 : 0 ≤ i) (h : i < p.size) : p.data.toList[i.toNat]? = some (UInt8.ofNat (byteAt p i).toNat) := by
  have hs : i.toNat < p.data.size := by have : p.size = p.data.size := rfl; omega
  rw [List.getElem?_eq_getElem (by simpa using hs)]
  congr 1
  unfold byteAt
  simp [Array.getD_eq_getD_getElem?, Array.getElem?_eq_getElem hs]
theorem ds_str (p : ByteArray) (a : Int) (n : Nat) (ha : 0 ≤ a) (hn : a + n ≤ p.size) : bytesText (dsOf p a n) = p.extract a.toNat (a + n).toNat := by
  apply ba_ext
  rw [bytesText_list, ext_list]
  apply List.ext_getElem?
  intro j
  rw [List.getElem?_drop, List.getElem?_take, List.getElem?_map]
  by_cases hj : j < n
  · rw [if_pos (by omega)]
    have e : (a + (j : Int)).toNat = a.toNat + j := by omega
    have := byteAt_get (p := p) (i := a + j) (by omega) (by omega)
    rw [e] at this
    rw [this]
    unfold dsOf
    rw [List.getElem?_map, List.getElem?_range hj]
    rfl
  · rw [if_neg (by omega), List.getElem?_eq_none (by rw [ds_len]; omega)]
    rfl
theorem vval_app : ∀ (l : List Int) (c : Int), vval (l ++ [c]) = vval l + 128 ^ l.length * (c % 128)
  | [], c => by simp [vval]
  | x :: l, c => by
    have ih := vval_app l c
    have e : (128 : Int) ^ (l.length + 1) = 128 ^ l.length * 128 := Int.pow_succ ..
    rw [List.cons_append, vval, vval, ih, List.length_cons, e]
    generalize (128 : Int) ^ l.length = P
    have h : P * 128 * (c % 128) = 128 * (P * (c % 128)) := by rw [Int.mul_comm P 128, Int.mul_assoc]
    rw [h]
    omega
theorem vval_pos : ∀ l : List Int, 0 ≤ vval l
  | [] => by simp [vval]
  | x :: l => by
    have ih := vval_pos l
    unfold vval
    omega
theorem vval_lt : ∀ l : List Int, vval l < 128 ^ l.length
  | [] => by simp [vval]
  | x :: l => by
    have ih := vval_lt l
    have e : (128 : Int) ^ (l.length + 1) = 128 ^ l.length * 128 := Int.pow_succ ..
    rw [List.length_cons, e]
    unfold vval
    omega
/-- A text of one number is what is made of the number, where its last byte is no nought (or it is one byte). -/
theorem vd_canon : ∀ (hi : List Int) (c : Int) (d : Nat), (∀ x ∈ hi, 128 ≤ x ∧ x ≤ 255) → 0 ≤ c → c < 128 → (c ≠ 0 ∨ hi = []) → hi.length ≤ d → vd d (vval (hi ++ [c])) = hi ++ [c] := by
  intro hi
  induction hi with
  | nil =>
    intro c d _ h0 h1 _ _
    have e : vval [c] = c := by unfold vval vval; omega
    rw [List.nil_append, e]
    cases d with
    | zero => unfold vd; rw [show c % 256 = c by omega]
    | succ d => unfold vd; rw [if_neg (by omega), show c % 256 = c by omega]
  | cons x l ih =>
    intro c d hx h0 h1 hc hd
    obtain ⟨d, rfl⟩ : ∃ m, d = m + 1 := ⟨d - 1, by simp only [List.length_cons] at hd; omega⟩
    have hx0 := hx x (by simp)
    have hc0 : c ≠ 0 := by
      rcases hc with h | h
      · exact h
      · cases h
    have ih' := ih c d (fun y hy => hx y (by simp [hy])) h0 h1 (.inl hc0) (by simp only [List.length_cons] at hd; omega)
    have hp : 1 ≤ vval (l ++ [c]) := by
      rw [vval_app]
      have h2 := vval_pos l
      have h3 : (1 : Int) ≤ 128 ^ l.length := by have := Int.pow_pos (n := 128) (m := l.length) (show (0 : Int) < 128 by decide); omega
      have h4 : (1 : Int) * 1 ≤ 128 ^ l.length * (c % 128) := Int.mul_le_mul h3 (by omega) (by decide) (by omega)
      omega
    have e : vval ((x :: l) ++ [c]) = x % 128 + 128 * vval (l ++ [c]) := rfl
    rw [e]
    unfold vd
    rw [if_pos (by omega), show (x % 128 + 128 * vval (l ++ [c])) / 128 = vval (l ++ [c]) by omega, ih', show (x % 128 + 128 * vval (l ++ [c])) % 128 + 128 = x by omega]
    rfl
theorem vd_short : ∀ (m d : Nat) (n : Int), 1 ≤ m → 0 ≤ n → n < 128 ^ m → (vd d n).length ≤ m := by
  intro m
  induction m with
  | zero => intro d n h; omega
  | succ m ih =>
    intro d n _ h0 h1
    have e : (128 : Int) ^ (m + 1) = 128 ^ m * 128 := Int.pow_succ ..
    cases d with
    | zero => simp [vd]
    | succ d =>
      unfold vd
      by_cases c : n > 127
      · rw [if_pos c, List.length_cons]
        cases m with
        | zero => simp at h1; omega
        | succ m =>
          have := ih d (n / 128) (by omega) (by omega) (by omega)
          omega
      · rw [if_neg c]; simp
/-- What a number's text at a place says: its value, the place behind it. -/
def rvL (p : ByteArray) (a : Int) : Nat → Nat → Int → Int × Int × Bool
  | 0, _, _ => (0, 0, false)
  | r + 1, i, n =>
    if a + i < (p.size : Int) then
      (if byteAt p (a + i) < 128 then
        (if n + byteAt p (a + i) % 128 * 128 ^ i > 1000000000 then (0, 0, false)
         else if (varT (n + byteAt p (a + i) % 128 * 128 ^ i)).size = i + 1 then (n + byteAt p (a + i) % 128 * 128 ^ i, a + i + 1, true) else (0, 0, false))
       else rvL p a r (i + 1) (n + byteAt p (a + i) % 128 * 128 ^ i))
    else (0, 0, false)
def rvV (p : ByteArray) (a : Int) : Int × Int × Bool := if 0 ≤ a ∧ a ≤ (p.size : Int) then rvL p a 5 0 0 else (0, 0, false)
theorem p128 (i : Nat) (h : i ≤ 5) : (1 : Int) ≤ 128 ^ i ∧ (128 : Int) ^ i ≤ 34359738368 := by
  match i, h with
  | 0, _ => decide
  | 1, _ => decide
  | 2, _ => decide
  | 3, _ => decide
  | 4, _ => decide
  | 5, _ => decide
/-- The number's bytes so far. -/
structure Run (p : ByteArray) (a : Int) (i : Nat) (n : Int) : Prop where
  ha : 0 ≤ a
  hs : a + i ≤ p.size
  hn : n = vval (dsOf p a i)
  hi : ∀ x ∈ dsOf p a i, 128 ≤ x ∧ x ≤ 255
theorem run_add {p : ByteArray} {a : Int} {i : Nat} {n : Int} (h : Run p a i n) : n + byteAt p (a + i) % 128 * 128 ^ i = vval (dsOf p a (i + 1)) := by
  rw [ds_succ, vval_app, ds_len, h.hn, Int.mul_comm]
theorem run_next {p : ByteArray} {a : Int} {i : Nat} {n : Int} (h : Run p a i n) (hc : ¬ byteAt p (a + i) < 128) (hs : a + i < p.size) : Run p a (i + 1) (n + byteAt p (a + i) % 128 * 128 ^ i) where
  ha := h.ha
  hs := by omega
  hn := run_add h
  hi := by
    intro x hx
    rw [ds_succ, List.mem_append] at hx
    rcases hx with hx | hx
    · exact h.hi x hx
    · obtain rfl : x = byteAt p (a + i) := by simpa using hx
      have := byteAt_range p (a + i)
      omega
/-- The text that is made of the number read is the one that was read, or it is shorter. -/
theorem run_text {p : ByteArray} {a : Int} {i : Nat} {n : Int} (h : Run p a i n) (h5 : i ≤ 4) (hc : byteAt p (a + i) < 128) (hs : a + i < p.size) :
    (varT (n + byteAt p (a + i) % 128 * 128 ^ i) = p.extract a.toNat (a + i + 1).toNat) ∨ (varT (n + byteAt p (a + i) % 128 * 128 ^ i)).size ≠ i + 1 := by
  have hr := byteAt_range p (a + i)
  by_cases c : byteAt p (a + i) ≠ 0 ∨ dsOf p a i = []
  · left
    rw [run_add h, ds_succ]
    unfold varT
    rw [vd_canon (dsOf p a i) (byteAt p (a + i)) 8 h.hi hr.1 hc c (by rw [ds_len]; omega), ← ds_succ, ds_str p a (i + 1) h.ha (by omega)]
    rw [show a + ((i + 1 : Nat) : Int) = a + i + 1 by omega]
  · right
    have c0 : byteAt p (a + i) = 0 := Classical.byContradiction fun e => c (.inl e)
    have c1 : dsOf p a i ≠ [] := fun e => c (.inr e)
    have hl : 1 ≤ i := by
      have := ds_len p a i
      cases i with
      | zero => exact absurd (List.eq_nil_of_length_eq_zero this) c1
      | succ i => omega
    unfold varT
    rw [bytesText_size, c0, h.hn]
    have := vd_short i 8 (vval (dsOf p a i)) hl (vval_pos _) (by have := vval_lt (dsOf p a i); rw [ds_len] at this; exact this)
    rw [show vval (dsOf p a i) + 0 % 128 * 128 ^ i = vval (dsOf p a i) by omega]
    omega
theorem run_bound {p : ByteArray} {a : Int} {i : Nat} {n : Int} (h : Run p a i n) (h5 : i ≤ 4) : 0 ≤ n + byteAt p (a + i) % 128 * 128 ^ i ∧ n + byteAt p (a + i) % 128 * 128 ^ i < 34359738368 ∧ 0 ≤ byteAt p (a + i) % 128 * 128 ^ i ∧ byteAt p (a + i) % 128 * 128 ^ i ≤ 34359738368 ∧ 0 ≤ n := by
  have h1 := vval_pos (dsOf p a (i + 1))
  have h2 := vval_lt (dsOf p a (i + 1))
  rw [ds_len] at h2
  have h3 := (p128 (i + 1) (by omega)).2
  have h4 := run_add h
  have h6 : 0 ≤ byteAt p (a + i) % 128 * 128 ^ i := Int.mul_nonneg (by omega) (by have := (p128 i (by omega)).1; omega)
  have h7 := vval_pos (dsOf p a i)
  rw [← h.hn] at h7
  omega
theorem run_zero (p : ByteArray) (a : Int) (h0 : 0 ≤ a) (h1 : a ≤ p.size) : Run p a 0 0 where
  ha := h0
  hs := by omega
  hn := rfl
  hi := fun x hx => by cases hx
theorem rvL_ok (p : ByteArray) (a : Int) : ∀ (r i : Nat) (n : Int), r + i = 5 → Run p a i n → (rvL p a r i n).2.2 = true →
    0 ≤ (rvL p a r i n).1 ∧ (rvL p a r i n).1 ≤ 1000000000 ∧ a < (rvL p a r i n).2.1 ∧ (rvL p a r i n).2.1 ≤ p.size ∧ varT (rvL p a r i n).1 = p.extract a.toNat (rvL p a r i n).2.1.toNat := by
  intro r
  induction r with
  | zero => intro i n _ _ h; cases h
  | succ r ih =>
    intro i n hri hR
    have hb := run_bound hR (by omega)
    unfold rvL
    by_cases c : a + (i : Int) < (p.size : Int)
    · rw [if_pos c]
      by_cases c1 : byteAt p (a + i) < 128
      · rw [if_pos c1]
        by_cases c2 : n + byteAt p (a + i) % 128 * 128 ^ i > 1000000000
        · rw [if_pos c2]; intro h; cases h
        · rw [if_neg c2]
          by_cases c3 : (varT (n + byteAt p (a + i) % 128 * 128 ^ i)).size = i + 1
          · rw [if_pos c3]
            intro _
            refine ⟨hb.1, by omega, by dsimp only; omega, by dsimp only; omega, ?_⟩
            rcases run_text hR (by omega) c1 c with e | e
            · exact e
            · exact absurd c3 e
          · rw [if_neg c3]; intro h; cases h
      · rw [if_neg c1]
        exact ih (i + 1) _ (by omega) (run_next hR c1 c)
    · rw [if_neg c]; intro h; cases h
theorem rv_ok (p : ByteArray) (a : Int) (h : (rvV p a).2.2 = true) : 0 ≤ a ∧ 0 ≤ (rvV p a).1 ∧ (rvV p a).1 ≤ 1000000000 ∧ a < (rvV p a).2.1 ∧ (rvV p a).2.1 ≤ p.size ∧ varT (rvV p a).1 = p.extract a.toNat (rvV p a).2.1.toNat := by
  unfold rvV at h ⊢
  by_cases c : 0 ≤ a ∧ a ≤ (p.size : Int)
  · rw [if_pos c] at h ⊢
    exact ⟨c.1, rvL_ok p a 5 0 0 rfl (run_zero p a c.1 c.2) h⟩
  · rw [if_neg c] at h; cases h
theorem rv_end (p : ByteArray) : (rvV p p.size).2.2 = false := by
  unfold rvV
  rw [if_pos ⟨by omega, by omega⟩]
  unfold rvL
  rw [if_neg (by omega)]
/-! ### What is written is read -/
/-- The value of a number's bytes. -/
theorem vval_vd : ∀ (d : Nat) (n : Int), 0 ≤ n → n < 128 ^ (d + 1) → vval (vd d n) = n
  | 0, n, h0, h => by
    have h : n < 128 := by simpa using h
    unfold vd vval vval; omega
  | d + 1, n, h0, h => by
    unfold vd
    split
    · rw [vval, vval_vd d (n / 128) (by omega) (by have : (128 : Int) ^ (d + 1 + 1) = 128 ^ (d + 1) * 128 := (Int.pow_succ ..); omega)]
      omega
    · unfold vval vval; omega
/-- A number's bytes: all but the last have the high bit. -/
theorem vd_form : ∀ (d : Nat) (n : Int), 0 ≤ n → n < 128 ^ (d + 1) → ∃ hi c, vd d n = hi ++ [c] ∧ (∀ x ∈ hi, 128 ≤ x ∧ x ≤ 255) ∧ 0 ≤ c ∧ c < 128
  | 0, n, h0, h => by
    have h : n < 128 := by simpa using h
    exact ⟨[], n % 256, rfl, by simp, by omega, by omega⟩
  | d + 1, n, h0, h => by
    unfold vd
    split
    · obtain ⟨hi, c, e, h1, h2, h3⟩ := vd_form d (n / 128) (by omega) (by have : (128 : Int) ^ (d + 1 + 1) = 128 ^ (d + 1) * 128 := (Int.pow_succ ..); omega)
      refine ⟨(n % 128 + 128) :: hi, c, by rw [e]; rfl, fun x hx => ?_, h2, h3⟩
      rcases List.mem_cons.1 hx with rfl | hx
      · omega
      · exact h1 x hx
    · exact ⟨[], n % 256, rfl, by simp, by omega, by omega⟩
/-- Bytes that stand at a place. -/
def At (p : ByteArray) (a : Nat) (s : List UInt8) : Prop := ∃ u v, p.data.toList = u ++ s ++ v ∧ u.length = a
theorem At.byte {p : ByteArray} {a : Nat} {s : List UInt8} (h : At p a s) {j : Nat} {x : UInt8} (hx : s[j]? = some x) : byteAt p ((a : Int) + j) = x.toNat ∧ a + j < p.size := by
  obtain ⟨u, v, e, hu⟩ := h
  have hj := (List.getElem?_eq_some_iff.1 hx).1
  have hs : p.size = p.data.toList.length := (Array.length_toList (xs := p.data)).symm
  have hlt : a + j < p.size := by rw [hs, e]; simp; omega
  refine ⟨?_, hlt⟩
  have h1 : p.data.toList[a + j]? = some x := by
    rw [e, List.append_assoc, List.getElem?_append_right (by omega), List.getElem?_append_left (by omega)]
    rw [show a + j - u.length = j by omega]
    exact hx
  have h2 := byteAt_get (p := p) (i := (a : Int) + j) (by omega) (by omega)
  rw [show ((a : Int) + j).toNat = a + j by omega, h1] at h2
  have h3 := byteAt_range p ((a : Int) + j)
  have h4 : x = UInt8.ofNat (byteAt p ((a : Int) + j)).toNat := Option.some.inj h2
  have h5 := congrArg UInt8.toNat h4
  rw [UInt8.toNat_ofNat'] at h5
  omega
theorem At.bytes {p : ByteArray} {a : Nat} {s : ByteArray} (h : At p a s.data.toList) : p.extract a (a + s.size) = s ∧ a + s.size ≤ p.size := by
  obtain ⟨u, v, e, hu⟩ := h
  have hs : s.size = s.data.toList.length := (Array.length_toList (xs := s.data)).symm
  have hp : p.size = p.data.toList.length := (Array.length_toList (xs := p.data)).symm
  refine ⟨?_, by rw [hp, e, hs]; simp; omega⟩
  apply ba_ext
  rw [ext_list, e]
  rw [List.take_append_of_le_length (by simp; omega), List.take_of_length_le (by simp; omega), List.drop_append, List.drop_of_length_le (by omega)]
  simp [hu]
theorem At.app {p : ByteArray} {a : Nat} {s t : List UInt8} (h : At p a (s ++ t)) : At p a s ∧ At p (a + s.length) t := by
  obtain ⟨u, v, e, hu⟩ := h
  exact ⟨⟨u, t ++ v, by rw [e]; simp, hu⟩, ⟨u ++ s, v, by rw [e]; simp, by simp [hu]⟩⟩
theorem rv_at {p : ByteArray} {a : Nat} {n : Int} (h0 : 0 ≤ n) (h1 : n ≤ 1000000000) (h : At p a (varT n).data.toList) : rvV p a = (n, (a : Int) + (varT n).size, true) := by
  obtain ⟨hi, c, hv, hh, c0, c1⟩ := vd_form 8 n h0 (by have : (128 : Int) ^ (8 + 1) = 9223372036854775808 := (by decide); omega)
  have hval := vval_vd 8 n h0 (by have : (128 : Int) ^ (8 + 1) = 9223372036854775808 := (by decide); omega)
  have hlen := vd_short 5 8 n (by omega) h0 (by have : (128 : Int) ^ 5 = 34359738368 := (by decide); omega)
  rw [hv] at hval hlen
  simp at hlen
  have hb := h.bytes
  have hz : (varT n).size = hi.length + 1 := by unfold varT; rw [bytesText_size, hv]; simp
  have hbyte : ∀ (j : Nat) x, (hi ++ [c])[j]? = some x → byteAt p ((a : Int) + j) = x := fun j x hx => by
    have h2 : (varT n).data.toList[j]? = some (UInt8.ofNat x.toNat) := by
      unfold varT
      rw [bytesText_list, hv, List.getElem?_map, hx]; rfl
    have h3 := (h.byte h2).1
    have hxm : 0 ≤ x ∧ x ≤ 255 := by
      rcases List.mem_append.1 (List.mem_of_getElem? hx) with hm | hm
      · have := hh x hm; omega
      · simp at hm; omega
    rw [h3, UInt8.toNat_ofNat']
    have : x.toNat % 256 = x.toNat := Nat.mod_eq_of_lt (by omega)
    simp only [show (2 : Nat) ^ 8 = 256 from rfl]
    omega
  unfold rvV
  rw [if_pos ⟨by omega, by omega⟩]
  have key : ∀ (r i : Nat) (m : Int), r + i = 5 → i ≤ hi.length → Run p a i m → rvL p a r i m = (n, (a : Int) + (varT n).size, true) := by
    intro r
    induction r with
    | zero => intro i m hri hil _; omega
    | succ r ih =>
      intro i m hri hil hR
      have hlt : (a : Int) + i < p.size := by omega
      unfold rvL
      rw [if_pos hlt]
      rcases Nat.lt_or_ge i hi.length with hc | hc
      · have hx : (hi ++ [c])[i]? = some hi[i] := by rw [List.getElem?_append_left hc]; exact List.getElem?_eq_getElem hc
        have hbt := hbyte i _ hx
        have := hh _ (List.getElem_mem hc)
        have hnb : ¬ byteAt p ((a : Int) + i) < 128 := by omega
        rw [if_neg hnb]
        exact ih (i + 1) _ (by omega) (by omega) (run_next hR hnb hlt)
      · obtain rfl : i = hi.length := by omega
        have hx : (hi ++ [c])[hi.length]? = some c := by simp
        have hbt := hbyte _ _ hx
        have hds : dsOf p a (hi.length + 1) = hi ++ [c] := by
          apply List.ext_getElem?
          intro j
          unfold dsOf
          rw [List.getElem?_map]
          by_cases hj : j < hi.length + 1
          · rw [List.getElem?_range hj]
            have hj2 : j < (hi ++ [c]).length := by simpa using hj
            have hx2 : (hi ++ [c])[j]? = some (hi ++ [c])[j] := List.getElem?_eq_getElem hj2
            rw [hx2]
            simp only [Option.map_some]
            rw [hbyte j _ hx2]
          · rw [List.getElem?_eq_none (by simp; omega), List.getElem?_eq_none (by simp; omega)]; rfl
        have hadd := run_add hR
        rw [hds, hval] at hadd
        rw [hadd, if_pos (by omega), if_neg (by omega), if_pos hz, hz]
        congr 1
  exact key 5 0 0 rfl (Nat.zero_le _) (run_zero p a (by omega) (by omega))
end Go.Tm

/- Records as texts, texts in frames, frames in a log: what is written and read. -/
namespace Go.Tm
open Go Go.Abs
set_option linter.unusedVariables false
set_option linter.unusedSimpArgs false
/-! ### Short texts -/
/-- What is read of a short text at a place. -/
def rsV (p : ByteArray) (a : Int) : ByteArray × Int × Bool :=
  if (rvV p a).2.2 = true then
    (if (rvV p a).1 > 20000 then (⟨#[]⟩, 0, false)
     else if (rvV p a).1 > (p.size : Int) - (rvV p a).2.1 then (⟨#[]⟩, 0, false)
     else (p.extract (rvV p a).2.1.toNat ((rvV p a).2.1 + (rvV p a).1).toNat, (rvV p a).2.1 + (rvV p a).1, true))
  else (⟨#[]⟩, 0, false)
theorem ex_app (p : ByteArray) (a b c : Nat) (h1 : a ≤ b) (h2 : b ≤ c) : p.extract a b ++ p.extract b c = p.extract a c := by
  rw [ByteArray.extract_append_extract, Nat.min_eq_left h1, Nat.max_eq_right h2]
theorem rs_ok (p : ByteArray) (a : Int) (h : (rsV p a).2.2 = true) : 0 ≤ a ∧ (rsV p a).1.size ≤ 20000 ∧ a < (rsV p a).2.1 ∧ (rsV p a).2.1 ≤ p.size ∧ varT (rsV p a).1.size ++ (rsV p a).1 = p.extract a.toNat (rsV p a).2.1.toNat := by
  have hv := rv_ok p a
  unfold rsV at h ⊢
  generalize rvV p a = v at h hv ⊢
  obtain ⟨n, nx, b⟩ := v
  cases b with
  | false => cases h
  | true =>
    obtain ⟨h0, h1, h2, h3, h4, h5⟩ := hv rfl
    dsimp only at h h1 h2 h3 h4 h5 ⊢
    rw [if_pos rfl] at h ⊢
    by_cases c1 : n > 20000
    · rw [if_pos c1] at h; cases h
    · rw [if_neg c1] at h ⊢
      by_cases c2 : n > (p.size : Int) - nx
      · rw [if_pos c2] at h; cases h
      · rw [if_neg c2]
        dsimp only
        have hz : (p.extract nx.toNat (nx + n).toNat).size = n.toNat := by rw [ByteArray.size_extract]; omega
        refine ⟨h0, by omega, by omega, by omega, ?_⟩
        rw [hz, show ((n.toNat : Nat) : Int) = n by omega, h5, ex_app p a.toNat nx.toNat (nx + n).toNat (by omega) (by omega)]
theorem rs_no (p : ByteArray) (a : Int) (h : (rsV p a).2.2 = false) : rsV p a = (⟨#[]⟩, 0, false) := by
  unfold rsV at h ⊢
  repeat' split at h
  · rename_i h1 h2; rw [if_pos h1, if_pos h2]
  · rename_i h1 h2 h3; rw [if_pos h1, if_neg h2, if_pos h3]
  · cases h
  · rename_i h1; rw [if_neg h1]
theorem rs_size (p : ByteArray) (a : Int) : (rsV p a).1.size ≤ 20000 := by
  cases h : (rsV p a).2.2 with
  | true => exact (rs_ok p a h).2.1
  | false => rw [rs_no p a h]; exact Nat.zero_le _
theorem size_list (s : ByteArray) : s.size = s.data.toList.length := (Array.length_toList (xs := s.data)).symm
theorem rs_at {p : ByteArray} {a : Nat} {s : ByteArray} (hs : s.size ≤ 20000) (h : At p a ((varT s.size).data.toList ++ s.data.toList)) : rsV p a = (s, (a : Int) + (varT s.size).size + s.size, true) := by
  obtain ⟨h1, h2⟩ := h.app
  have hv := rv_at (p := p) (a := a) (n := s.size) (by omega) (by omega) h1
  rw [← size_list] at h2
  obtain ⟨e, hle⟩ := h2.bytes
  unfold rsV
  rw [hv]
  dsimp only
  rw [if_pos rfl, if_neg (by omega), if_neg (by omega)]
  congr 1
  all_goals (rw [← e]; congr 1 <;> omega)
/-! ### A record's text -/
def editT (e : Edt) : ByteArray := bytesText [e.kind % 256, e.who % 256] ++ (varT e.path.size ++ e.path) ++ (varT e.to.size ++ e.to) ++ varT e.num
def zEdt : Edt := ⟨0, ⟨#[]⟩, ⟨#[]⟩, 0, 0⟩
def rEdt (p : ByteArray) : Edt := ⟨byteAt p 0, (rsV p 2).1, (rsV p (rsV p 2).2.1).1, (rvV p (rsV p (rsV p 2).2.1).2.1).1, byteAt p 1⟩
def rEnd (p : ByteArray) : Int × Int × Bool := rvV p (rsV p (rsV p 2).2.1).2.1
/-- What is read of a record's text. -/
def reV (p : ByteArray) : Edt × Bool :=
  if (p.size : Int) < 2 then (zEdt, false)
  else if (rsV p 2).2.2 = true ∧ (rsV p (rsV p 2).2.1).2.2 = true ∧ (rEnd p).2.2 = true ∧ (rEnd p).2.1 = (p.size : Int) ∧ editB (rEdt p) = true then (rEdt p, true)
  else (zEdt, false)
theorem app_list (s t : ByteArray) : (s ++ t).data.toList = s.data.toList ++ t.data.toList := ba_app s t
/-- The text of what was read is what was read, as far as it goes. -/
theorem re_back (p : ByteArray) (h0 : 2 ≤ p.size) (c1 : (rsV p 2).2.2 = true) (c2 : (rsV p (rsV p 2).2.1).2.2 = true) (c3 : (rEnd p).2.2 = true) :
    editT (rEdt p) = p.extract 0 (rEnd p).2.1.toNat ∧ 0 ≤ (rEnd p).2.1 ∧ (rEnd p).2.1 ≤ p.size := by
  unfold rEnd at c3 ⊢
  obtain ⟨_, _, a3, a4, a5⟩ := rs_ok p 2 c1
  obtain ⟨_, _, b3, b4, b5⟩ := rs_ok p (rsV p 2).2.1 c2
  obtain ⟨_, _, _, d3, d4, d5⟩ := rv_ok p (rsV p (rsV p 2).2.1).2.1 c3
  refine ⟨?_, by omega, d4⟩
  have e0 : bytesText [byteAt p 0 % 256, byteAt p 1 % 256] = p.extract 0 2 := by
    have r0 := byteAt_range p 0
    have r1 := byteAt_range p 1
    rw [show byteAt p 0 % 256 = byteAt p 0 by omega, show byteAt p 1 % 256 = byteAt p 1 by omega]
    exact ds_str p 0 2 (by omega) (by omega)
  unfold editT rEdt
  dsimp only
  rw [e0, a5, show (2 : Int).toNat = 2 from rfl, ex_app p 0 2 _ (by omega) (by omega), b5, ex_app p 0 _ _ (by omega) (by omega), d5, ex_app p 0 _ _ (by omega) (by omega)]
theorem re_ok {p : ByteArray} (h : (reV p).2 = true) : (reV p).1 = rEdt p ∧ editB (rEdt p) = true ∧ editT (rEdt p) = p := by
  unfold reV at h ⊢
  split at h
  · cases h
  rename_i h0
  split at h
  · rename_i h1
    rw [if_neg h0, if_pos h1]
    obtain ⟨c1, c2, c3, c4, c5⟩ := h1
    refine ⟨rfl, c5, ?_⟩
    rw [(re_back p (by omega) c1 c2 c3).1, c4]
    exact ByteArray.extract_zero_size
  · cases h
theorem joinP_size : ∀ {ns : List ByteArray}, Nms ns → ns.length ≤ 4 → (joinP ns).size ≤ 36 := by
  intro ns h hl
  by_cases h0 : ns = []
  · subst h0; exact (by decide : (1 : Nat) ≤ 36)
  · rw [size_list, joinP_list h0]
    have key : ∀ (ns : List ByteArray), Nms ns → (catL (ns.map (·.data.toList))).length ≤ 9 * ns.length := by
      intro ns
      induction ns with
      | nil => intro _; simp [catL]
      | cons x r ih =>
        intro h
        have h1 := ih fun y hy => h y (by simp [hy])
        have h2 := h x (by simp)
        unfold nmB at h2
        rw [Bool.and_eq_true, inB_iff, size_list] at h2
        rw [List.map_cons, catL_cons]
        simp only [List.length_cons, List.length_append]
        omega
    have := key ns h
    omega
theorem split_size {p : ByteArray} {ns : List ByteArray} (h : splitP p = some ns) : p.size ≤ 36 := by
  obtain ⟨h1, h2, h3⟩ := splitP_some h
  rw [← h3]; exact joinP_size h1 h2
theorem named_size {p : ByteArray} (h : namedP p = true) : p.size ≤ 36 := by
  obtain ⟨ns, nm, hs⟩ := namedP_iff.1 h
  exact split_size hs
theorem empty_size : (⟨#[]⟩ : ByteArray).size = 0 := rfl
theorem editB_small {e : Edt} (h : editB e = true) : e.path.size ≤ 36 ∧ e.to.size ≤ 36 ∧ (0 ≤ e.num ∧ e.num ≤ 1000) ∧ (1 ≤ e.kind ∧ e.kind ≤ 10) ∧ 0 ≤ e.who ∧ e.who ≤ 9 := by
  have hk := editB_kinds h
  have hsl : slash.size ≤ 36 := by decide
  unfold editB at h
  split at h
  · cases h
  split at h
  · simp only [decide_eq_true_eq] at h
    rw [h.1, h.2.1, h.2.2.1, h.2.2.2]
    exact ⟨hsl, by decide, by omega, hk, by omega⟩
  rename_i h10
  split at h
  · cases h
  rename_i hc
  simp only [not_or, not_and, Bool.not_eq_false, Decidable.not_not] at hc
  obtain ⟨g1, g2, g3⟩ := hc
  have hp : e.path.size ≤ 36 := by
    cases hn : namedP e.path with
    | true => exact named_size hn
    | false =>
      have := g1 hn
      by_cases c2 : e.path = slash
      · rw [c2]; exact hsl
      · exact absurd (fun _ => c2) this
  have ht : e.to.size ≤ 36 := by
    by_cases c : e.kind = 3
    · have : namedP e.to = true := by simpa [c] using g2
      exact named_size this
    · rw [g3 c]; decide
  refine ⟨hp, ht, ?_⟩
  split at h
  · simp only [Bool.and_eq_true, inB_iff, decide_eq_true_eq] at h; omega
  split at h
  · simp only [Bool.and_eq_true, inB_iff, decide_eq_true_eq] at h; omega
  split at h
  · simp only [Bool.and_eq_true, inB_iff, decide_eq_true_eq] at h; omega
  split at h
  · simp only [Bool.and_eq_true, inB_iff, decide_eq_true_eq] at h; omega
  · simp only [Bool.and_eq_true, inB_iff, decide_eq_true_eq] at h; omega
theorem editT_size {e : Edt} (h : editB e = true) : 1 ≤ (editT e).size ∧ (editT e).size ≤ 101 := by
  obtain ⟨h1, h2, _⟩ := editB_small h
  have a1 := varT_size e.path.size
  have a2 := varT_size e.to.size
  have a3 := varT_size e.num
  unfold editT
  simp only [ByteArray.size_append, bytesText_size, List.length_cons, List.length_nil]
  omega
/-- A record comes back from its text. -/
theorem re_edit {e : Edt} (h : editB e = true) : reV (editT e) = (e, true) := by
  obtain ⟨h1, h2, h3, h4, h5⟩ := editB_small h
  have hl : (editT e).data.toList = [UInt8.ofNat (e.kind % 256).toNat, UInt8.ofNat (e.who % 256).toNat] ++ (((varT e.path.size).data.toList ++ e.path.data.toList) ++ (((varT e.to.size).data.toList ++ e.to.data.toList) ++ (varT e.num).data.toList)) := by
    unfold editT
    simp only [app_list, bytesText_list, List.map_cons, List.map_nil, List.append_assoc]
  have A0 : At (editT e) 0 ([UInt8.ofNat (e.kind % 256).toNat, UInt8.ofNat (e.who % 256).toNat] ++ (((varT e.path.size).data.toList ++ e.path.data.toList) ++ (((varT e.to.size).data.toList ++ e.to.data.toList) ++ (varT e.num).data.toList))) := ⟨[], [], by rw [hl]; simp, rfl⟩
  obtain ⟨B0, A1⟩ := A0.app
  obtain ⟨B1, A2⟩ := A1.app
  obtain ⟨B2, A3⟩ := A2.app
  have k0 : byteAt (editT e) 0 = e.kind := by
    have := (B0.byte (j := 0) rfl).1
    simp only [Int.natCast_zero, Int.add_zero] at this
    rw [this, UInt8.toNat_ofNat']
    have : (e.kind % 256).toNat % 2 ^ 8 = (e.kind % 256).toNat := Nat.mod_eq_of_lt (by have : (2 : Nat) ^ 8 = 256 := rfl; omega)
    omega
  have k1 : byteAt (editT e) 1 = e.who := by
    have := (B0.byte (j := 1) rfl).1
    rw [show ((0 : Nat) : Int) + ((1 : Nat) : Int) = 1 from rfl] at this
    rw [this, UInt8.toNat_ofNat']
    have : (e.who % 256).toNat % 2 ^ 8 = (e.who % 256).toNat := Nat.mod_eq_of_lt (by have : (2 : Nat) ^ 8 = 256 := rfl; omega)
    omega
  have hsz : (editT e).size = 2 + ((varT e.path.size).size + e.path.size) + ((varT e.to.size).size + e.to.size) + (varT e.num).size := by
    unfold editT
    simp only [ByteArray.size_append, bytesText_size, List.length_cons, List.length_nil]
  have r1 := rs_at (a := 2) (s := e.path) (by omega) B1
  have q1 : (rsV (editT e) 2).2.1 = ((2 + ((varT e.path.size).size + e.path.size) : Nat) : Int) := by
    have : rsV (editT e) ((2 : Nat) : Int) = rsV (editT e) 2 := rfl
    rw [← this, r1]; dsimp only; omega
  have n1 : (rsV (editT e) 2).1 = e.path ∧ (rsV (editT e) 2).2.2 = true := by
    have : rsV (editT e) ((2 : Nat) : Int) = rsV (editT e) 2 := rfl
    rw [← this, r1]; exact ⟨rfl, rfl⟩
  have l1 : 0 + [UInt8.ofNat (e.kind % 256).toNat, UInt8.ofNat (e.who % 256).toNat].length + ((varT e.path.size).data.toList ++ e.path.data.toList).length = 2 + ((varT e.path.size).size + e.path.size) := by
    simp only [List.length_append, ← size_list, List.length_cons, List.length_nil] <;> omega
  rw [l1] at B2 A3
  have r2 := rs_at (s := e.to) (by omega) B2
  rw [← q1] at r2
  have l2 : 2 + ((varT e.path.size).size + e.path.size) + ((varT e.to.size).data.toList ++ e.to.data.toList).length = 2 + ((varT e.path.size).size + e.path.size) + ((varT e.to.size).size + e.to.size) := by
    simp only [List.length_append, ← size_list]
  rw [l2] at A3
  have r3 := rv_at (n := e.num) h3.1 (by omega) A3
  have q2 : (rsV (editT e) (rsV (editT e) 2).2.1).2.1 = ((2 + ((varT e.path.size).size + e.path.size) + ((varT e.to.size).size + e.to.size) : Nat) : Int) := by
    rw [r2, q1]; dsimp only; omega
  rw [← q2] at r3
  have hE : rEdt (editT e) = e := by
    unfold rEdt
    rw [k0, k1, n1.1, r3, r2]
  unfold reV
  rw [if_neg (by omega), if_pos ⟨n1.2, by rw [r2], by unfold rEnd; rw [r3], by unfold rEnd; rw [r3, q2]; dsimp only; omega, by rw [hE]; exact h⟩, hE]
/-! ### Sums and frames -/
def sumH (s : Int) : Int := if s.tmod 2 = 1 then xorI .u32 (s.tdiv 2) 3558460437 else s.tdiv 2
def sumR : Nat → Int → Int
  | 0, s => s
  | n + 1, s => sumR n (sumH s)
def sumF (t : ByteArray) : Nat → Int → Int → Int
  | 0, _, s => s
  | n + 1, i, s => sumF t n (i + 1) (sumR 8 (xorI .u32 s (byteAt t i)))
def sumV (t : ByteArray) : Int := sumF t t.size 0 4294967295
def fourT (x : Int) : ByteArray := bytesText [IntKind.u8.wrap (shrI .u32 x 24), IntKind.u8.wrap (shrI .u32 x 16), IntKind.u8.wrap (shrI .u32 x 8), IntKind.u8.wrap x]
theorem fourT_size (x : Int) : (fourT x).size = 4 := by unfold fourT; rw [bytesText_size]; rfl
def frV (t : ByteArray) : ByteArray × Bool := if 1 ≤ (t.size : Int) ∧ (t.size : Int) ≤ 9000 then (varT t.size ++ fourT (sumV t) ++ t, true) else (⟨#[]⟩, false)
theorem fr_ok {t : ByteArray} (h : 1 ≤ t.size ∧ t.size ≤ 9000) : frV t = (varT t.size ++ fourT (sumV t) ++ t, true) := by
  unfold frV; rw [if_pos (by omega)]
theorem fr_size (t : ByteArray) : (frV t).1.size ≤ 9013 := by
  have := varT_size t.size
  have := fourT_size (sumV t)
  unfold frV
  split
  · simp only [ByteArray.size_append]; omega
  · exact Nat.zero_le _
/-- The records in a file, and where they end. -/
def unL (p : ByteArray) : Nat → List ByteArray → Int → List ByteArray × Int
  | 0, acc, a => (acc, a)
  | r + 1, acc, a =>
    if (rvV p a).2.2 = true then
      (if (rvV p a).1 > (p.size : Int) - (rvV p a).2.1 - 4 then (acc, a)
       else if (frV (p.extract ((rvV p a).2.1 + 4).toNat ((rvV p a).2.1 + 4 + (rvV p a).1).toNat)).2 = true ∧
          (frV (p.extract ((rvV p a).2.1 + 4).toNat ((rvV p a).2.1 + 4 + (rvV p a).1).toNat)).1 = p.extract a.toNat ((rvV p a).2.1 + 4 + (rvV p a).1).toNat then
           unL p r (acc ++ [p.extract ((rvV p a).2.1 + 4).toNat ((rvV p a).2.1 + 4 + (rvV p a).1).toNat]) ((rvV p a).2.1 + 4 + (rvV p a).1)
       else (acc, a))
    else (acc, a)
def unV (p : ByteArray) : List ByteArray × Int := if (p.size : Int) > 20000 then ([], 0) else unL p (p.size + 1) [] 0
theorem un_ok (p : ByteArray) : ∀ (r : Nat) (acc : List ByteArray) (a : Int), 0 ≤ a → a ≤ p.size → (acc.length : Int) ≤ a → (∀ t ∈ acc, t.size ≤ p.size) →
    (unL p r acc a).1.length ≤ p.size ∧ ∀ t ∈ (unL p r acc a).1, t.size ≤ p.size := by
  intro r
  induction r with
  | zero => intro acc a h0 h1 h2 h3; exact ⟨by unfold unL; dsimp only; omega, h3⟩
  | succ r ih =>
    intro acc a h0 h1 h2 h3
    have hv := rv_ok p a
    have stop : acc.length ≤ p.size ∧ ∀ t ∈ acc, t.size ≤ p.size := ⟨by omega, h3⟩
    unfold unL
    generalize rvV p a = v at hv ⊢
    obtain ⟨n, nx, b⟩ := v
    dsimp only at hv ⊢
    cases b with
    | false => exact stop
    | true =>
      obtain ⟨_, g1, g2, g3, g4, _⟩ := hv rfl
      rw [if_pos rfl]
      by_cases c2 : n > (p.size : Int) - nx - 4
      · rw [if_pos c2]; exact stop
      · rw [if_neg c2]
        split
        · refine ih _ _ (by omega) (by omega) (by rw [List.length_append]; simp only [List.length_cons, List.length_nil]; omega) (fun t ht => ?_)
          rw [List.mem_append] at ht
          rcases ht with ht | ht
          · exact h3 t ht
          · obtain rfl : t = p.extract (nx + 4).toNat (nx + 4 + n).toNat := by simpa using ht
            rw [ByteArray.size_extract]
            omega
        · exact stop
theorem unV_ok (p : ByteArray) : (unV p).1.length ≤ 20000 ∧ ∀ t ∈ (unV p).1, t.size ≤ 20000 := by
  unfold unV
  by_cases c : (p.size : Int) > 20000
  · rw [if_pos c]; exact ⟨Nat.zero_le _, fun t ht => by cases ht⟩
  · rw [if_neg c]
    have h := un_ok p (p.size + 1) [] 0 (by omega) (by omega) (by simp) (fun t ht => by cases ht)
    exact ⟨by omega, fun t ht => by have := h.2 t ht; omega⟩
/-- The records of texts, up to the first that is none; and how far they go. -/
def rlL : List ByteArray → List Edt × Int → List Edt × Int
  | [], p => p
  | t :: r, p => if (reV t).2 = true then rlL r (p.1 ++ [(reV t).1], p.2 + ((frV t).1.size : Int)) else p
def rlV (p : ByteArray) : List Edt × Int := rlL (unV p).1 ([], 0)
theorem rlL_ok : ∀ (l : List ByteArray) (p : List Edt × Int), (∀ e ∈ p.1, editB e = true) → ∀ e ∈ (rlL l p).1, editB e = true
  | [], p, h => h
  | t :: r, p, h => by
    unfold rlL
    split
    · rename_i c
      refine rlL_ok r _ fun e he => ?_
      rcases List.mem_append.1 he with he | he
      · exact h e he
      · obtain ⟨h1, h2, _⟩ := re_ok c
        simp at he
        rw [he, h1]; exact h2
    · exact h
theorem rlV_ok (p : ByteArray) : ∀ e ∈ (rlV p).1, editB e = true := rlL_ok _ _ (by simp)
theorem rlL_len : ∀ (l : List ByteArray) (p : List Edt × Int), (rlL l p).1.length ≤ p.1.length + l.length
  | [], p => by simp [rlL]
  | t :: r, p => by
    unfold rlL
    split
    · have := rlL_len r (p.1 ++ [(reV t).1], p.2 + ((frV t).1.size : Int))
      simp at this ⊢; omega
    · simp <;> omega
/-! ### A log of records -/
def frT (e : Edt) : List UInt8 := (frV (editT e)).1.data.toList
def logB (l : List Edt) : List UInt8 := l.flatMap frT
theorem frT_eq {e : Edt} (h : editB e = true) : frT e = (varT (editT e).size).data.toList ++ (fourT (sumV (editT e))).data.toList ++ (editT e).data.toList := by
  have := editT_size h
  unfold frT
  rw [fr_ok (by omega)]
  simp only [app_list]
theorem un_step {p : ByteArray} {a : Nat} {e : Edt} (he : editB e = true) (h : At p a (frT e)) (r : Nat) (acc : List ByteArray) : unL p (r + 1) acc a = unL p r (acc ++ [editT e]) ((a + (frT e).length : Nat) : Int) := by
  have hz := editT_size he
  have hlen : (frT e).length = (varT (editT e).size).size + 4 + (editT e).size := by
    rw [frT_eq he]
    simp only [List.length_append, ← size_list, fourT_size]
  have hb := At.bytes (s := (frV (editT e)).1) h
  have hfs : (frV (editT e)).1.size = (frT e).length := size_list _
  rw [hfs] at hb
  rw [frT_eq he] at h
  obtain ⟨h1, h2⟩ := h.app
  obtain ⟨h1, _⟩ := h1.app
  have hv := rv_at (n := (editT e).size) (by omega) (by omega) h1
  have h3 := h2.bytes
  simp only [List.length_append, ← size_list, fourT_size] at h3
  have e1 : ((a : Int) + (varT (editT e).size).size + 4).toNat = a + ((varT (editT e).size).size + 4) := by omega
  have e2 : ((a : Int) + (varT (editT e).size).size + 4 + (editT e).size).toNat = a + ((varT (editT e).size).size + 4) + (editT e).size := by omega
  have e3 : a + ((varT (editT e).size).size + 4) + (editT e).size = a + (frT e).length := by omega
  have e4 : (a : Int) + (varT (editT e).size).size + 4 + (editT e).size = ((a + (frT e).length : Nat) : Int) := by omega
  conv => lhs; unfold unL
  rw [hv]
  dsimp only
  rw [if_pos rfl, if_neg (by omega), e1, e2, h3.1, e3, Int.toNat_natCast, hb.1, if_pos ⟨by rw [fr_ok (by omega)], rfl⟩, e4]
/-- Nothing more is read here. -/
def Ends (p : ByteArray) (a : Int) : Prop := (rvV p a).2.2 = false ∨ (rvV p a).1 > (p.size : Int) - (rvV p a).2.1 - 4
theorem un_end {p : ByteArray} {a : Int} (h : Ends p a) (r : Nat) (acc : List ByteArray) : unL p r acc a = (acc, a) := by
  cases r with
  | zero => rfl
  | succ r =>
    unfold unL
    rcases h with h | h
    · rw [if_neg (by rw [h]; decide)]
    · by_cases c : (rvV p a).2.2 = true
      · rw [if_pos c, if_pos h]
      · rw [if_neg c]
theorem un_log {p : ByteArray} (l : List Edt) : ∀ (a r : Nat) (acc : List ByteArray), (∀ e ∈ l, editB e = true) → At p a (logB l) → Ends p ((a + (logB l).length : Nat) : Int) → l.length ≤ r → unL p r acc a = (acc ++ l.map editT, ((a + (logB l).length : Nat) : Int)) := by
  induction l with
  | nil =>
    intro a r acc _ _ hE _
    have e0 : (logB []).length = 0 := rfl
    rw [e0, Nat.add_zero] at hE ⊢
    rw [un_end hE r acc]
    simp
  | cons e l ih =>
    intro a r acc he h hE hr
    obtain ⟨r, rfl⟩ : ∃ k, r = k + 1 := ⟨r - 1, by simp at hr; omega⟩
    have hc : logB (e :: l) = frT e ++ logB l := by simp [logB]
    rw [hc] at h hE ⊢
    obtain ⟨h1, h2⟩ := h.app
    have hl : a + (frT e ++ logB l).length = a + (frT e).length + (logB l).length := by rw [List.length_append]; omega
    rw [hl] at hE ⊢
    have hs := un_step (he e (by simp)) h1 r acc
    have hi := ih (a + (frT e).length) r (acc ++ [editT e]) (fun x hx => he x (by simp [hx])) h2 hE (by simpa using hr)
    rw [hs, hi, List.map_cons, List.append_assoc]
    rfl
theorem rl_texts : ∀ (l : List Edt) (p : List Edt × Int), (∀ e ∈ l, editB e = true) → rlL (l.map editT) p = (p.1 ++ l, p.2 + ((logB l).length : Int))
  | [], p, _ => by simp [rlL, logB]
  | e :: l, p, h => by
    rw [List.map_cons, rlL, re_edit (h e (by simp)), if_pos rfl, rl_texts l _ fun x hx => h x (by simp [hx])]
    have hfs : (frV (editT e)).1.size = (frT e).length := size_list _
    have hc : logB (e :: l) = frT e ++ logB l := by simp [logB]
    simp [hc, hfs]
    omega
theorem frT_len {e : Edt} (h : editB e = true) : 1 ≤ (frT e).length ∧ (frT e).length ≤ 114 := by
  have := editT_size h
  have := varT_size (editT e).size
  rw [frT_eq h]
  simp only [List.length_append, ← size_list, fourT_size]
  omega
theorem logB_len : ∀ {l : List Edt}, (∀ e ∈ l, editB e = true) → l.length ≤ (logB l).length ∧ (logB l).length ≤ 114 * l.length
  | [], _ => by simp [logB]
  | e :: l, h => by
    have ih := logB_len (l := l) fun x hx => h x (by simp [hx])
    have h1 := frT_len (h e (by simp))
    have hc : logB (e :: l) = frT e ++ logB l := by simp [logB]
    rw [hc]
    simp
    omega
/-- A log of records, with something behind it that is no record: the records are read. -/
theorem rl_log {p : ByteArray} {l : List Edt} {v : List UInt8} (he : ∀ e ∈ l, editB e = true) (hp : p.data.toList = logB l ++ v) (hs : p.size ≤ 20000) (hE : Ends p ((logB l).length : Int)) : rlV p = (l, ((logB l).length : Int)) := by
  have hl := logB_len he
  have hsz : p.size = (logB l).length + v.length := by rw [size_list, hp]; simp
  unfold rlV unV
  rw [if_neg (by omega)]
  have := un_log (p := p) l 0 (p.size + 1) [] he ⟨[], v, by rw [hp]; simp, rfl⟩ (by simpa using hE) (by omega)
  simp only [Int.natCast_zero, Nat.zero_add] at this
  rw [this]
  dsimp only
  rw [List.nil_append, rl_texts l _ he]
  simp
/-- A torn frame is none. -/
theorem torn {p : ByteArray} {e : Edt} (he : editB e = true) {u s : List UInt8} (hp : p.data.toList = u ++ s) (hs : ∃ w, w ≠ [] ∧ frT e = s ++ w) : Ends p (u.length : Int) := by
  obtain ⟨w, hw, hf⟩ := hs
  have hz := editT_size he
  have hlen : (frT e).length = (varT (editT e).size).size + 4 + (editT e).size := by
    rw [frT_eq he]
    simp only [List.length_append, ← size_list, fourT_size]
  have hpz : p.size = u.length + s.length := by rw [size_list, hp]; simp
  have hwl : 0 < w.length := List.length_pos_iff.2 hw
  have hfl : (frT e).length = s.length + w.length := by rw [hf]; simp
  have hfe := frT_eq he
  rw [hf] at hfe
  rcases Nat.lt_or_ge s.length (varT (editT e).size).size with hc | hc
  · left
    obtain ⟨hi, c, hv, hh, c0, c1⟩ := vd_form 8 (editT e).size (by omega) (by have : (128 : Int) ^ (8 + 1) = 9223372036854775808 := (by decide); omega)
    have hlen5 := vd_short 5 8 (editT e).size (by omega) (by omega) (by have : (128 : Int) ^ 5 = 34359738368 := (by decide); omega)
    rw [hv] at hlen5
    simp at hlen5
    have hvz : (varT (editT e).size).size = hi.length + 1 := by unfold varT; rw [bytesText_size, hv]; simp
    have hbyte : ∀ (j : Nat), j < s.length → 128 ≤ byteAt p ((u.length : Int) + j) := fun j hj => by
      have hx : s[j]? = some s[j] := List.getElem?_eq_getElem hj
      have hA : At p u.length s := ⟨u, [], by rw [hp]; simp, rfl⟩
      rw [(hA.byte hx).1]
      have h1 : (s ++ w)[j]? = some s[j] := by rw [List.getElem?_append_left hj]; exact hx
      rw [hfe, List.append_assoc, List.getElem?_append_left (by rw [← size_list]; omega)] at h1
      unfold varT at h1
      rw [bytesText_list, hv, List.getElem?_map, List.getElem?_append_left (by omega)] at h1
      have hj2 : j < hi.length := by omega
      rw [List.getElem?_eq_getElem hj2] at h1
      simp only [Option.map_some, Option.some.injEq] at h1
      have := hh _ (List.getElem_mem hj2)
      rw [← h1, UInt8.toNat_ofNat']
      have : hi[j].toNat % 2 ^ 8 = hi[j].toNat := Nat.mod_eq_of_lt (by have : (2 : Nat) ^ 8 = 256 := rfl; omega)
      omega
    unfold rvV
    rw [if_pos ⟨by omega, by omega⟩]
    have key : ∀ (r i : Nat) (m : Int), r + i = 5 → i ≤ s.length → (rvL p u.length r i m).2.2 = false := by
      intro r
      induction r with
      | zero => intro i m hri hil; rfl
      | succ r ih =>
        intro i m hri hil
        unfold rvL
        split
        · rename_i hlt
          have := hbyte i (by omega)
          rw [if_neg (by omega)]
          exact ih (i + 1) _ (by omega) (by omega)
        · rfl
    exact key 5 0 0 rfl (Nat.zero_le _)
  · right
    have hA : At p u.length (varT (editT e).size).data.toList := by
      have h1 := congrArg (List.take (varT (editT e).size).size) hfe
      rw [List.take_append_of_le_length hc, List.append_assoc, List.take_append_of_le_length (by rw [← size_list]; exact Nat.le_refl _), List.take_of_length_le (l := (varT (editT e).size).data.toList) (by rw [← size_list]; exact Nat.le_refl _)] at h1
      refine ⟨u, s.drop (varT (editT e).size).size, ?_, rfl⟩
      rw [hp, ← h1, List.append_assoc, List.take_append_drop]
    have hv := rv_at (n := (editT e).size) (by omega) (by omega) hA
    rw [hv]
    dsimp only
    omega
theorem ends_all {p : ByteArray} : Ends p (p.size : Int) := .inl (rv_end p)
end Go.Tm

/- Disks: files in the order of their names, what is done to them, what is left of them, and what is recovered. -/
namespace Go.Tm
open Go Go.Abs
set_option linter.unusedVariables false
set_option linter.unusedSimpArgs false
def ltN (s t : ByteArray) : Bool := Op.bytesLess s.toList t.toList
def filB (l : List Fil) (i : Nat) (x : Fil) : Bool := inB x.name.size 1 8 && decide (x.text.size ≤ 20000) && inB x.kept 0 x.text.size && (decide (i = 0) || (match l[i - 1]? with | some y => ltN y.name x.name | none => true))
def diskB (l : List Fil) : Bool := decide (l.length ≤ 30) && (List.range l.length).all fun i => match l[i]? with | some x => filB l i x | none => true
def idxN (l : List Fil) (nm : ByteArray) : Int := idxF (fun x : Fil => decide (x.name = nm)) l 0
def fileN (l : List Fil) (nm : ByteArray) : Option Fil := l.find? fun x => decide (x.name = nm)
def textN (l : List Fil) (nm : ByteArray) : ByteArray := match fileN l nm with | some x => x.text | none => ⟨#[]⟩
theorem idxF_find {α : Type} (p : α → Bool) : ∀ (l : List α) (k : Nat), (idxF p l k = -1 ∧ l.find? p = none) ∨ ∃ (i : Nat) (x : α), l[i]? = some x ∧ idxF p l k = ((k + i : Nat) : Int) ∧ l.find? p = some x
  | [], k => .inl ⟨rfl, rfl⟩
  | y :: r, k => by
    rw [idxF, List.find?_cons]
    cases h : p y with
    | true => exact .inr ⟨0, y, rfl, by simp, rfl⟩
    | false =>
      simp only [Bool.false_eq_true, if_false]
      rcases idxF_find p r (k + 1) with ⟨h1, h2⟩ | ⟨i, x, h1, h2, h3⟩
      · exact .inl ⟨h1, h2⟩
      · exact .inr ⟨i + 1, x, by simpa using h1, by rw [h2]; congr 1; omega, h3⟩
theorem idxN_cases (l : List Fil) (nm : ByteArray) : (idxN l nm = -1 ∧ fileN l nm = none) ∨ ∃ (i : Nat) (x : Fil), l[i]? = some x ∧ idxN l nm = (i : Int) ∧ fileN l nm = some x := by
  rcases idxF_find (fun x : Fil => decide (x.name = nm)) l 0 with h | ⟨i, x, h1, h2, h3⟩
  · exact .inl h
  · exact .inr ⟨i, x, h1, by simpa [idxN] using h2, h3⟩
def putF (l : List Fil) (f : Fil) : List Fil := l.filter (fun x => ltN x.name f.name) ++ f :: l.filter (fun x => ltN f.name x.name)
def withoutF (l : List Fil) (nm : ByteArray) : List Fil := l.filter fun x => !decide (x.name = nm)
def chkD (l : List Fil) : List Fil × Bool := if diskB l = true then (l, true) else ([], false)
def doAct (l : List Fil) (a : Akt) : List Fil × Bool :=
  if diskB l = false ∨ inB a.name.size 1 8 = false ∨ (a.kind ≠ 3 ∧ a.to ≠ ⟨#[]⟩) ∨ (a.kind ≠ 1 ∧ a.text ≠ ⟨#[]⟩) then ([], false)
  else if a.kind = 1 then chkD (putF l (match fileN l a.name with | some f => { f with text := f.text ++ a.text } | none => ⟨a.name, ⟨#[]⟩ ++ a.text, 0⟩))
  else match fileN l a.name with
    | none => ([], false)
    | some f =>
      if a.kind = 2 then chkD (putF l { f with kept := f.text.size })
      else if a.kind = 3 then (if f.kept < f.text.size ∨ a.to = a.name ∨ inB a.to.size 1 8 = false then ([], false) else chkD (putF (withoutF l a.name) { f with name := a.to }))
      else if a.kind = 4 then chkD (withoutF l a.name)
      else ([], false)
def doActs : List Fil → List Akt → Nat → List Fil × Nat
  | l, [], i => (l, i)
  | l, a :: r, i => if (doAct l a).2 = true then doActs (doAct l a).1 r (i + 1) else (l, i)
def leftN (left : List Int) (i : Nat) (f : Fil) : Int :=
  let n := left[i]?.getD 0
  let n := if (f.text.size : Int) < n then (f.text.size : Int) else n
  if n < f.kept then f.kept else n
def loseF (left : List Int) (i : Nat) (f : Fil) : Fil := ⟨f.name, f.text.extract 0 (leftN left i f).toNat, leftN left i f⟩
def loseD (l : List Fil) (left : List Int) : List Fil × Bool := if diskB l = true then (l.mapIdx (loseF left), true) else ([], false)
def cutA (l : List Fil) (la : List Akt) (whole : Int) (left : List Int) : List Fil × Bool :=
  if inB whole 0 la.length = false then ([], false)
  else if ((doActs l (la.take whole.toNat) 0).2 : Int) < whole then ([], false)
  else loseD (doActs l (la.take whole.toNat) 0).1 left
def sLog : ByteArray := ⟨#[108, 111, 103]⟩
def sLogP : ByteArray := ⟨#[108, 111, 103, 43]⟩
def aktsOf (e : Edt) : List Akt := [⟨1, sLog, (frV (editT e)).1, ⟨#[]⟩⟩, ⟨2, sLog, ⟨#[]⟩, ⟨#[]⟩⟩]
def mendA (l : List Fil) : List Akt :=
  (if (fileN l sLogP).isSome = true then [⟨4, sLogP, ⟨#[]⟩, ⟨#[]⟩⟩] else []) ++
  (if (rlV (textN l sLog)).2 < ((textN l sLog).size : Int) then [⟨1, sLogP, (textN l sLog).extract 0 (rlV (textN l sLog)).2.toNat, ⟨#[]⟩⟩, ⟨2, sLogP, ⟨#[]⟩, ⟨#[]⟩⟩, ⟨3, sLogP, ⟨#[]⟩, sLog⟩] else [])
def recT (l : List Fil) : Tree × Int := if diskB l = true then applyAll newTr (rlV (textN l sLog)).1 1 else (⟨[], 0⟩, 0)
def recA (l : List Fil) : List Akt := if diskB l = true then mendA l else []
/-! ### The log's disk -/
/-- A disk with nothing but a log; or none yet. -/
def logD (s : ByteArray) (k : Int) : List Fil := [⟨sLog, s, k⟩]
theorem log_size : sLog.size = 3 := rfl
theorem logP_size : sLogP.size = 4 := rfl
theorem diskB_nil : diskB [] = true := rfl
theorem diskB_log {s : ByteArray} {k : Int} : diskB (logD s k) = (decide (s.size ≤ 20000) && inB k 0 s.size) := by
  have h : (List.range (logD s k).length).all (fun i => match (logD s k)[i]? with | some x => filB (logD s k) i x | none => true) = filB (logD s k) 0 ⟨sLog, s, k⟩ := by
    simp [logD, List.range_succ]
  unfold diskB
  rw [h]
  have h1 : inB (sLog.size : Int) 1 8 = true := rfl
  simp [filB, logD, h1]
theorem put_log (s s2 : ByteArray) (k k2 : Int) : putF (logD s k) ⟨sLog, s2, k2⟩ = logD s2 k2 := by
  have h : ltN sLog sLog = false := by decide +kernel
  simp [putF, logD, h]
theorem file_log (s : ByteArray) (k : Int) : fileN (logD s k) sLog = some ⟨sLog, s, k⟩ := by simp [fileN, logD]
theorem logP_ne : sLog ≠ sLogP := by decide +kernel
theorem file_logP (s : ByteArray) (k : Int) : fileN (logD s k) sLogP = none := by simp [fileN, logD, logP_ne]
theorem emp_app (s : ByteArray) : (⟨#[]⟩ : ByteArray) ++ s = s := by apply ba_ext; rw [app_list]; rfl
/-- A record's acts add its frame to the log. -/
theorem do_add {e : Edt} {l : List Fil} {s : ByteArray} {k : Int} (hl : l = logD s k ∨ (l = [] ∧ s = ⟨#[]⟩ ∧ k = 0)) (hk : k = s.size) (hs : s.size + (frV (editT e)).1.size ≤ 20000) :
    doAct l ⟨1, sLog, (frV (editT e)).1, ⟨#[]⟩⟩ = (logD (s ++ (frV (editT e)).1) k, true) := by
  have hd : diskB l = true := by
    rcases hl with rfl | ⟨rfl, _, _⟩
    · rw [diskB_log]; simp [inB]; omega
    · rfl
  have hn : diskB (logD (s ++ (frV (editT e)).1) k) = true := by
    rw [diskB_log]; simp [inB]; omega
  unfold doAct
  rw [if_neg (by simp [hd, inB, log_size]), if_pos rfl]
  rcases hl with rfl | ⟨rfl, rfl, rfl⟩
  · rw [file_log]
    dsimp only
    rw [put_log, chkD, if_pos hn]
  · have : fileN [] sLog = none := rfl
    rw [this]
    dsimp only
    have h2 : putF [] ⟨sLog, ⟨#[]⟩ ++ (frV (editT e)).1, 0⟩ = logD (⟨#[]⟩ ++ (frV (editT e)).1) 0 := rfl
    rw [h2, chkD, if_pos hn]
theorem do_keep {s : ByteArray} {k : Int} (hk : 0 ≤ k ∧ k ≤ s.size) (hs : s.size ≤ 20000) : doAct (logD s k) ⟨2, sLog, ⟨#[]⟩, ⟨#[]⟩⟩ = (logD s s.size, true) := by
  have hd : diskB (logD s k) = true := by rw [diskB_log]; simp [inB]; omega
  have hn : diskB (logD s s.size) = true := by rw [diskB_log]; simp [inB]; omega
  unfold doAct
  rw [if_neg (by simp [hd, inB, log_size]), if_neg (by decide), file_log]
  dsimp only
  rw [if_pos rfl, put_log, chkD, if_pos hn]
theorem do_record {e : Edt} {l : List Fil} {s : ByteArray} {k : Int} (hl : l = logD s k ∨ (l = [] ∧ s = ⟨#[]⟩ ∧ k = 0)) (hk : k = s.size) (hs : s.size + (frV (editT e)).1.size ≤ 20000) :
    doActs l (aktsOf e) 0 = (logD (s ++ (frV (editT e)).1) ((s ++ (frV (editT e)).1).size : Int), 2) := by
  have h1 := do_add (e := e) hl hk hs
  have h2 := do_keep (s := s ++ (frV (editT e)).1) (k := k) (by rw [ByteArray.size_append]; omega) (by rw [ByteArray.size_append]; omega)
  unfold aktsOf
  rw [doActs, h1, if_pos rfl, doActs, h2, if_pos rfl, doActs]
/-! ### What the power leaves; what mends -/
theorem loseD_log {s : ByteArray} {k : Int} {left : List Int} (hk : 0 ≤ k ∧ k ≤ s.size) (hs : s.size ≤ 20000) : ∃ n : Nat, k ≤ n ∧ n ≤ s.size ∧ loseD (logD s k) left = (logD (s.extract 0 n) n, true) := by
  have hd : diskB (logD s k) = true := by rw [diskB_log]; simp [inB]; omega
  have hl : k ≤ leftN left 0 ⟨sLog, s, k⟩ ∧ leftN left 0 ⟨sLog, s, k⟩ ≤ s.size := by
    unfold leftN
    dsimp only
    split <;> split <;> omega
  refine ⟨(leftN left 0 ⟨sLog, s, k⟩).toNat, by omega, by omega, ?_⟩
  unfold loseD
  rw [if_pos hd]
  have e : (logD s k).mapIdx (loseF left) = [loseF left 0 ⟨sLog, s, k⟩] := rfl
  rw [e, loseF]
  have e2 : ((leftN left 0 ⟨sLog, s, k⟩).toNat : Int) = leftN left 0 ⟨sLog, s, k⟩ := by omega
  unfold logD
  rw [e2]
theorem loseD_nil {left : List Int} : loseD [] left = ([], true) := rfl
theorem log_lt : ltN sLog sLogP = true ∧ ltN sLogP sLog = false ∧ ltN sLog sLog = false ∧ ltN sLogP sLogP = false := by
  unfold ltN
  simp only [ByteArray.toList_eq, Go.Proofs.bytesLess_eq]
  decide
def twoD (q s : ByteArray) (k m : Int) : List Fil := [⟨sLog, q, k⟩, ⟨sLogP, s, m⟩]
theorem diskB_two {q s : ByteArray} {k m : Int} (hk : 0 ≤ k ∧ k ≤ q.size) (hq : q.size ≤ 20000) (hm : 0 ≤ m ∧ m ≤ s.size) (hs : s.size ≤ 20000) : diskB (twoD q s k m) = true := by
  obtain ⟨h1, h2, h3, h4⟩ := log_lt
  unfold diskB
  have e : List.range (twoD q s k m).length = [0, 1] := rfl
  rw [e]
  simp only [List.all_cons, List.all_nil, Bool.and_true, Bool.and_eq_true, decide_eq_true_eq]
  refine ⟨by simp [twoD], ?_, ?_⟩
  · simp [twoD, filB, inB, log_size]; omega
  · simp [twoD, filB, inB, logP_size, h1]; omega
/-- What mends a log with something behind it. -/
theorem mend_do {q : ByteArray} {k : Int} {s : ByteArray} (hk : 0 ≤ k ∧ k ≤ q.size) (hq : q.size ≤ 20000) (hs : s.size ≤ 20000) :
    doActs (logD q k) [⟨1, sLogP, s, ⟨#[]⟩⟩, ⟨2, sLogP, ⟨#[]⟩, ⟨#[]⟩⟩, ⟨3, sLogP, ⟨#[]⟩, sLog⟩] 0 = (logD s s.size, 3) := by
  obtain ⟨h1, h2, h3, h4⟩ := log_lt
  have hne := logP_ne
  have hd : diskB (logD q k) = true := by rw [diskB_log]; simp [inB]; omega
  have hd2 := diskB_two (q := q) (s := s) (k := k) (m := 0) hk hq (by omega) hs
  have hd3 := diskB_two (q := q) (s := s) (k := k) (m := s.size) hk hq (by omega) hs
  have hd4 : diskB (logD s s.size) = true := by rw [diskB_log]; simp [inB]; omega
  have a1 : doAct (logD q k) ⟨1, sLogP, s, ⟨#[]⟩⟩ = (twoD q s k 0, true) := by
    unfold doAct
    rw [if_neg (by simp [hd, inB, logP_size]), if_pos rfl, file_logP]
    dsimp only
    rw [emp_app]
    have : putF (logD q k) ⟨sLogP, s, 0⟩ = twoD q s k 0 := by simp [putF, logD, twoD, h1, h2]
    rw [this, chkD, if_pos hd2]
  have f2 : ∀ m, fileN (twoD q s k m) sLogP = some ⟨sLogP, s, m⟩ := fun m => by simp [fileN, twoD, hne]
  have a2 : doAct (twoD q s k 0) ⟨2, sLogP, ⟨#[]⟩, ⟨#[]⟩⟩ = (twoD q s k s.size, true) := by
    unfold doAct
    rw [if_neg (by simp [hd2, inB, logP_size]), if_neg (by decide), f2]
    dsimp only
    rw [if_pos rfl]
    have : putF (twoD q s k 0) ⟨sLogP, s, (s.size : Int)⟩ = twoD q s k s.size := by simp [putF, twoD, h1, h2, h4]
    rw [this, chkD, if_pos hd3]
  have a3 : doAct (twoD q s k s.size) ⟨3, sLogP, ⟨#[]⟩, sLog⟩ = (logD s s.size, true) := by
    unfold doAct
    rw [if_neg (by simp [hd3, inB, logP_size]), if_neg (by decide), f2]
    dsimp only
    rw [if_neg (by decide), if_pos rfl, if_neg (by simp [hne, inB, log_size])]
    have : putF (withoutF (twoD q s k s.size) sLogP) ⟨sLog, s, (s.size : Int)⟩ = logD s s.size := by simp [withoutF, putF, twoD, logD, h3, hne]
    rw [this, chkD, if_pos hd4]
  rw [doActs, a1, if_pos rfl, doActs, a2, if_pos rfl, doActs, a3, if_pos rfl, doActs]
/-- A log of records and something behind them that is none: what is recovered, and what mends. -/
theorem rec_log {q : ByteArray} {k : Int} {l : List Edt} {v : List UInt8} (he : ∀ e ∈ l, editB e = true) (hp : q.data.toList = logB l ++ v) (hq : q.size ≤ 20000) (hE : Ends q ((logB l).length : Int)) (hk : 0 ≤ k ∧ k ≤ q.size) :
    recT (logD q k) = applyAll newTr l 1 ∧ recA (logD q k) = if v = [] then [] else [⟨1, sLogP, q.extract 0 (logB l).length, ⟨#[]⟩⟩, ⟨2, sLogP, ⟨#[]⟩, ⟨#[]⟩⟩, ⟨3, sLogP, ⟨#[]⟩, sLog⟩] := by
  have hd : diskB (logD q k) = true := by rw [diskB_log]; simp [inB]; omega
  have ht : textN (logD q k) sLog = q := by unfold textN; rw [file_log]
  have hr := rl_log he hp hq hE
  have hsz : q.size = (logB l).length + v.length := by rw [size_list, hp]; simp
  unfold recT recA mendA
  rw [if_pos hd, if_pos hd, ht, hr, file_logP]
  refine ⟨rfl, ?_⟩
  dsimp only
  by_cases c : v = []
  · subst c
    rw [if_neg (by simp), if_neg (by simp at hsz; omega), if_pos rfl]; rfl
  · have : 0 < v.length := List.length_pos_iff.2 c
    rw [if_neg (by simp), if_pos (by omega), if_neg c]; rfl
theorem ext_log {q : ByteArray} {l : List Edt} {v : List UInt8} (hp : q.data.toList = logB l ++ v) : (q.extract 0 (logB l).length).data.toList = logB l := by
  rw [ext_list, hp]; simp
theorem rec_nil : recT [] = (newTr, 1) ∧ recA [] = [] := by
  have h : rlV ⟨#[]⟩ = ([], 0) := by
    have := rl_log (p := ⟨#[]⟩) (l := []) (v := []) (by simp) rfl (by decide) (by
      have := ends_all (p := ⟨#[]⟩)
      exact this)
    exact this
  have ht : textN [] sLog = ⟨#[]⟩ := rfl
  have hf : fileN [] sLogP = none := rfl
  unfold recT recA mendA
  rw [if_pos diskB_nil, if_pos diskB_nil, ht, h, hf]
  exact ⟨rfl, rfl⟩
end Go.Tm

/- Logs of drawn records: written, read, cut by the power, mended. -/
namespace Go.Tm
open Go Go.Abs
set_option linter.unusedVariables false
set_option linter.unusedSimpArgs false
/-- The file of some records. -/
def logT (l : List Edt) : ByteArray := l.foldl (fun s e => s ++ (frV (editT e)).1) ⟨#[]⟩
theorem logT_snoc (l : List Edt) (e : Edt) : logT (l ++ [e]) = logT l ++ (frV (editT e)).1 := by simp [logT]
theorem logB_snoc (l : List Edt) (e : Edt) : logB (l ++ [e]) = logB l ++ frT e := by simp [logB]
theorem logT_list (l : List Edt) : (logT l).data.toList = logB l := by
  have key : ∀ (l : List Edt) (s : ByteArray), (l.foldl (fun s e => s ++ (frV (editT e)).1) s).data.toList = s.data.toList ++ logB l := by
    intro l
    induction l with
    | nil => intro s; simp [logB]
    | cons e l ih => intro s; rw [List.foldl_cons, ih, app_list]; simp [logB, frT]
  have := key l ⟨#[]⟩
  simpa [logT] using this
theorem logT_size (l : List Edt) : (logT l).size = (logB l).length := by rw [size_list, logT_list]
def logDisk (l : List Edt) : List Fil := if l = [] then [] else logD (logT l) (logT l).size
def AllE (l : List Edt) : Prop := (∀ e ∈ l, editB e = true) ∧ l.length ≤ 14
theorem AllE.size {l : List Edt} (h : AllE l) : (logT l).size ≤ 1596 := by
  have := (logB_len h.1).2
  have := h.2
  rw [logT_size]; omega
theorem disk_or (l : List Edt) : logDisk l = logD (logT l) (logT l).size ∨ (logDisk l = [] ∧ logT l = ⟨#[]⟩ ∧ ((logT l).size : Int) = 0) := by
  unfold logDisk
  by_cases h : l = []
  · subst h; exact .inr ⟨rfl, rfl, rfl⟩
  · rw [if_neg h]; exact .inl rfl
theorem fr_len {e : Edt} (h : editB e = true) : (frV (editT e)).1.size ≤ 114 := by
  have := (frT_len h).2
  unfold frT at this
  rw [size_list]; exact this
theorem disk_step {l : List Edt} {e : Edt} (hl : AllE l) (he : editB e = true) : doActs (logDisk l) (aktsOf e) 0 = (logDisk (l ++ [e]), 2) := by
  have hs := hl.size
  have hf := fr_len he
  have h1 := do_record (e := e) (l := logDisk l) (s := logT l) (k := (logT l).size) (disk_or l) rfl (by omega)
  rw [h1, ← logT_snoc]
  unfold logDisk
  rw [if_neg (by simp)]
/-- One byte that is no record. -/
theorem ends_x {p : ByteArray} {u : List UInt8} (hp : p.data.toList = u ++ [120]) : Ends p (u.length : Int) := by
  have hA : At p u.length (varT 120).data.toList := ⟨u, [], by rw [hp, show (varT 120).data.toList = [120] from rfl, List.append_nil], rfl⟩
  have hv := rv_at (n := 120) (by omega) (by omega) hA
  have hz : p.size = u.length + 1 := by rw [size_list, hp]; simp
  have h1 : (varT 120).size = 1 := rfl
  right
  rw [hv]
  dsimp only
  omega
theorem read_x {l : List Edt} (h : AllE l) : rlV (logT l ++ ⟨#[120]⟩) = (l, ((logT l).size : Int)) := by
  have hs := h.size
  have hp : (logT l ++ ⟨#[120]⟩).data.toList = logB l ++ [120] := by rw [app_list, logT_list]
  rw [rl_log h.1 hp (by rw [ByteArray.size_append]; have : (⟨#[120]⟩ : ByteArray).size = 1 := rfl; omega) (ends_x hp), logT_size]
theorem disk_ok {l : List Edt} (h : AllE l) : diskB (logDisk l) = true := by
  have hs := h.size
  rcases disk_or l with e | ⟨e, _⟩
  · rw [e, diskB_log]; simp [inB]; omega
  · rw [e]; rfl
theorem rec_disk {l : List Edt} (h : AllE l) : recT (logDisk l) = applyAll newTr l 1 ∧ recA (logDisk l) = [] := by
  have hs := h.size
  by_cases h0 : l = []
  · subst h0
    exact rec_nil
  · unfold logDisk
    rw [if_neg h0]
    have := rec_log (q := logT l) (k := (logT l).size) (v := []) h.1 (by rw [logT_list]; simp) (by omega) (by rw [← logT_size]; exact ends_all) (by omega)
    simpa using this
/-- A log with a part of a frame behind it. -/
theorem rec_part {l : List Edt} {e : Edt} (h : AllE l) (he : editB e = true) {q : ByteArray} {v w : List UInt8} (hq : q.data.toList = logB l ++ v) (hv : frT e = v ++ w) (hk : True) :
    diskB (logD q q.size) = true ∧ (recT (logD q q.size) = applyAll newTr l 1 ∨ recT (logD q q.size) = applyAll newTr (l ++ [e]) 1) ∧
    ∃ f, doActs (logD q q.size) (recA (logD q q.size)) 0 = (f, (recA (logD q q.size)).length) ∧ diskB f = true ∧ recT f = recT (logD q q.size) ∧ recA f = [] := by
  have hs := h.size
  rw [logT_size] at hs
  have hfl := (frT_len he).2
  have hz : q.size = (logB l).length + v.length := by rw [size_list, hq]; simp
  have hvl : v.length + w.length = (frT e).length := by rw [hv]; simp
  have hd : diskB (logD q q.size) = true := by rw [diskB_log]; simp [inB]; omega
  refine ⟨hd, ?_⟩
  by_cases hw : w = []
  · subst hw
    rw [List.append_nil] at hv
    have hq2 : q.data.toList = logB (l ++ [e]) ++ [] := by rw [hq, logB_snoc, hv]; simp
    have hE : ∀ x ∈ l ++ [e], editB x = true := fun x hx => by
      rcases List.mem_append.1 hx with hx | hx
      · exact h.1 x hx
      · simp at hx; rw [hx]; exact he
    have hlen : ((logB (l ++ [e])).length : Int) = q.size := by rw [size_list, hq2]; simp
    obtain ⟨r1, r2⟩ := rec_log (q := q) (k := q.size) hE hq2 (by omega) (by rw [hlen]; exact ends_all) (by omega)
    rw [if_pos rfl] at r2
    refine ⟨.inr r1, logD q q.size, ?_, hd, rfl, r2⟩
    rw [r2]; rfl
  · have hEnd : Ends q ((logB l).length : Int) := by
      by_cases hv0 : v = []
      · subst hv0
        have : ((logB l).length : Int) = q.size := by rw [hz]; simp
        rw [this]; exact ends_all
      · exact torn he hq ⟨w, hw, hv⟩
    obtain ⟨r1, r2⟩ := rec_log (q := q) (k := q.size) h.1 hq (by omega) hEnd (by omega)
    refine ⟨.inl r1, ?_⟩
    by_cases hv0 : v = []
    · rw [if_pos hv0] at r2
      refine ⟨logD q q.size, ?_, hd, rfl, r2⟩
      rw [r2]; rfl
    · rw [if_neg hv0] at r2
      have hx := ext_log hq
      generalize q.extract 0 (logB l).length = s at r2 hx
      have hsz : s.size = (logB l).length := by rw [size_list, hx]
      have hm := mend_do (q := q) (k := q.size) (s := s) (by omega) (by omega) (by omega)
      obtain ⟨u1, u2⟩ := rec_log (q := s) (k := s.size) (v := []) h.1 (by rw [hx]; simp) (by omega) (by rw [← hsz]; exact ends_all) (by omega)
      rw [if_pos rfl] at u2
      refine ⟨logD s s.size, ?_, by rw [diskB_log]; simp [inB]; omega, by rw [u1, r1], u2⟩
      rw [r2, hm]; rfl
theorem cut_law {l : List Edt} {e : Edt} (h : AllE l) (he : editB e = true) {whole : Int} (hw : 0 ≤ whole ∧ whole ≤ 2) (left : List Int) :
    ∃ c, cutA (logDisk l) (aktsOf e) whole left = (c, true) ∧ diskB c = true ∧ (recT c = applyAll newTr l 1 ∨ recT c = applyAll newTr (l ++ [e]) 1) ∧
    ∃ f, doActs c (recA c) 0 = (f, (recA c).length) ∧ diskB f = true ∧ recT f = recT c ∧ recA f = [] := by
  have hs := h.size
  have hf := fr_len he
  have hin : inB whole 0 (aktsOf e).length = true := inB_iff.2 (by simp [aktsOf]; omega)
  have hfr : (frV (editT e)).1.data.toList = frT e := rfl
  have hcat : (logT l ++ (frV (editT e)).1).data.toList = logB l ++ frT e := by rw [app_list, logT_list, hfr]
  rcases (by omega : whole = 0 ∨ whole = 1 ∨ whole = 2) with rfl | rfl | rfl
  · have ed : doActs (logDisk l) ((aktsOf e).take (0 : Int).toNat) 0 = (logDisk l, 0) := rfl
    unfold cutA
    rw [if_neg (by rw [hin]; decide), ed, if_neg (by dsimp only; omega)]
    dsimp only
    rcases disk_or l with e1 | ⟨e1, e2, _⟩
    · rw [e1]
      obtain ⟨n, n1, n2, n3⟩ := loseD_log (s := logT l) (k := (logT l).size) (left := left) (by omega) (by omega)
      obtain rfl : n = (logT l).size := by omega
      rw [n3, ByteArray.extract_zero_size]
      exact ⟨_, rfl, rec_part h he (v := []) (w := frT e) (by rw [logT_list]; simp) rfl trivial⟩
    · rw [e1]
      obtain ⟨r1, r2⟩ := rec_disk h
      rw [e1] at r1 r2
      refine ⟨[], rfl, rfl, .inl r1, [], ?_, rfl, rfl, r2⟩
      rw [r2]; rfl
  · have ea := do_add (e := e) (l := logDisk l) (s := logT l) (k := (logT l).size) (disk_or l) rfl (by omega)
    have ed : doActs (logDisk l) ((aktsOf e).take (1 : Int).toNat) 0 = (logD (logT l ++ (frV (editT e)).1) (logT l).size, 1) := by
      show doActs (logDisk l) [⟨1, sLog, (frV (editT e)).1, ⟨#[]⟩⟩] 0 = _
      rw [doActs, ea, if_pos rfl, doActs]
    unfold cutA
    rw [if_neg (by rw [hin]; decide), ed, if_neg (by dsimp only; omega)]
    dsimp only
    obtain ⟨n, n1, n2, n3⟩ := loseD_log (s := logT l ++ (frV (editT e)).1) (k := (logT l).size) (left := left) (by rw [ByteArray.size_append]; omega) (by rw [ByteArray.size_append]; omega)
    rw [n3]
    have hn1 : (logB l).length ≤ n := by rw [← logT_size]; omega
    have hx : ((logT l ++ (frV (editT e)).1).extract 0 n).data.toList = logB l ++ (frT e).take (n - (logB l).length) := by
      rw [ext_list, hcat, List.drop_zero, List.take_append, List.take_of_length_le hn1]
    have hz : (((logT l ++ (frV (editT e)).1).extract 0 n).size : Int) = n := by rw [ByteArray.size_extract]; omega
    generalize (logT l ++ (frV (editT e)).1).extract 0 n = q at hx hz
    rw [← hz]
    exact ⟨_, rfl, rec_part h he hx (List.take_append_drop _ _).symm trivial⟩
  · have ed : doActs (logDisk l) ((aktsOf e).take (2 : Int).toNat) 0 = (logDisk (l ++ [e]), 2) := disk_step h he
    unfold cutA
    rw [if_neg (by rw [hin]; decide), ed, if_neg (by dsimp only; omega)]
    dsimp only
    have e1 : logDisk (l ++ [e]) = logD (logT (l ++ [e])) (logT (l ++ [e])).size := by unfold logDisk; rw [if_neg (by simp)]
    have hz2 : (logT (l ++ [e])).size ≤ 20000 := by rw [logT_snoc, ByteArray.size_append]; omega
    rw [e1]
    obtain ⟨n, n1, n2, n3⟩ := loseD_log (s := logT (l ++ [e])) (k := (logT (l ++ [e])).size) (left := left) (by omega) hz2
    obtain rfl : n = (logT (l ++ [e])).size := by omega
    rw [n3, ByteArray.extract_zero_size]
    exact ⟨_, rfl, rec_part h he (v := frT e) (w := []) (by rw [logT_list, logB_snoc]) (by simp) trivial⟩
end Go.Tm

