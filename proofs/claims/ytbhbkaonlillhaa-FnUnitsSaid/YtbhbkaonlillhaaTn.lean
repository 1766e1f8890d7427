/- Plain facts on trees, marks and lists, part 2. -/
import Derived.Test.YtbhbkaonlillhaaTm
/- Units of a host: what is right, where a unit is, put, dropped, spoilt; a sum tells one turned bit. No program in it. -/
namespace Go.Tm
open Go Go.Abs
set_option linter.unusedVariables false
set_option linter.unusedSimpArgs false
theorem bytesText_list (ns : List Int) : (bytesText ns).data.toList = ns.map fun n => UInt8.ofNat n.toNat := by
  have key : ∀ (ns : List Int) (r : ByteArray), (ns.foldl (fun r n => r.push (UInt8.ofNat n.toNat)) r).data.toList = r.data.toList ++ ns.map fun n => UInt8.ofNat n.toNat := by
    intro ns
    induction ns with
    | nil => intro r; simp
    | cons n ns ih =>
      intro r
      rw [List.foldl_cons, ih]
      have : (r.push (UInt8.ofNat n.toNat)).data = r.data.push (UInt8.ofNat n.toNat) := rfl
      rw [this, Array.toList_push]
      simp
  have := key ns ByteArray.empty
  unfold bytesText
  rw [this]
  rfl
theorem byteAt_range (p : ByteArray) (i : Int) : 0 ≤ byteAt p i ∧ byteAt p i ≤ 255 := by
  unfold byteAt
  have := (p.data.getD i.toNat 0).toNat_lt
  omega
def sumH (s : Int) : Int := if s.tmod 2 = 1 then xorI .u32 (s.tdiv 2) 3558460437 else s.tdiv 2
def sumR : Nat → Int → Int
  | 0, s => s
  | n + 1, s => sumR n (sumH s)
def sumF (t : ByteArray) : Nat → Int → Int → Int
  | 0, _, s => s
  | n + 1, i, s => sumF t n (i + 1) (sumR 8 (xorI .u32 s (byteAt t i)))
def sumV (t : ByteArray) : Int := sumF t t.size 0 4294967295
theorem idxF_find {α : Type} (p : α → Bool) : ∀ (l : List α) (k : Nat), (idxF p l k = -1 ∧ l.find? p = none) ∨ ∃ (i : Nat) (x : α), l[i]? = some x ∧ idxF p l k = ((k + i : Nat) : Int) ∧ l.find? p = some x
  | [], k => .inl ⟨rfl, rfl⟩
  | y :: r, k => by
    rw [idxF, List.find?_cons]
    cases h : p y with
    | true => exact .inr ⟨0, y, rfl, by simp, rfl⟩
    | false =>
      simp only [Bool.false_eq_true, if_false]
      rcases idxF_find p r (k + 1) with ⟨h1, h2⟩ | ⟨i, x, h1, h2, h3⟩
      · exact .inl ⟨h1, h2⟩
      · exact .inr ⟨i + 1, x, by simpa using h1, by rw [h2]; congr 1; omega, h3⟩
structure Un where
  group : Int
  index : Int
  text : ByteArray
  sum : Int
structure Hst where
  id : Int
  up : Bool
  units : List Un
noncomputable instance : DecidableEq Un := fun _ _ => Classical.propDecidable _
noncomputable instance : DecidableEq Hst := fun _ _ => Classical.propDecidable _
def lessU (a b : Un) : Bool := decide (a.group < b.group ∨ (a.group = b.group ∧ a.index < b.index))
def keyU (g i : Int) (x : Un) : Bool := decide (x.group = g ∧ x.index = i)
def unB (u : Un) : Bool := inB u.group 1 100000 && inB u.index 0 5 && decide (u.text.size ≤ 200) && inB u.sum 0 4294967295
def okU : Option Un → List Un → Bool
  | _, [] => true
  | p, u :: r => unB u && (match p with | none => true | some q => lessU q u) && okU (some u) r
def okHst (h : Hst) : Bool := okU none h.units && inB h.id 1 7
def atU (l : List Un) (g i : Int) : Int := idxF (keyU g i) l 0
def putU (l : List Un) (u : Un) : List Un := l.filter (fun x => lessU x u) ++ u :: l.filter (fun x => lessU u x)
def insU (l : List Un) (u : Un) : List Un :=
  if 0 ≤ atU l u.group u.index then l.set (atU l u.group u.index).toNat u
  else if 0 ≤ idxF (lessU u) l 0 then l.take (idxF (lessU u) l 0).toNat ++ u :: l.drop (idxF (lessU u) l 0).toNat
  else l ++ [u]
def sumd (u : Un) : Un := { u with sum := sumV u.text }
def putHst (h : Hst) (u : Un) : Hst × Bool :=
  if okHst h = true ∧ h.up = true ∧ okHst { h with units := putU h.units (sumd u) } = true then ({ h with units := putU h.units (sumd u) }, true) else (h, false)
theorem lessU_trans {a b c : Un} (h : lessU a b = true) (k : lessU b c = true) : lessU a c = true := by
  simp only [lessU, decide_eq_true_eq] at h k ⊢; omega
theorem lessU_irr {a b : Un} (h : lessU a b = true) : lessU b a = false := by
  rw [← Bool.not_eq_true]
  intro k
  simp only [lessU, decide_eq_true_eq] at h k; omega
theorem okU_some : ∀ (l : List Un) (q : Un), okU (some q) l = true ↔ (∀ u ∈ l, unB u = true) ∧ (q :: l).Pairwise (fun a b => lessU a b = true)
  | [], q => by simp [okU]
  | u :: r, q => by
    have ih := okU_some r u
    simp only [okU, Bool.and_eq_true, ih, List.pairwise_cons, List.mem_cons, forall_eq_or_imp]
    constructor
    · rintro ⟨⟨h1, h2⟩, h3, h4, h5⟩
      exact ⟨⟨h1, h3⟩, ⟨h2, fun x hx => lessU_trans h2 (h4 x hx)⟩, h4, h5⟩
    · rintro ⟨⟨h1, h3⟩, ⟨h2, h6⟩, h4, h5⟩
      exact ⟨⟨h1, h2⟩, h3, h4, h5⟩
theorem okU_none (l : List Un) : okU none l = true ↔ (∀ u ∈ l, unB u = true) ∧ l.Pairwise (fun a b => lessU a b = true) := by
  cases l with
  | nil => simp [okU]
  | cons u r =>
    simp only [okU, Bool.and_eq_true, okU_some, List.pairwise_cons, List.mem_cons, forall_eq_or_imp]
    constructor
    · rintro ⟨⟨h1, _⟩, h3, h4, h5⟩
      exact ⟨⟨h1, h3⟩, h4, h5⟩
    · rintro ⟨⟨h1, h3⟩, h4, h5⟩
      exact ⟨⟨h1, trivial⟩, h3, h4, h5⟩
/-- A row in order, parted at a unit. -/
theorem part_u (u : Un) : ∀ (l : List Un), l.Pairwise (fun a b => lessU a b = true) → ∃ A M B : List Un, l = A ++ M ++ B ∧ (∀ x ∈ A, lessU x u = true) ∧ (∀ x ∈ M, keyU u.group u.index x = true) ∧ M.length ≤ 1 ∧ ∀ x ∈ B, lessU u x = true
  | [], _ => ⟨[], [], [], rfl, by simp, by simp, by simp, by simp⟩
  | y :: r, h => by
    obtain ⟨h1, h2⟩ := List.pairwise_cons.1 h
    by_cases c1 : lessU y u = true
    · obtain ⟨A, M, B, rfl, hA, hM, hl, hB⟩ := part_u u r h2
      refine ⟨y :: A, M, B, rfl, fun x hx => ?_, hM, hl, hB⟩
      rcases List.mem_cons.1 hx with rfl | hx
      · exact c1
      · exact hA x hx
    · by_cases c2 : lessU u y = true
      · refine ⟨[], [], y :: r, rfl, by simp, by simp, by simp, fun x hx => ?_⟩
        rcases List.mem_cons.1 hx with rfl | hx
        · exact c2
        · exact lessU_trans c2 (h1 x hx)
      · have hk : keyU u.group u.index y = true := by
          simp only [lessU, keyU, decide_eq_true_eq] at c1 c2 ⊢; omega
        refine ⟨[], [y], r, rfl, by simp, by simpa using hk, by simp, fun x hx => ?_⟩
        have h3 := h1 x hx
        simp only [lessU, keyU, decide_eq_true_eq] at hk h3 ⊢; omega
theorem less_nkey {u x : Un} (h : lessU x u = true) : keyU u.group u.index x = false := by
  rw [← Bool.not_eq_true]; intro k
  simp only [lessU, keyU, decide_eq_true_eq] at h k; omega
theorem less_nkey' {u x : Un} (h : lessU u x = true) : keyU u.group u.index x = false := by
  rw [← Bool.not_eq_true]; intro k
  simp only [lessU, keyU, decide_eq_true_eq] at h k; omega
theorem key_nless {u x : Un} (h : keyU u.group u.index x = true) : lessU x u = false ∧ lessU u x = false := by
  constructor <;> (rw [← Bool.not_eq_true]; intro k; simp only [lessU, keyU, decide_eq_true_eq] at h k; omega)
theorem filter_none {α : Type} {p : α → Bool} {l : List α} (h : ∀ x ∈ l, p x = false) : l.filter p = [] := List.filter_eq_nil_iff.2 fun x hx => by simp [h x hx]
theorem filter_all {α : Type} {p : α → Bool} {l : List α} (h : ∀ x ∈ l, p x = true) : l.filter p = l := List.filter_eq_self.2 h
theorem put_parts {u : Un} {A M B : List Un} (hA : ∀ x ∈ A, lessU x u = true) (hM : ∀ x ∈ M, keyU u.group u.index x = true) (hB : ∀ x ∈ B, lessU u x = true) : putU (A ++ M ++ B) u = A ++ u :: B := by
  unfold putU
  simp only [List.filter_append]
  rw [filter_all hA, filter_none (l := M) (p := fun x => lessU x u) (fun x hx => (key_nless (hM x hx)).1), filter_none (l := B) (p := fun x => lessU x u) (fun x hx => lessU_irr (hB x hx)),
    filter_none (l := A) (p := fun x => lessU u x) (fun x hx => lessU_irr (hA x hx)), filter_none (l := M) (p := fun x => lessU u x) (fun x hx => (key_nless (hM x hx)).2), filter_all hB]
  simp
theorem idxF_app {α : Type} (p : α → Bool) : ∀ (a b : List α) (k : Nat), (∀ x ∈ a, p x = false) → idxF p (a ++ b) k = idxF p b (k + a.length)
  | [], b, k, _ => by simp
  | x :: a, b, k, h => by
    rw [List.cons_append, idxF, h x (by simp), if_neg (by simp), idxF_app p a b (k + 1) fun y hy => h y (by simp [hy])]
    congr 1
    simp; omega
theorem idxF_none {α : Type} (p : α → Bool) : ∀ (l : List α) (k : Nat), (∀ x ∈ l, p x = false) → idxF p l k = -1
  | [], k, _ => rfl
  | x :: l, k, h => by rw [idxF, h x (by simp), if_neg (by simp), idxF_none p l (k + 1) fun y hy => h y (by simp [hy])]
/-- Where the program puts a unit, in a row in order, is where the reference puts it. -/
theorem ins_put {l : List Un} (u : Un) (h : l.Pairwise (fun a b => lessU a b = true)) : insU l u = putU l u := by
  obtain ⟨A, M, B, rfl, hA, hM, hl, hB⟩ := part_u u l h
  rw [put_parts hA hM hB]
  have k1 : atU (A ++ M ++ B) u.group u.index = idxF (keyU u.group u.index) (M ++ B) A.length := by
    unfold atU
    rw [List.append_assoc, idxF_app _ A _ 0 fun x hx => less_nkey (hA x hx), Nat.zero_add]
  match M, hM, hl with
  | [], hM, hl =>
    have k2 : atU (A ++ [] ++ B) u.group u.index = -1 := by rw [k1]; exact idxF_none _ _ _ fun x hx => less_nkey' (hB x hx)
    have k3 : idxF (lessU u) (A ++ [] ++ B) 0 = idxF (lessU u) B A.length := by
      rw [List.append_nil, idxF_app _ A B 0 fun x hx => lessU_irr (hA x hx), Nat.zero_add]
    unfold insU
    rw [k2, if_neg (by omega), k3]
    cases B with
    | nil => simp [idxF]
    | cons b B =>
      rw [idxF, if_pos (hB b (by simp)), if_pos (by omega)]
      simp
  | [y], hM, hl =>
    have hy := hM y (by simp)
    have k2 : atU (A ++ [y] ++ B) u.group u.index = (A.length : Int) := by rw [k1, List.singleton_append, idxF, if_pos hy]
    unfold insU
    rw [k2, if_pos (by omega)]
    simp
  | y :: z :: M, hM, hl => simp at hl
theorem put_len {l : List Un} (u : Un) (h : l.Pairwise (fun a b => lessU a b = true)) : l.length ≤ (putU l u).length ∧ (putU l u).length ≤ l.length + 1 := by
  obtain ⟨A, M, B, rfl, hA, hM, hl, hB⟩ := part_u u l h
  rw [put_parts hA hM hB]
  simp; omega
theorem put_sorted {l : List Un} (u : Un) (h : l.Pairwise (fun a b => lessU a b = true)) : (putU l u).Pairwise (fun a b => lessU a b = true) := by
  obtain ⟨A, M, B, rfl, hA, hM, hl, hB⟩ := part_u u l h
  rw [put_parts hA hM hB]
  have hA' := (List.pairwise_append.1 (List.pairwise_append.1 h).1).1
  have hB' := (List.pairwise_append.1 h).2.1
  refine List.pairwise_append.2 ⟨hA', List.pairwise_cons.2 ⟨hB, hB'⟩, fun a ha b hb => ?_⟩
  rcases List.mem_cons.1 hb with rfl | hb
  · exact hA a ha
  · exact lessU_trans (hA a ha) (hB b hb)
theorem mem_put {l : List Un} {u x : Un} (h : x ∈ putU l u) : x = u ∨ x ∈ l := by
  unfold putU at h
  rcases List.mem_append.1 h with h | h
  · exact .inr (List.mem_filter.1 h).1
  · rcases List.mem_cons.1 h with rfl | h
    · exact .inl rfl
    · exact .inr (List.mem_filter.1 h).1
/-- A row in order: right, when a right unit is put to it. -/
theorem put_ok {l : List Un} {u : Un} (h : okU none l = true) (hu : unB u = true) : okU none (putU l u) = true := by
  rw [okU_none] at h ⊢
  refine ⟨fun x hx => ?_, put_sorted u h.2⟩
  rcases mem_put hx with rfl | hx
  · exact hu
  · exact h.1 x hx
/-! ### A unit that is got -/
def findU (l : List Un) (g i : Int) : Option Un := l.find? (keyU g i)
theorem atU_cases (l : List Un) (g i : Int) : (atU l g i = -1 ∧ findU l g i = none) ∨ ∃ (k : Nat) (x : Un), l[k]? = some x ∧ atU l g i = (k : Int) ∧ findU l g i = some x := by
  rcases idxF_find (keyU g i) l 0 with h | ⟨k, x, h1, h2, h3⟩
  · exact .inl h
  · exact .inr ⟨k, x, h1, by simpa [atU] using h2, h3⟩
def getHst (h : Hst) (g i : Int) : ByteArray × Bool :=
  match findU h.units g i with
  | some x => if h.up = true ∧ x.sum = sumV x.text then (x.text, true) else (⟨#[]⟩, false)
  | none => (⟨#[]⟩, false)
def dropHst (h : Hst) (g i : Int) : Hst × Bool := if 0 ≤ atU h.units g i then ({ h with units := h.units.eraseIdx (atU h.units g i).toNat }, true) else (h, false)
/-! ### Spoilt texts -/
def bytesL (s : ByteArray) : List Int := s.data.toList.map fun b => (b.toNat : Int)
def flipT (s : ByteArray) (j : Nat) : ByteArray := bytesText ((bytesL s).set j (xorI .u8 (byteAt s j) 1))
def spoilHst (h : Hst) (g i at' : Int) : Hst × Bool :=
  match findU h.units g i with
  | some x => if x.text.size ≠ 0 ∧ x.sum = sumV x.text ∧ 0 ≤ at' then ({ h with units := h.units.set (atU h.units g i).toNat { x with text := flipT x.text (at'.tmod x.text.size).toNat } }, true) else (h, false)
  | none => (h, false)
theorem bytesL_len (s : ByteArray) : (bytesL s).length = s.size := by simp [bytesL]
theorem bytesL_at (s : ByteArray) (j : Nat) (h : j < s.size) : (bytesL s)[j]? = some (byteAt s j) := by
  unfold bytesL byteAt
  have h' : j < s.data.size := h
  rw [List.getElem?_map, Array.getElem?_toList, Array.getElem?_eq_getElem h']
  simp only [Option.map_some, Int.toNat_natCast, Array.getD_eq_getD_getElem?]
  rw [Array.getElem?_eq_getElem h']
  rfl
theorem xorB_range (a b : Int) : 0 ≤ xorI .u8 a b ∧ xorI .u8 a b ≤ 255 := by
  unfold xorI IntKind.wrap
  simp [IntKind.bits, IntKind.signed]
  omega
theorem flipT_size (s : ByteArray) (j : Nat) : (flipT s j).size = s.size := by
  unfold flipT
  rw [bytesText_size, List.length_set, bytesL_len]
theorem byteAt_list (s : ByteArray) (k : Nat) : byteAt s k = ((s.data.toList.getD k 0).toNat : Int) := by
  unfold byteAt
  simp [List.getD_eq_getElem?_getD, Array.getD_eq_getD_getElem?]
theorem flipT_at (s : ByteArray) (j : Nat) (hj : j < s.size) (k : Nat) : byteAt (flipT s j) k = if k = j then xorI .u8 (byteAt s j) 1 else byteAt s k := by
  rw [byteAt_list, byteAt_list s k]
  unfold flipT
  rw [bytesText_list]
  simp only [List.getD_eq_getElem?_getD, List.getElem?_map, List.getElem?_set, bytesL_len]
  by_cases h : j = k
  · subst h
    have h2 := xorB_range (byteAt s j) 1
    rw [if_pos rfl, if_pos hj, if_pos rfl]
    simp only [Option.map_some, Option.getD_some]
    have : (UInt8.ofNat (xorI .u8 (byteAt s j) 1).toNat).toNat = (xorI .u8 (byteAt s j) 1).toNat := by
      rw [UInt8.toNat_ofNat']; omega
    rw [this]; omega
  · rw [if_neg h, if_neg (fun e => h e.symm)]
    unfold bytesL
    rw [List.getElem?_map]
    cases hx : s.data.toList[k]? with
    | none => simp
    | some b => simp
/-! ### Sums -/
def W32 (a : Int) : Prop := 0 ≤ a ∧ a ≤ 4294967295
theorem wrap32 {n : Int} (h : 0 ≤ n ∧ n ≤ 4294967295) : IntKind.u32.wrap n = n := by
  unfold IntKind.wrap
  simp [IntKind.bits, IntKind.signed]
  omega
theorem xor32_toNat (a b : Int) : xorI .u32 a b = ((BitVec.ofInt 32 a ^^^ BitVec.ofInt 32 b).toNat : Int) := by
  have h : (BitVec.ofInt 32 a ^^^ BitVec.ofInt 32 b).toNat < 4294967296 := (BitVec.ofInt 32 a ^^^ BitVec.ofInt 32 b).isLt
  show IntKind.u32.wrap ((BitVec.ofInt 32 a ^^^ BitVec.ofInt 32 b).toNat : Int) = _
  exact wrap32 (by omega)
theorem xor32_W (a b : Int) : W32 (xorI .u32 a b) := by
  rw [xor32_toNat]
  have := (BitVec.ofInt 32 a ^^^ BitVec.ofInt 32 b).isLt
  unfold W32; omega
theorem ofInt_inj32 {a b : Int} (ha : W32 a) (hb : W32 b) (h : BitVec.ofInt 32 a = BitVec.ofInt 32 b) : a = b := by
  have h2 := congrArg BitVec.toNat h
  simp only [BitVec.toNat_ofInt] at h2
  unfold W32 at ha hb
  omega
theorem xor32_inj {a b c : Int} (ha : W32 a) (hb : W32 b) (h : xorI .u32 a c = xorI .u32 b c) : a = b := by
  rw [xor32_toNat, xor32_toNat] at h
  have h1 : BitVec.ofInt 32 a ^^^ BitVec.ofInt 32 c = BitVec.ofInt 32 b ^^^ BitVec.ofInt 32 c := BitVec.eq_of_toNat_eq (by omega)
  have h2 := congrArg (· ^^^ BitVec.ofInt 32 c) h1
  simp only [BitVec.xor_assoc, BitVec.xor_self, BitVec.xor_zero] at h2
  exact ofInt_inj32 ha hb h2
theorem xor32_comm (a b : Int) : xorI .u32 a b = xorI .u32 b a := by rw [xor32_toNat, xor32_toNat, BitVec.xor_comm]
/-- The table's top bit. -/
theorem xor32_top {a : Int} (h : 0 ≤ a ∧ a < 2147483648) : 2147483648 ≤ xorI .u32 a 3558460437 := by
  rw [xor32_toNat]
  have h1 : (BitVec.ofInt 32 a ^^^ BitVec.ofInt 32 3558460437).getLsbD 31 = true := by
    rw [BitVec.getLsbD_xor]
    have e1 : (BitVec.ofInt 32 a).getLsbD 31 = false := by
      unfold BitVec.getLsbD
      refine Nat.testBit_lt_two_pow ?_
      rw [BitVec.toNat_ofInt]
      omega
    have e2 : (BitVec.ofInt 32 3558460437).getLsbD 31 = true := by decide
    rw [e1, e2]; rfl
  have h2 := Nat.ge_two_pow_of_testBit (x := (BitVec.ofInt 32 a ^^^ BitVec.ofInt 32 3558460437).toNat) (i := 31) h1
  have e : (2 : Nat) ^ 31 = 2147483648 := rfl
  omega
theorem sumH_W {s : Int} (h : W32 s) : W32 (sumH s) := by
  unfold sumH
  split
  · exact xor32_W _ _
  · unfold W32 at h ⊢; rw [Int.tdiv_eq_ediv_of_nonneg h.1]; omega
theorem sumH_inj {a b : Int} (ha : W32 a) (hb : W32 b) (h : sumH a = sumH b) : a = b := by
  have ha' := ha; have hb' := hb
  unfold W32 at ha' hb'
  unfold sumH at h
  rw [Int.tdiv_eq_ediv_of_nonneg ha'.1, Int.tdiv_eq_ediv_of_nonneg hb'.1, Int.tmod_eq_emod_of_nonneg ha'.1, Int.tmod_eq_emod_of_nonneg hb'.1] at h
  have t1 := xor32_top (a := a / 2) (by omega)
  have t2 := xor32_top (a := b / 2) (by omega)
  by_cases c1 : a % 2 = 1 <;> by_cases c2 : b % 2 = 1
  · rw [if_pos c1, if_pos c2] at h
    have := xor32_inj (a := a / 2) (b := b / 2) (by unfold W32; omega) (by unfold W32; omega) h
    omega
  · rw [if_pos c1, if_neg c2] at h; omega
  · rw [if_neg c1, if_pos c2] at h; omega
  · rw [if_neg c1, if_neg c2] at h; omega
theorem sumR_W : ∀ (n : Nat) {s : Int}, W32 s → W32 (sumR n s)
  | 0, s, h => h
  | n + 1, s, h => sumR_W n (sumH_W h)
theorem sumR_inj : ∀ (n : Nat) {a b : Int}, W32 a → W32 b → sumR n a = sumR n b → a = b
  | 0, a, b, _, _, h => h
  | n + 1, a, b, ha, hb, h => sumH_inj ha hb (sumR_inj n (sumH_W ha) (sumH_W hb) h)
theorem sumF_inj (t t' : ByteArray) : ∀ (n i : Nat) {a b : Int}, W32 a → W32 b → (∀ k : Nat, i ≤ k → k < i + n → byteAt t k = byteAt t' k) → sumF t n i a = sumF t' n i b → a = b
  | 0, i, a, b, _, _, _, h => h
  | n + 1, i, a, b, ha, hb, hk, h => by
    rw [sumF, sumF, hk i (Nat.le_refl _) (by omega)] at h
    have h1 := sumF_inj t t' n (i + 1) (sumR_W 8 (xor32_W a (byteAt t' i))) (sumR_W 8 (xor32_W b (byteAt t' i))) (fun k h1 h2 => hk k (by omega) (by omega)) (by exact_mod_cast h)
    exact xor32_inj ha hb (sumR_inj 8 (xor32_W _ _) (xor32_W _ _) h1)
theorem sumF_flip (t t' : ByteArray) (j : Nat) (hj : byteAt t j ≠ byteAt t' j) : ∀ (n i : Nat) {a : Int}, W32 a → i ≤ j → j < i + n → (∀ k : Nat, k ≠ j → byteAt t k = byteAt t' k) → sumF t n i a ≠ sumF t' n i a
  | 0, i, a, _, h1, h2, _, _ => by omega
  | n + 1, i, a, ha, h1, h2, hk, h => by
    rw [sumF, sumF] at h
    by_cases c : i = j
    · subst c
      have h3 := sumF_inj t t' n (i + 1) (sumR_W 8 (xor32_W a (byteAt t i))) (sumR_W 8 (xor32_W a (byteAt t' i))) (fun k h1 h2 => hk k (by omega)) (by exact_mod_cast h)
      have h4 := sumR_inj 8 (xor32_W _ _) (xor32_W _ _) h3
      rw [xor32_comm a, xor32_comm a] at h4
      have r1 := byteAt_range t i
      have r2 := byteAt_range t' i
      exact hj (xor32_inj (by unfold W32; omega) (by unfold W32; omega) h4)
    · rw [hk i c] at h
      exact sumF_flip t t' j hj n (i + 1) (sumR_W 8 (xor32_W a (byteAt t' i))) (by omega) (by omega) hk (by exact_mod_cast h)
theorem flip_ne {a : Int} (h : 0 ≤ a ∧ a ≤ 255) : xorI .u8 a 1 ≠ a := by
  have key : ∀ n : Fin 256, xorI .u8 (n.val : Int) 1 ≠ (n.val : Int) := by decide +kernel
  have := key ⟨a.toNat, by omega⟩
  simpa [Int.toNat_of_nonneg h.1] using this
/-- A text of which one bit is turned has another sum. -/
theorem sum_flip (s : ByteArray) (j : Nat) (h : j < s.size) : sumV (flipT s j) ≠ sumV s := by
  unfold sumV
  rw [flipT_size]
  intro he
  refine sumF_flip s (flipT s j) j ?_ s.size 0 (by unfold W32; omega) (Nat.zero_le _) (by omega) (fun k hk => ?_) he.symm
  · rw [flipT_at s j h j, if_pos rfl]
    exact fun e => flip_ne (byteAt_range s j) e.symm
  · rw [flipT_at s j h k, if_neg hk]
/-! ### Marks -/
def mkUn (k : Int) (_ : Un) : Un × Int := (⟨k, w64 (k + 1), mkText (w64 (w64 (k + 1) + 1)), w64 (w64 (w64 (k + 1) + 1) + 1)⟩, w64 (w64 (w64 (w64 (k + 1) + 1) + 1) + 1))
def hdUn (k : Int) (x : Un) : Option Int :=
  if x.group = k then if x.index = w64 (k + 1) then if x.text = mkText (w64 (w64 (k + 1) + 1)) then if x.sum = w64 (w64 (w64 (k + 1) + 1) + 1) then some (w64 (w64 (w64 (w64 (k + 1) + 1) + 1) + 1)) else none else none else none else none
theorem marks_un (l : List Un) (k : Int) (h : 0 ≤ k ∧ k + l.length * 4 ≤ 9223372036854775807) : hscan hdUn k (scan mkUn k l).1 = (scan mkUn k l).2 ∧ 0 ≤ (scan mkUn k l).2 := by
  have := hscan_scan mkUn hdUn (Rm 4) l k 0 (fun k n x hx hk => by
    obtain ⟨h1, h2⟩ := hk
    have e1 : w64 (k + 1) = k + 1 := w64_eq (by omega)
    have e2 : w64 (k + 1 + 1) = k + 1 + 1 := w64_eq (by omega)
    have e3 : w64 (k + 1 + 1 + 1) = k + 1 + 1 + 1 := w64_eq (by omega)
    have e4 : w64 (k + 1 + 1 + 1 + 1) = k + 1 + 1 + 1 + 1 := w64_eq (by omega)
    simp only [mkUn, hdUn, e1, e2, e3, e4, if_true, Rm, true_and]
    omega) ⟨h.1, by omega⟩
  exact ⟨this.1, this.2.1⟩
/-! ### A unit is put: what is found then -/
theorem find_app {α : Type} (p : α → Bool) : ∀ (a b : List α), (∀ x ∈ a, p x = false) → (a ++ b).find? p = b.find? p
  | [], b, _ => rfl
  | x :: a, b, h => by rw [List.cons_append, List.find?_cons, h x (by simp)]; exact find_app p a b fun y hy => h y (by simp [hy])
theorem find_no {α : Type} (p : α → Bool) (l : List α) (h : ∀ x ∈ l, p x = false) : l.find? p = none := List.find?_eq_none.2 fun x hx => by simp [h x hx]
structure PutF (l : List Un) (u : Un) (A M B : List Un) : Prop where
  eq : l = A ++ M ++ B
  put : ∀ v : Un, v.group = u.group → v.index = u.index → putU l v = A ++ v :: B
  a : ∀ x ∈ A, keyU u.group u.index x = false
  b : ∀ x ∈ B, keyU u.group u.index x = false
  m : ∀ x ∈ M, keyU u.group u.index x = true
theorem put_facts {l : List Un} (u : Un) (h : okU none l = true) : ∃ A M B, PutF l u A M B := by
  obtain ⟨A, M, B, rfl, hA, hM, hl, hB⟩ := part_u u l ((okU_none l).1 h).2
  refine ⟨A, M, B, rfl, fun v h1 h2 => ?_, fun x hx => less_nkey (hA x hx), fun x hx => less_nkey' (hB x hx), hM⟩
  refine put_parts (fun x hx => ?_) (fun x hx => ?_) (fun x hx => ?_)
  · have := hA x hx; simpa only [lessU, h1, h2] using this
  · have := hM x hx; simpa only [keyU, h1, h2] using this
  · have := hB x hx; simpa only [lessU, h1, h2] using this
section
variable {l A M B : List Un} {u : Un}
theorem PutF.ok (F : PutF l u A M B) (h : okU none l = true) {v : Un} (h1 : v.group = u.group) (h2 : v.index = u.index) (hv : unB v = true) : okU none (A ++ v :: B) = true := by
  rw [← F.put v h1 h2]; exact put_ok h hv
theorem PutF.drop_ok (F : PutF l u A M B) (h : okU none l = true) : okU none (A ++ B) = true := by
  rw [okU_none] at h ⊢
  have hs : (A ++ B).Sublist l := by
    rw [F.eq, List.append_assoc]
    exact List.Sublist.append_left (List.sublist_append_right M B) A
  exact ⟨fun x hx => h.1 x (hs.subset hx), h.2.sublist hs⟩
theorem PutF.find (F : PutF l u A M B) {v : Un} (h1 : v.group = u.group) (h2 : v.index = u.index) : findU (A ++ v :: B) u.group u.index = some v := by
  unfold findU
  rw [find_app _ A _ F.a, List.find?_cons]
  simp [keyU, h1, h2]
theorem PutF.at (F : PutF l u A M B) {v : Un} (h1 : v.group = u.group) (h2 : v.index = u.index) : atU (A ++ v :: B) u.group u.index = (A.length : Int) := by
  unfold atU
  rw [idxF_app _ A _ 0 F.a, idxF]
  simp [keyU, h1, h2]
theorem PutF.gone (F : PutF l u A M B) : findU (A ++ B) u.group u.index = none := by
  unfold findU
  rw [find_app _ A _ F.a]
  exact find_no _ _ F.b
theorem PutF.other (F : PutF l u A M B) {g i : Int} (h : ¬ (g = u.group ∧ i = u.index)) : findU (A ++ B) g i = findU l g i := by
  unfold findU
  rw [F.eq, List.append_assoc, List.find?_append, List.find?_append, List.find?_append, find_no (keyU g i) M fun x hx => ?_]
  · simp
  · have := F.m x hx
    rw [← Bool.not_eq_true]; intro k
    simp only [keyU, decide_eq_true_eq] at this k
    exact h ⟨by omega, by omega⟩
end
theorem set_at {α : Type} (a b : List α) (x y : α) : (a ++ x :: b).set a.length y = a ++ y :: b := by
  induction a with
  | nil => rfl
  | cons z a ih => simp [ih]
theorem erase_at {α : Type} (a b : List α) (x : α) : (a ++ x :: b).eraseIdx a.length = a ++ b := by
  induction a with
  | nil => rfl
  | cons z a ih => simp [ih]
/-- What the law on units wants, all together. -/
theorem units_put {h : Hst} {u : Un} (ho : okHst h = true) (hup : h.up = true) (hu : unB (sumd u) = true) (hne : u.text.size ≠ 0) :
    ∃ A B : List Un, putHst h u = ({ h with units := A ++ sumd u :: B }, true) ∧ okHst { h with units := A ++ sumd u :: B } = true ∧
      getHst { h with units := A ++ sumd u :: B } u.group u.index = (u.text, true) ∧
      (∀ k : Int, 0 ≤ k → spoilHst { h with units := A ++ sumd u :: B } u.group u.index k = ({ h with units := A ++ { sumd u with text := flipT u.text (k.tmod u.text.size).toNat } :: B }, true) ∧
        okHst { h with units := A ++ { sumd u with text := flipT u.text (k.tmod u.text.size).toNat } :: B } = true ∧
        getHst { h with units := A ++ { sumd u with text := flipT u.text (k.tmod u.text.size).toNat } :: B } u.group u.index = (⟨#[]⟩, false) ∧
        (spoilHst { h with units := A ++ { sumd u with text := flipT u.text (k.tmod u.text.size).toNat } :: B } u.group u.index k).2 = false) ∧
      dropHst { h with units := A ++ sumd u :: B } u.group u.index = ({ h with units := A ++ B }, true) ∧ okHst { h with units := A ++ B } = true ∧ (getHst { h with units := A ++ B } u.group u.index).2 = false ∧
      (∀ g i : Int, ¬ (g = u.group ∧ i = u.index) → getHst { h with units := A ++ B } g i = getHst h g i) := by
  simp only [okHst, Bool.and_eq_true] at ho
  obtain ⟨ho1, ho2⟩ := ho
  obtain ⟨A, M, B, F⟩ := put_facts u ho1
  have hp : putU h.units (sumd u) = A ++ sumd u :: B := F.put _ rfl rfl
  have hok : okU none (A ++ sumd u :: B) = true := F.ok ho1 rfl rfl hu
  have hf : findU (A ++ sumd u :: B) u.group u.index = some (sumd u) := F.find rfl rfl
  have hat : atU (A ++ sumd u :: B) u.group u.index = (A.length : Int) := F.at rfl rfl
  refine ⟨A, B, ?_, ?_, ?_, fun k hk => ?_, ?_, ?_, ?_, fun g i hgi => ?_⟩
  · unfold putHst
    rw [hp, if_pos ⟨by simp [okHst, ho1, ho2], hup, by simp [okHst, hok, ho2]⟩]
  · simp [okHst, hok, ho2]
  · unfold getHst
    simp only [hf]
    rw [if_pos ⟨hup, rfl⟩]
    rfl
  · have hj : (k.tmod u.text.size).toNat < u.text.size := by
      have h1 := Int.tmod_lt_of_pos k (b := (u.text.size : Int)) (by omega)
      have h2 := Int.tmod_nonneg (u.text.size : Int) hk
      omega
    have hsf := sum_flip u.text _ hj
    have hsz := flipT_size u.text (k.tmod u.text.size).toNat
    generalize ht : flipT u.text (k.tmod u.text.size).toNat = t at hsf hsz
    have hu2 : unB { sumd u with text := t } = true := by
      simp only [unB, sumd, hsz] at hu ⊢; exact hu
    have hf2 : findU (A ++ { sumd u with text := t } :: B) u.group u.index = some { sumd u with text := t } := F.find rfl rfl
    have hns : ¬ (sumd u).sum = sumV t := fun e => hsf e.symm
    refine ⟨?_, ?_, ?_, ?_⟩
    · unfold spoilHst
      simp only [hf]
      rw [if_pos ⟨hne, rfl, hk⟩, hat]
      have e : (sumd u).text = u.text := rfl
      simp only [e, ht, Int.toNat_natCast, set_at]
    · simp [okHst, F.ok ho1 (v := { sumd u with text := t }) rfl rfl hu2, ho2]
    · unfold getHst
      simp only [hf2]
      rw [if_neg (fun e => hns e.2)]
    · unfold spoilHst
      simp only [hf2]
      rw [if_neg (fun e => hns e.2.1)]
  · unfold dropHst
    simp only [hat]
    rw [if_pos (by omega)]
    simp only [Int.toNat_natCast, erase_at]
  · simp [okHst, F.drop_ok ho1, ho2]
  · unfold getHst
    simp only [F.gone]
  · unfold getHst
    simp only [F.other hgi]
/-! ### A right host, place by place -/
def uB (l : List Un) (i : Nat) (x : Un) : Bool := unB x && (decide (i = 0) || (match l[i - 1]? with | some y => lessU y x | none => true))
theorem okU_idx : ∀ (l : List Un) (p : Option Un), okU p l = true ↔ ∀ j x, l[j]? = some x → unB x = true ∧ (match (if j = 0 then p else l[j - 1]?) with | none => true | some q => lessU q x) = true
  | [], p => by simp [okU]
  | u :: r, p => by
    have ih := okU_idx r (some u)
    have e : ∀ j, (if j = 0 then some u else r[j - 1]?) = (u :: r)[j]? := fun j => by
      cases j <;> simp
    simp only [okU, Bool.and_eq_true, ih]
    constructor
    · rintro ⟨⟨h1, h2⟩, h3⟩ j x hx
      cases j with
      | zero => simp only [List.getElem?_cons_zero, Option.some.injEq] at hx; subst hx; exact ⟨h1, by simpa using h2⟩
      | succ j =>
        have h4 := h3 j x (by simpa using hx)
        rw [e j] at h4
        simpa using h4
    · intro h
      refine ⟨?_, fun j x hx => ?_⟩
      · have := h 0 u (by simp)
        simpa using this
      · have h4 := h (j + 1) x (by simpa using hx)
        rw [e j]
        simpa using h4
theorem okU_iff {l : List Un} : okU none l = true ↔ ∀ j x, l[j]? = some x → uB l j x = true := by
  rw [okU_idx]
  refine forall_congr' fun j => forall_congr' fun x => forall_congr' fun hx => ?_
  unfold uB
  rw [Bool.and_eq_true]
  refine and_congr_right fun _ => ?_
  by_cases h : j = 0
  · simp [h]
  · rw [if_neg h]
    simp only [h, decide_false, Bool.false_or]
    cases l[j - 1]? <;> simp
theorem okU_no {l : List Un} {j : Nat} {x : Un} (hx : l[j]? = some x) (h : uB l j x = false) : okU none l = false := by
  cases hd : okU none l with
  | false => rfl
  | true => rw [okU_iff.1 hd j x hx] at h; cases h
theorem putHst_len (h : Hst) (u : Un) : (putHst h u).1.units.length ≤ h.units.length + 1 := by
  unfold putHst
  split
  · rename_i c
    have c1 := c.1
    simp only [okHst, Bool.and_eq_true] at c1
    exact (put_len (sumd u) ((okU_none _).1 c1.1).2).2
  · simp
theorem spoilHst_len (h : Hst) (g i k : Int) : (spoilHst h g i k).1.units.length = h.units.length := by
  unfold spoilHst
  split
  · split
    · simp
    · rfl
  · rfl
end Go.Tm

