/- Plain facts on trees, marks and lists. -/
import Derived.Test.YtbhbkaonlillhaaAbc
import Derived.Sort.Walk0
import Derived.Lib.SlicesCompact
import Derived.Shelf.Strings.Split
/- Trees of nodes as plain lists: what is right, where a node is, what leads to the root. No program in it. -/
namespace Go.Tm
open Go Go.Abs
set_option linter.unusedVariables false
set_option linter.unusedSimpArgs false
structure Pc where
  group : Int
  len : Int
structure Nod where
  id : Int
  parent : Int
  name : ByteArray
  dir : Bool
  schema : Int
  quota : Int
  len : Int
  pieces : List Pc
  writer : Int
structure Tree where
  nodes : List Nod
  next : Int
noncomputable instance : DecidableEq Pc := fun _ _ => Classical.propDecidable _
noncomputable instance : DecidableEq Nod := fun _ _ => Classical.propDecidable _
noncomputable instance : DecidableEq Tree := fun _ _ => Classical.propDecidable _
def inB (x a b : Int) : Bool := decide (a ≤ x ∧ x ≤ b)
def gs (c : Int) : Int := if c = 1 then 16 else if c = 2 then 24 else if c = 3 then 32 else 0
def okCh (x : Int) : Bool := decide ((97 ≤ x ∧ x ≤ 122) ∨ (48 ≤ x ∧ x ≤ 57))
def nmB (s : ByteArray) : Bool := (List.range s.size).all (fun i => okCh (byteAt s i)) && inB s.size 1 8
def pcB (g : Int) (p : Pc) : Bool := inB p.group 1 100000 && inB p.len 1 g
def psum : List Pc → Int
  | [] => 0
  | p :: r => p.len + psum r
theorem psum_app : ∀ (a b : List Pc), psum (a ++ b) = psum a + psum b
  | [], b => by simp [psum]
  | p :: a, b => by simp [psum, psum_app a b]; omega
def atF (id : Int) : List Nod → Nat → Int
  | [], _ => -1
  | n :: r, i => if n.id = id then (i : Int) else atF id r (i + 1)
def idxF {α : Type} (p : α → Bool) : List α → Nat → Int
  | [], _ => -1
  | n :: r, i => if p n = true then (i : Int) else idxF p r (i + 1)
theorem idxF_any {α : Type} (p : α → Bool) : ∀ (l : List α) (k : Nat), decide (0 ≤ idxF p l k) = l.any p
  | [], _ => by simp [idxF]
  | n :: r, k => by
    rw [idxF, List.any_cons]
    cases h : p n with
    | true => simp
    | false => simpa using idxF_any p r (k + 1)
theorem idxF_at (id : Int) : ∀ (l : List Nod) (k : Nat), idxF (fun x : Nod => decide (x.id = id)) l k = atF id l k
  | [], _ => rfl
  | n :: r, k => by simp [idxF, atF, idxF_at id r]
def atI (l : List Nod) (id : Int) : Int := atF id l 0
def nd (l : List Nod) (id : Int) : Option Nod := l.find? fun x => decide (x.id = id)
def prevB (l : List Nod) (i : Nat) (x : Nod) : Bool := decide (i = 0) || (match l[i - 1]? with | some y => decide (y.id < x.id) | none => true)
def rootB (x : Nod) : Bool := decide (x.id = 1) && decide (x.parent = 0) && decide (x.name = ⟨#[]⟩) && x.dir && !decide (x.schema = 0)
def dirB (x : Nod) : Bool := inB x.schema 0 3 && inB x.quota 0 1000 && decide (x.len = 0) && decide (x.pieces.length = 0) && decide (x.writer = 0)
def fileB (x : Nod) : Bool := inB x.schema 1 3 && decide (x.quota = 0) && decide (x.pieces.length ≤ 40) && inB x.writer 0 9 && x.pieces.all (pcB (gs x.schema)) && decide (psum x.pieces = x.len) && decide (psum x.pieces ≤ 1000)
def ndB (x : Nod) : Bool := if x.dir then dirB x else fileB x
def dirAt (l : List Nod) (id : Int) : Bool := match nd l id with | some y => y.dir | none => false
def uniqB (l : List Nod) (i : Nat) (x : Nod) : Bool := (l.take i).all fun y => !(decide (y.parent = x.parent) && decide (y.name = x.name))
/-- The reference's way to the root. -/
def reach (l : List Nod) : Nat → Int → Bool
  | 0, _ => false
  | n + 1, id => match nd l id with
    | none => false
    | some x => if x.parent = 1 then true else reach l n x.parent
/-- The program's way to the root. -/
def reachI (l : List Nod) : Nat → Int → Bool
  | 0, _ => false
  | n + 1, id => match nd l id with
    | none => false
    | some x => if x.dir = false then false else if x.id = 1 then true else reachI l n x.parent
def okN (l : List Nod) (nx : Int) (i : Nat) (x : Nod) : Bool :=
  decide (x.id < nx) && prevB l i x && (!decide (i = 0) || rootB x) && ndB x && (decide (i = 0) || (nmB x.name && dirAt l x.parent && uniqB l i x && reach l 4 x.id))
def okT (l : List Nod) (nx : Int) : Bool := inB l.length 1 14 && decide (nx ≤ 100000) && (List.range l.length).all fun i => match l[i]? with | some x => okN l nx i x | none => true
def okNi (l : List Nod) (nx : Int) (i : Nat) (x : Nod) : Bool :=
  ndB x && decide (x.id < nx) && prevB l i x && (decide (i = 0) || (nmB x.name && reachI l 4 x.parent)) && uniqB l i x
def okTi (l : List Nod) (nx : Int) : Bool := inB l.length 1 14 && decide (nx ≤ 100000) && (match l[0]? with | some r => rootB r | none => true) && (List.range l.length).all fun i => match l[i]? with | some x => okNi l nx i x | none => true
/-- A directory that leads to the root in so many steps. -/
def rIn (l : List Nod) : Nat → Int → Prop
  | 0, id => id = 1
  | n + 1, id => id = 1 ∨ ∃ y, nd l id = some y ∧ y.dir = true ∧ rIn l n y.parent
structure OkT (l : List Nod) (nx : Int) : Prop where
  len1 : 1 ≤ l.length
  len2 : l.length ≤ 14
  nxt : nx ≤ 100000
  root : ∃ r, l[0]? = some r ∧ rootB r = true
  asc : ∀ (i : Nat) x y, l[i]? = some x → l[i + 1]? = some y → x.id < y.id
  low : ∀ x ∈ l, x.id < nx
  nds : ∀ x ∈ l, ndB x = true
  nms : ∀ (i : Nat) x, 0 < i → l[i]? = some x → nmB x.name = true
  uniq : ∀ (i : Nat) x, 0 < i → l[i]? = some x → uniqB l i x = true
  up : ∀ (i : Nat) x, 0 < i → l[i]? = some x → dirAt l x.parent = true ∧ rIn l 3 x.parent
theorem atF_spec (id : Int) : ∀ (l : List Nod) (k : Nat), (atF id l k = -1 ∧ ∀ x ∈ l, x.id ≠ id) ∨ ∃ (i : Nat) (x : Nod), l[i]? = some x ∧ atF id l k = ((k + i : Nat) : Int) ∧ x.id = id ∧ nd l id = some x ∧ ∀ (j : Nat) y, j < i → l[j]? = some y → y.id ≠ id
  | [], _ => .inl ⟨rfl, by simp⟩
  | n :: r, k => by
    rw [atF]
    by_cases h : n.id = id
    · exact .inr ⟨0, n, rfl, by simp [h], h, by simp [nd, h], fun j y hj => by omega⟩
    · rw [if_neg h]
      rcases atF_spec id r (k + 1) with ⟨h1, h2⟩ | ⟨i, x, h1, h2, h3, h4, h5⟩
      · refine .inl ⟨h1, fun x hx => ?_⟩
        rcases List.mem_cons.1 hx with rfl | hx
        · exact h
        · exact h2 x hx
      · refine .inr ⟨i + 1, x, by simpa using h1, by rw [h2]; congr 1; omega, h3, by simp only [nd] at h4 ⊢; rw [List.find?_cons_of_neg (by simpa using h)]; exact h4, fun j y hj hy => ?_⟩
        cases j with
        | zero => simp at hy; subst hy; exact h
        | succ j => exact h5 j y (by omega) (by simpa using hy)
theorem atI_spec (l : List Nod) (id : Int) : (atI l id = -1 ∧ nd l id = none ∧ ∀ x ∈ l, x.id ≠ id) ∨ ∃ (i : Nat) (x : Nod), l[i]? = some x ∧ atI l id = (i : Int) ∧ x.id = id ∧ nd l id = some x ∧ ∀ (j : Nat) y, j < i → l[j]? = some y → y.id ≠ id := by
  rcases atF_spec id l 0 with ⟨h1, h2⟩ | ⟨i, x, h1, h2, h⟩
  · exact .inl ⟨h1, by simpa [nd, List.find?_eq_none] using h2, h2⟩
  · exact .inr ⟨i, x, h1, by simpa [atI] using h2, h⟩
theorem atI_of {l : List Nod} {id : Int} {i : Nat} {x : Nod} (hx : l[i]? = some x) (hid : x.id = id) (h : ∀ (j : Nat) y, j < i → l[j]? = some y → y.id ≠ id) : atI l id = i ∧ nd l id = some x := by
  rcases atI_spec l id with ⟨_, _, h2⟩ | ⟨k, y, h1, h2, h3, h4, h5⟩
  · exact absurd hid (h2 x (List.mem_of_getElem? hx))
  · have : k = i := by
      rcases Nat.lt_trichotomy k i with c | c | c
      · exact absurd h3 (h k y c h1)
      · exact c
      · exact absurd hid (h5 i x c hx)
    subst this
    rw [hx] at h1; cases h1
    exact ⟨h2, h4⟩
theorem nd_mem {l : List Nod} {id : Int} {x : Nod} (h : nd l id = some x) : x ∈ l ∧ x.id = id := by
  unfold nd at h
  exact ⟨List.mem_of_find?_eq_some h, by simpa using List.find?_some h⟩
section
variable {l : List Nod} {nx : Int}
theorem asc_lt (h : ∀ (i : Nat) x y, l[i]? = some x → l[i + 1]? = some y → x.id < y.id) : ∀ (d i : Nat) x y, l[i]? = some x → l[i + d + 1]? = some y → x.id < y.id
  | 0, i, x, y, hx, hy => h i x y hx hy
  | d + 1, i, x, y, hx, hy => by
    have hl : i + d + 1 < l.length := by have := (List.getElem?_eq_some_iff.1 hy).1; omega
    have hz : l[i + d + 1]? = some l[i + d + 1] := List.getElem?_eq_getElem hl
    have h1 := asc_lt h d i x _ hx hz
    have h2 := h (i + d + 1) _ y hz (by rw [← hy]; congr 1)
    omega
theorem OkT.lt (h : OkT l nx) {i j : Nat} {x y : Nod} (hij : i < j) (hx : l[i]? = some x) (hy : l[j]? = some y) : x.id < y.id :=
  asc_lt h.asc (j - i - 1) i x y hx (by rw [← hy]; congr 1; omega)
theorem OkT.nd_at (h : OkT l nx) {i : Nat} {x : Nod} (hx : l[i]? = some x) : atI l x.id = i ∧ nd l x.id = some x :=
  atI_of hx rfl fun j y hj hy => by have := h.lt hj hy hx; omega
theorem OkT.nd_self (h : OkT l nx) {x : Nod} (hx : x ∈ l) : nd l x.id = some x := by
  obtain ⟨i, hi⟩ := List.getElem?_of_mem hx
  exact (h.nd_at hi).2
theorem rootB_iff {x : Nod} : rootB x = true ↔ x.id = 1 ∧ x.parent = 0 ∧ x.name = ⟨#[]⟩ ∧ x.dir = true ∧ x.schema ≠ 0 := by
  simp [rootB, and_assoc]
theorem OkT.rootNd (h : OkT l nx) : ∃ r, l[0]? = some r ∧ nd l 1 = some r ∧ atI l 1 = 0 ∧ r.id = 1 ∧ r.parent = 0 ∧ r.name = ⟨#[]⟩ ∧ r.dir = true ∧ r.schema ≠ 0 := by
  obtain ⟨r, h0, hr⟩ := h.root
  have hr' := rootB_iff.1 hr
  have := h.nd_at h0
  rw [hr'.1] at this
  exact ⟨r, h0, this.2, this.1, hr'⟩
theorem OkT.id_pos (h : OkT l nx) {x : Nod} (hx : x ∈ l) : 1 ≤ x.id := by
  obtain ⟨i, hi⟩ := List.getElem?_of_mem hx
  obtain ⟨r, h0, _, _, h1, _⟩ := h.rootNd
  rcases Nat.eq_zero_or_pos i with rfl | c
  · rw [h0] at hi; cases hi; omega
  · have := h.lt c h0 hi; omega
theorem OkT.idx_pos (h : OkT l nx) {i : Nat} {x : Nod} (hi : l[i]? = some x) (hid : x.id ≠ 1) : 0 < i := by
  obtain ⟨r, h0, _, _, h1, _⟩ := h.rootNd
  rcases Nat.eq_zero_or_pos i with rfl | c
  · rw [h0] at hi; cases hi; exact absurd h1 hid
  · exact c
theorem range_all {n : Nat} {p : Nat → Bool} : (List.range n).all p = true ↔ ∀ i, i < n → p i = true := by simp [List.all_eq_true]
theorem all_at {p : Nat → Nod → Bool} : ((List.range l.length).all fun i => match l[i]? with | some x => p i x | none => true) = true ↔ ∀ (i : Nat) x, l[i]? = some x → p i x = true := by
  rw [range_all]
  constructor
  · intro h i x hx
    have := h i (List.getElem?_eq_some_iff.1 hx).1
    rw [hx] at this; exact this
  · intro h i hi
    rw [List.getElem?_eq_getElem hi]
    exact h i _ (List.getElem?_eq_getElem hi)
theorem prevB_iff {i : Nat} {x : Nod} (hx : l[i]? = some x) : prevB l i x = true ↔ ∀ y, 0 < i → l[i - 1]? = some y → y.id < x.id := by
  unfold prevB
  rcases Nat.eq_zero_or_pos i with rfl | c
  · simp
  · have hi : i - 1 < l.length := by have := (List.getElem?_eq_some_iff.1 hx).1; omega
    rw [List.getElem?_eq_getElem hi]
    simp [show i ≠ 0 by omega, c]
theorem asc_of (h : ∀ (i : Nat) x, l[i]? = some x → prevB l i x = true) : ∀ (i : Nat) x y, l[i]? = some x → l[i + 1]? = some y → x.id < y.id := fun i x y hx hy =>
  (prevB_iff hy).1 (h (i + 1) y hy) x (by omega) (by simpa using hx)
/-- The same, without rightness. -/
theorem nd_at' (h : ∀ (i : Nat) x y, l[i]? = some x → l[i + 1]? = some y → x.id < y.id) {x : Nod} (hx : x ∈ l) : nd l x.id = some x := by
  obtain ⟨i, hi⟩ := List.getElem?_of_mem hx
  exact (atI_of hi rfl fun j y hj hy => by have := asc_lt h (i - j - 1) j y x hy (by rw [← hi]; congr 1; omega); omega).2
theorem reach_rIn (hasc : ∀ (i : Nat) x y, l[i]? = some x → l[i + 1]? = some y → x.id < y.id) (hdir : ∀ (i : Nat) x, 0 < i → l[i]? = some x → dirAt l x.parent = true) (hroot : ∀ x, l[0]? = some x → x.id = 1) :
    ∀ (n : Nat) (x : Nod) (i : Nat), 0 < i → l[i]? = some x → (reach l (n + 1) x.id = true ↔ rIn l n x.parent)
  | 0, x, i, hi, hx => by
    simp only [reach, nd_at' hasc (List.mem_of_getElem? hx), rIn]
    split <;> simp_all
  | n + 1, x, i, hi, hx => by
    rw [reach, nd_at' hasc (List.mem_of_getElem? hx), rIn]
    by_cases c : x.parent = 1
    · simp [c]
    · simp only [if_neg c, c, false_or]
      have hd := hdir i x hi hx
      unfold dirAt at hd
      cases hn : nd l x.parent with
      | none => rw [hn] at hd; simp at hd
      | some y =>
        rw [hn] at hd
        obtain ⟨hm, hid⟩ := nd_mem hn
        obtain ⟨j, hj⟩ := List.getElem?_of_mem hm
        have hj0 : 0 < j := by
          rcases Nat.eq_zero_or_pos j with rfl | c2
          · exact absurd (hid.symm.trans (hroot y hj)) c
          · exact c2
        simp only [if_false]
        rw [← hid, reach_rIn hasc hdir hroot n y j hj0 hj]
        constructor
        · intro h; exact ⟨y, rfl, hd, h⟩
        · rintro ⟨z, hz, _, h⟩
          cases hz
          exact h
theorem reachI_rIn (hroot : ∃ r, nd l 1 = some r ∧ r.dir = true ∧ r.id = 1) : ∀ (n : Nat) (id : Int), reachI l (n + 1) id = true ↔ (dirAt l id = true ∧ rIn l n id)
  | 0, id => by
    simp only [reachI, rIn, dirAt]
    cases hn : nd l id with
    | none => simp
    | some y =>
      obtain ⟨_, hid⟩ := nd_mem hn
      cases hd : y.dir <;> simp [hd, hid]
  | n + 1, id => by
    rw [reachI, rIn]
    cases hn : nd l id with
    | none => simp [dirAt, hn]
    | some y =>
      obtain ⟨_, hid⟩ := nd_mem hn
      cases hd : y.dir with
      | false => simp [dirAt, hn, hd]
      | true =>
        have e : dirAt l id = true := by simp [dirAt, hn, hd]
        simp only [e, true_and]
        by_cases c : id = 1
        · simp [hid, c, hd]
        · simp only [hd, hid, c, if_false, false_or, Bool.true_eq_false, reachI_rIn hroot n y.parent]
          constructor
          · rintro ⟨_, h⟩; exact ⟨y, rfl, hd, h⟩
          · rintro ⟨z, hz, _, h⟩
            cases hz
            refine ⟨?_, h⟩
            cases n with
            | zero =>
              simp only [rIn] at h
              obtain ⟨r, h1, h2, _⟩ := hroot
              simp [dirAt, h, h1, h2]
            | succ n =>
              rw [rIn] at h
              rcases h with h | ⟨z, hz, hz2, _⟩
              · obtain ⟨r, h1, h2, _⟩ := hroot
                simp [dirAt, h, h1, h2]
              · simp [dirAt, hz, hz2]
theorem inB_iff {x a b : Int} : inB x a b = true ↔ a ≤ x ∧ x ≤ b := by simp [inB]
theorem okT_iff : okT l nx = true ↔ OkT l nx := by
  unfold okT
  rw [Bool.and_eq_true, Bool.and_eq_true, all_at, inB_iff]
  constructor
  · rintro ⟨⟨⟨h1, h2⟩, h3⟩, h⟩
    have hp : ∀ (i : Nat) x, l[i]? = some x → okN l nx i x = true := h
    have hq : ∀ (i : Nat) x, l[i]? = some x → (x.id < nx ∧ prevB l i x = true ∧ (i = 0 → rootB x = true) ∧ ndB x = true ∧ (0 < i → nmB x.name = true ∧ dirAt l x.parent = true ∧ uniqB l i x = true ∧ reach l 4 x.id = true)) := by
      intro i x hx
      have := hp i x hx
      simp only [okN, Bool.and_eq_true, Bool.or_eq_true, decide_eq_true_eq, Bool.not_eq_true', decide_eq_false_iff_not] at this
      obtain ⟨⟨⟨⟨a, b⟩, c⟩, d⟩, e⟩ := this
      refine ⟨a, b, fun h0 => c.resolve_left (fun hh => hh h0), d, fun hi => ?_⟩
      rcases e with e | e
      · omega
      · exact ⟨e.1.1.1, e.1.1.2, e.1.2, e.2⟩
    have hasc := asc_of fun i x hx => (hq i x hx).2.1
    have h0 : l[0]? = some l[0] := List.getElem?_eq_getElem (by omega)
    have hr := (hq 0 _ h0).2.2.1 rfl
    have hdir : ∀ (i : Nat) x, 0 < i → l[i]? = some x → dirAt l x.parent = true := fun i x hi hx => ((hq i x hx).2.2.2.2 hi).2.1
    refine ⟨by omega, by omega, by simpa using h3, ⟨_, h0, hr⟩, hasc, fun x hx => ?_, fun x hx => ?_, fun i x hi hx => ((hq i x hx).2.2.2.2 hi).1, fun i x hi hx => ((hq i x hx).2.2.2.2 hi).2.2.1, fun i x hi hx => ⟨hdir i x hi hx, ?_⟩⟩
    · obtain ⟨i, hi⟩ := List.getElem?_of_mem hx
      exact (hq i x hi).1
    · obtain ⟨i, hi⟩ := List.getElem?_of_mem hx
      exact (hq i x hi).2.2.2.1
    · refine (reach_rIn hasc hdir (fun y hy => ?_) 3 x i hi hx).1 ((hq i x hx).2.2.2.2 hi).2.2.2
      rw [h0] at hy; cases hy
      exact (rootB_iff.1 hr).1
  · intro H
    refine ⟨⟨⟨by have := H.len1; omega, by have := H.len2; omega⟩, by simpa using H.nxt⟩, fun i x hx => ?_⟩
    obtain ⟨r, h0, hr⟩ := H.root
    simp only [okN, Bool.and_eq_true, Bool.or_eq_true, decide_eq_true_eq, Bool.not_eq_true', decide_eq_false_iff_not]
    refine ⟨⟨⟨⟨H.low x (List.mem_of_getElem? hx), (prevB_iff hx).2 fun y hi hy => H.asc (i - 1) y x hy (by rw [← hx]; congr 1; omega)⟩, ?_⟩, H.nds x (List.mem_of_getElem? hx)⟩, ?_⟩
    · by_cases c : i = 0
      · subst c; rw [h0] at hx; cases hx; exact .inr hr
      · exact .inl c
    · by_cases c : i = 0
      · exact .inl c
      · have hi : 0 < i := by omega
        refine .inr ⟨⟨⟨H.nms i x hi hx, (H.up i x hi hx).1⟩, H.uniq i x hi hx⟩, ?_⟩
        refine (reach_rIn H.asc (fun i x hi hx => (H.up i x hi hx).1) (fun y hy => ?_) 3 x i hi hx).2 (H.up i x hi hx).2
        rw [h0] at hy; cases hy
        exact (rootB_iff.1 hr).1
theorem okTi_iff : okTi l nx = true ↔ OkT l nx := by
  unfold okTi
  rw [Bool.and_eq_true, Bool.and_eq_true, Bool.and_eq_true, all_at, inB_iff]
  constructor
  · rintro ⟨⟨⟨⟨h1, h2⟩, h3⟩, h4⟩, h⟩
    have h0 : l[0]? = some l[0] := List.getElem?_eq_getElem (by omega)
    have hr : rootB l[0] = true := by simpa [h0] using h4
    have hq : ∀ (i : Nat) x, l[i]? = some x → (ndB x = true ∧ x.id < nx ∧ prevB l i x = true ∧ (0 < i → nmB x.name = true ∧ reachI l 4 x.parent = true) ∧ uniqB l i x = true) := by
      intro i x hx
      have := h i x hx
      simp only [okNi, Bool.and_eq_true, Bool.or_eq_true, decide_eq_true_eq] at this
      obtain ⟨⟨⟨⟨a, b⟩, c⟩, d⟩, e⟩ := this
      refine ⟨a, b, c, fun hi => ?_, e⟩
      rcases d with d | d
      · omega
      · exact d
    have hasc := asc_of fun i x hx => (hq i x hx).2.2.1
    have hroot : ∃ r, nd l 1 = some r ∧ r.dir = true ∧ r.id = 1 := by
      have e := rootB_iff.1 hr
      refine ⟨l[0], ?_, e.2.2.2.1, e.1⟩
      have := nd_at' hasc (List.mem_of_getElem? h0)
      rwa [e.1] at this
    refine ⟨by omega, by omega, by simpa using h3, ⟨_, h0, hr⟩, hasc, fun x hx => ?_, fun x hx => ?_, fun i x hi hx => ((hq i x hx).2.2.2.1 hi).1, fun i x hi hx => (hq i x hx).2.2.2.2, fun i x hi hx => (reachI_rIn hroot 3 x.parent).1 ((hq i x hx).2.2.2.1 hi).2⟩
    · obtain ⟨i, hi⟩ := List.getElem?_of_mem hx
      exact (hq i x hi).2.1
    · obtain ⟨i, hi⟩ := List.getElem?_of_mem hx
      exact (hq i x hi).1
  · intro H
    obtain ⟨r, h0, h1, _, h2, _, _, h3, _⟩ := H.rootNd
    have hr : rootB r = true := by obtain ⟨r', h0', hr⟩ := H.root; rw [h0] at h0'; cases h0'; exact hr
    refine ⟨⟨⟨⟨by have := H.len1; omega, by have := H.len2; omega⟩, by simpa using H.nxt⟩, by rw [h0]; exact hr⟩, fun i x hx => ?_⟩
    simp only [okNi, Bool.and_eq_true, Bool.or_eq_true, decide_eq_true_eq]
    refine ⟨⟨⟨⟨H.nds x (List.mem_of_getElem? hx), H.low x (List.mem_of_getElem? hx)⟩, (prevB_iff hx).2 fun y hi hy => H.asc (i - 1) y x hy (by rw [← hx]; congr 1; omega)⟩, ?_⟩, ?_⟩
    · by_cases c : i = 0
      · exact .inl c
      · exact .inr ⟨H.nms i x (by omega) hx, (reachI_rIn ⟨r, h1, h3, h2⟩ 3 x.parent).2 (H.up i x (by omega) hx)⟩
    · by_cases c : i = 0
      · subst c; simp [uniqB]
      · exact H.uniq i x (by omega) hx
theorem okTi_eq : okTi l nx = okT l nx := Bool.eq_iff_iff.2 (okTi_iff.trans okT_iff.symm)
end
end Go.Tm

/- What lies below a node; sums, schemas and room over it. No program in it. -/
namespace Go.Tm
open Go Go.Abs
set_option linter.unusedVariables false
set_option linter.unusedSimpArgs false
/-- So many steps lead to the root. -/
def Lead (l : List Nod) : Nat → Nod → Prop
  | 0, x => x.id = 1
  | k + 1, x => x.id = 1 ∨ ∃ y, nd l x.parent = some y ∧ Lead l k y
def belowF (l : List Nod) : Nat → Int → Int → Bool
  | 0, _, _ => false
  | n + 1, id, top => if id = top then true else match nd l id with
    | none => false
    | some x => belowF l n x.parent top
def below (l : List Nod) (id top : Int) : Bool := belowF l 15 id top
def belows (l : List Nod) (top : Int) : List Int := (l.filter fun x => below l x.id top).map (·.id)
def belowOf (t : Tree) (id : Int) : List Int := if okT t.nodes t.next = true ∧ (nd t.nodes id).isSome = true then belows t.nodes id else []
def w64 (x : Int) : Int := IntKind.i64.wrap x
theorem w64_def (n : Int) : w64 n = if 9223372036854775808 ≤ n % 18446744073709551616 then n % 18446744073709551616 - 18446744073709551616 else n % 18446744073709551616 := by
  unfold w64 IntKind.wrap
  simp [IntKind.bits, IntKind.signed]
theorem w64_add (a b : Int) : w64 (w64 a + b) = w64 (a + b) := by
  rw [w64_def (w64 a + b), w64_def (a + b), w64_def a]
  split <;> split <;> split <;> omega
theorem w64_sm {n : Int} (h : -9223372036854775808 ≤ n ∧ n ≤ 9223372036854775807) : w64 n = n := wrap_i64 h
def lenAt (l : List Nod) (id : Int) : Int := match nd l id with | some x => x.len | none => 0
def usedL (l : List Nod) (ks : List Int) (n : Int) : Int := ks.foldl (fun n k => w64 (n + lenAt l k)) n
def usedBelow (t : Tree) (id : Int) : Int := usedL t.nodes (belowOf t id) 0
def schF (l : List Nod) : Nat → Int → Int
  | 0, _ => 0
  | n + 1, id => match nd l id with
    | none => 0
    | some x => if x.schema = 0 then schF l n x.parent else x.schema
def schemaAt (t : Tree) (id : Int) : Int := if okT t.nodes t.next = true then schF t.nodes 15 id else 0
def roomF (t : Tree) (n : Int) : Nat → Bool → Int → Bool
  | 0, _, _ => false
  | k + 1, b, id => match nd t.nodes id with
    | none => b
    | some x => if x.dir = true ∧ 0 < x.quota ∧ w64 (x.quota - usedBelow t id) < n then false else roomF t n k true x.parent
def roomFor (t : Tree) (id n : Int) : Bool := if okT t.nodes t.next = true then roomF t n 15 false id else false
section
variable {l : List Nod} {nx : Int}
theorem rIn_lead (H : OkT l nx) : ∀ (n : Nat) (id : Int), dirAt l id = true → rIn l n id → ∃ y, nd l id = some y ∧ Lead l n y
  | 0, id, _, h => by
    obtain ⟨r, _, h1, _, h2, _⟩ := H.rootNd
    exact ⟨r, by rw [show id = 1 from h]; exact h1, h2⟩
  | n + 1, id, hd, h => by
    rcases h with h | ⟨y, hy, hd2, h⟩
    · obtain ⟨r, _, h1, _, h2, _⟩ := H.rootNd
      exact ⟨r, by rw [h]; exact h1, .inl h2⟩
    · refine ⟨y, hy, ?_⟩
      by_cases c : y.id = 1
      · exact .inl c
      · obtain ⟨j, hj⟩ := List.getElem?_of_mem (nd_mem hy).1
        exact .inr (rIn_lead H n y.parent (H.up j y (H.idx_pos hj c) hj).1 h)
/-- Each node leads to the root in four steps. -/
theorem OkT.lead (H : OkT l nx) {x : Nod} (hx : x ∈ l) : Lead l 4 x := by
  obtain ⟨i, hi⟩ := List.getElem?_of_mem hx
  by_cases c : x.id = 1
  · exact .inl c
  · have h := H.up i x (H.idx_pos hi c) hi
    exact .inr (rIn_lead H 3 x.parent h.1 h.2)
theorem OkT.nd_zero (H : OkT l nx) : nd l 0 = none := by
  cases h : nd l 0 with
  | none => rfl
  | some x => have := H.id_pos (nd_mem h).1; have := (nd_mem h).2; omega
theorem OkT.parent_one (H : OkT l nx) {x : Nod} (hx : x ∈ l) (h : x.id = 1) : x.parent = 0 := by
  obtain ⟨r, _, h1, _, _, h2, _⟩ := H.rootNd
  have := H.nd_self hx
  rw [h, h1] at this
  cases this; exact h2
theorem OkT.top_ne (H : OkT l nx) {top : Int} (h : (nd l top).isSome = true) : top ≠ 0 := by
  rintro rfl; rw [H.nd_zero] at h; cases h
theorem Lead.root_below (H : OkT l nx) {x : Nod} (hx : x ∈ l) (h : x.id = 1) {top : Int} (ht : top ≠ 0) (hne : x.id ≠ top) (n : Nat) : belowF l (n + 2) x.id top = false := by
  rw [belowF, if_neg hne, H.nd_self hx]
  simp only [belowF, H.parent_one hx h, H.nd_zero, if_neg (Ne.symm ht)]
/-- Enough steps are enough. -/
theorem belowF_more (H : OkT l nx) {top : Int} (ht : top ≠ 0) : ∀ (k : Nat) (x : Nod) (n m : Nat), x ∈ l → Lead l k x → k + 2 ≤ n → k + 2 ≤ m → belowF l n x.id top = belowF l m x.id top
  | k, x, n, m, hx, hk, hn, hm => by
    obtain ⟨n, rfl⟩ : ∃ n', n = n' + 2 := ⟨n - 2, by omega⟩
    obtain ⟨m, rfl⟩ : ∃ n', m = n' + 2 := ⟨m - 2, by omega⟩
    by_cases c : x.id = top
    · rw [belowF, belowF, if_pos c, if_pos c]
    · by_cases c1 : x.id = 1
      · rw [Lead.root_below H hx c1 ht c, Lead.root_below H hx c1 ht c]
      · cases k with
        | zero => exact absurd hk c1
        | succ k =>
          rcases hk with hk | ⟨y, hy, hk⟩
          · exact absurd hk c1
          · rw [belowF, belowF, if_neg c, if_neg c, H.nd_self hx]
            simp only []
            rw [← (nd_mem hy).2]
            exact belowF_more H ht k y (n + 1) (m + 1) (nd_mem hy).1 hk (by omega) (by omega)
theorem ndB_dir {x : Nod} (h : ndB x = true) (hd : x.dir = true) : inB x.schema 0 3 = true ∧ (0 ≤ x.quota ∧ x.quota ≤ 1000) ∧ x.len = 0 ∧ x.pieces = [] ∧ x.writer = 0 := by
  simp only [ndB, hd, if_true, dirB, Bool.and_eq_true, decide_eq_true_eq, inB_iff] at h
  exact ⟨inB_iff.2 h.1.1.1.1, h.1.1.1.2, h.1.1.2, List.length_eq_zero_iff.1 h.1.2, h.2⟩
theorem psum_nonneg {g : Int} : ∀ {q : List Pc}, q.all (pcB g) = true → 0 ≤ psum q
  | [], _ => by simp [psum]
  | p :: r, h => by
    simp only [List.all_cons, Bool.and_eq_true, pcB, inB_iff] at h
    have := psum_nonneg (g := g) (q := r) (by simpa [pcB, inB] using h.2)
    simp only [psum]; omega
theorem ndB_file {x : Nod} (h : ndB x = true) (hd : x.dir = false) : (1 ≤ x.schema ∧ x.schema ≤ 3) ∧ x.quota = 0 ∧ x.pieces.length ≤ 40 ∧ (0 ≤ x.writer ∧ x.writer ≤ 9) ∧ x.pieces.all (pcB (gs x.schema)) = true ∧ psum x.pieces = x.len ∧ 0 ≤ x.len ∧ x.len ≤ 1000 := by
  simp only [ndB, hd, Bool.false_eq_true, if_false, fileB, Bool.and_eq_true, decide_eq_true_eq, inB_iff] at h
  obtain ⟨⟨⟨⟨⟨⟨a, b⟩, c⟩, d⟩, e⟩, f⟩, g⟩ := h
  have := psum_nonneg e
  exact ⟨a, b, c, d, e, f, by omega, by omega⟩
theorem ndB_len {x : Nod} (h : ndB x = true) : 0 ≤ x.len ∧ x.len ≤ 1000 := by
  cases hd : x.dir with
  | true => have := (ndB_dir h hd).2.2.1; omega
  | false => have := (ndB_file h hd).2.2.2.2.2.2; exact this
end
theorem belowOf_len (t : Tree) (id : Int) : (belowOf t id).length ≤ t.nodes.length := by
  unfold belowOf belows
  split
  · rw [List.length_map]; exact List.length_filter_le _ _
  · simp
end Go.Tm

/- Rows that are turned element by element; texts' equality. -/
namespace Go.Tm
open Go Go.Abs
set_option linter.unusedVariables false
section
variable {α : Type}
/-- The first i elements of a, then those of b. -/
def mix (a b : List α) (i : Nat) : List α := a.take i ++ b.drop i
theorem mix_zero (a b : List α) : mix a b 0 = b := by simp [mix]
theorem mix_all {a b : List α} {i : Nat} (hl : a.length = b.length) (h : a.length ≤ i) : mix a b i = a := by
  simp [mix, List.take_of_length_le h, List.drop_eq_nil_of_le (hl ▸ h)]
theorem mix_len {a b : List α} (hl : a.length = b.length) (i : Nat) : (mix a b i).length = b.length := by
  simp [mix]; omega
theorem mix_at {a b : List α} {i : Nat} (hl : a.length = b.length) : (mix a b i)[i]? = b[i]? := by
  unfold mix
  by_cases h : i ≤ a.length
  · rw [List.getElem?_append_right (by simp; omega)]
    simp [Nat.min_eq_left h]
  · rw [List.getElem?_eq_none (by simp; omega), List.getElem?_eq_none (by omega)]
theorem mix_step {a b : List α} {i : Nat} {f : α → α} (hl : a.length = b.length) (h : a[i]? = (b[i]?).map f) : (mix a b i).modify i f = mix a b (i + 1) := by
  by_cases hi : i < b.length
  · have ha : i < a.length := by omega
    apply List.ext_getElem?
    intro j
    rw [List.getElem?_modify]
    by_cases hj : i = j
    · subst hj
      simp only [if_true]
      rw [mix_at hl]
      unfold mix
      rw [List.getElem?_append_left (by simp; omega), List.getElem?_take_of_lt (by omega), h]
      rfl
    · simp only [hj, if_false]
      have hid : (mix a b i)[j]? = (mix a b (i + 1))[j]? := by
        unfold mix
        rcases Nat.lt_or_gt_of_ne hj with c | c
        · rw [List.getElem?_append_right (by simp; omega), List.getElem?_append_right (by simp; omega)]
          simp only [List.length_take, Nat.min_eq_left (Nat.le_of_lt ha), Nat.min_eq_left (show i + 1 ≤ a.length by omega), List.getElem?_drop]
          congr 1; omega
        · rw [List.getElem?_append_left (by simp; omega), List.getElem?_append_left (by simp; omega), List.getElem?_take_of_lt c, List.getElem?_take_of_lt (by omega)]
      rw [hid]; simp
  · have hm : mix a b i = mix a b (i + 1) := by
      rw [mix_all hl (by omega), mix_all hl (by omega)]
    rw [← hm]
    apply List.ext_getElem?
    intro j
    rw [List.getElem?_modify]
    by_cases hj : i = j
    · subst hj
      rw [List.getElem?_eq_none (by rw [mix_len hl]; omega)]; rfl
    · simp [hj]
end
@[simp] theorem maxLen_eq : maxLen = 9223372036854775807 := rfl
@[simp] theorem size_mk (a : Array UInt8) : (ByteArray.mk a).size = a.size := rfl
@[simp] theorem take_map_len {α β : Type} (f : α → β) (p : List α) : (p.map f).take p.length = p.map f := List.take_of_length_le (by simp)
@[simp] theorem bytes_eq (s t : ByteArray) : (s.toList == t.toList) = decide (s = t) := by
  rw [Bool.eq_iff_iff, beq_iff_eq, decide_eq_true_eq]
  constructor
  · intro h
    rw [ByteArray.toList_eq, ByteArray.toList_eq] at h
    cases s; cases t
    congr 1
    exact Array.toList_inj.1 h
  · rintro rfl; rfl
@[simp] theorem bytes_isEmpty (s : ByteArray) : s.toList.isEmpty = decide (s = ⟨#[]⟩) := by
  rw [Bool.eq_iff_iff, List.isEmpty_iff, decide_eq_true_eq, ByteArray.toList_eq]
  constructor
  · intro h
    cases s with | mk d => cases d with | mk l => simp at h; subst h; rfl
  · rintro rfl; rfl
theorem bool_beq (a b : Bool) : (a == b) = decide (a = b) := by cases a <;> cases b <;> rfl
end Go.Tm

/- Marks that are laid into rows one behind the other, and looked for again. -/
namespace Go.Tm
open Go Go.Abs
set_option linter.unusedVariables false
section
variable {α : Type}
def scan (f : Int → α → α × Int) : Int → List α → List α × Int
  | k, [] => ([], k)
  | k, x :: r => ((f k x).1 :: (scan f (f k x).2 r).1, (scan f (f k x).2 r).2)
theorem scan_len (f : Int → α → α × Int) : ∀ (l : List α) (k : Int), (scan f k l).1.length = l.length
  | [], _ => rfl
  | x :: r, k => by simp [scan, scan_len f r]
theorem scan_at (f : Int → α → α × Int) : ∀ (l : List α) (k : Int) (i : Nat), (scan f k l).1[i]? = (l[i]?).map fun x => (f (scan f k (l.take i)).2 x).1
  | [], k, i => by simp [scan]
  | x :: r, k, 0 => by simp [scan]
  | x :: r, k, i + 1 => by simp [scan, scan_at f r]
theorem scan_take (f : Int → α → α × Int) : ∀ (l : List α) (k : Int) (i : Nat) (x : α), l[i]? = some x → (scan f k (l.take (i + 1))).2 = (f (scan f k (l.take i)).2 x).2
  | [], k, i, x, h => by simp at h
  | y :: r, k, 0, x, h => by simp at h; subst h; simp [scan]
  | y :: r, k, i + 1, x, h => by
    have := scan_take f r (f k y).2 i x (by simpa using h)
    simpa [scan] using this
def hscan (g : Int → α → Option Int) : Int → List α → Int
  | k, [] => k
  | k, x :: r => match g k x with
    | none => -1
    | some k' => hscan g k' r
/-- What was laid is found. -/
theorem hscan_scan (f : Int → α → α × Int) (g : Int → α → Option Int) (P : Int → Nat → Prop) : ∀ (l : List α) (k : Int) (n : Nat), (∀ k n x, x ∈ l → P k (n + 1) → g k (f k x).1 = some (f k x).2 ∧ P (f k x).2 n) → P k (l.length + n) → hscan g k (scan f k l).1 = (scan f k l).2 ∧ P (scan f k l).2 n
  | [], k, n, h, hp => ⟨rfl, by simpa [scan] using hp⟩
  | x :: r, k, n, h, hp => by
    have h1 := h k (r.length + n) x (by simp) (by simpa [Nat.add_right_comm] using hp)
    have h2 := hscan_scan f g P r (f k x).2 n (fun k n y hy hk => h k n y (by simp [hy]) hk) h1.2
    simp only [scan, hscan, h1.1]
    exact h2
end
theorem w64_eq {n : Int} (h : -9223372036854775808 ≤ n ∧ n ≤ 9223372036854775807) : w64 n = n := wrap_i64 h
def mkInt (k : Int) (_ : Int) : Int × Int := (k, w64 (k + 1))
def hdInt (k : Int) (x : Int) : Option Int := if x = k then some (w64 (k + 1)) else none
def mkPc (k : Int) (_ : Pc) : Pc × Int := (⟨k, w64 (k + 1)⟩, w64 (w64 (k + 1) + 1))
def hdPc (k : Int) (p : Pc) : Option Int := if p.group = k then (if p.len = w64 (k + 1) then some (w64 (w64 (k + 1) + 1)) else none) else none
/-- Room for so many more marks, each of at most c steps. -/
def Rm (c : Nat) (k : Int) (n : Nat) : Prop := 0 ≤ k ∧ k + n * c ≤ 9223372036854775807
theorem marks_int (l : List Int) (k : Int) (h : 0 ≤ k ∧ k + l.length ≤ 9223372036854775807) : hscan hdInt k (scan mkInt k l).1 = (scan mkInt k l).2 ∧ 0 ≤ (scan mkInt k l).2 := by
  have := hscan_scan mkInt hdInt (Rm 1) l k 0 (fun k n x _ hp => by
    obtain ⟨h1, h2⟩ := hp
    refine ⟨by simp [mkInt, hdInt], ?_⟩
    simp only [mkInt, Rm]
    rw [w64_eq (by omega)]
    omega) ⟨h.1, by omega⟩
  exact ⟨this.1, this.2.1⟩
theorem marks_pc (l : List Pc) (k : Int) (h : 0 ≤ k ∧ k + l.length * 2 ≤ 9223372036854775807) : hscan hdPc k (scan mkPc k l).1 = (scan mkPc k l).2 ∧ 0 ≤ (scan mkPc k l).2 ∧ (scan mkPc k l).2 = k + l.length * 2 := by
  have := hscan_scan mkPc hdPc (fun j n => 0 ≤ j ∧ j + n * 2 = k + l.length * 2) l k 0 (fun k n x _ hp => by
    obtain ⟨h1, h2⟩ := hp
    refine ⟨by simp [mkPc, hdPc], ?_⟩
    simp only [mkPc]
    rw [w64_eq (n := k + 1) (by omega), w64_eq (by omega)]
    omega) ⟨h.1, by omega⟩
  obtain ⟨h1, h2, h3⟩ := this
  exact ⟨h1, h2, by omega⟩
def mkDig : Nat → Int → ByteArray → ByteArray
  | 0, _, o => o
  | n + 1, k, o => if 0 < k then mkDig n (k.tdiv 10) (bytesText [IntKind.u8.wrap (w64 (48 + k.tmod 10))] ++ o) else o
/-- The text of a mark's number. -/
def mkText (k : Int) : ByteArray := if k ≤ 0 then ⟨#[109, 48]⟩ else ⟨#[109]⟩ ++ mkDig k.toNat k ⟨#[]⟩
theorem w64_le (n : Int) : w64 n ≤ 9223372036854775807 := by
  unfold w64 IntKind.wrap
  simp [IntKind.bits, IntKind.signed]
  omega
def dirBit (k : Int) : Bool := decide (k.tmod 3 = 0)
@[simp] theorem dirBit_eq (k : Int) [inst : Decidable (k.tmod 3 = 0)] : decide (k.tmod 3 = 0) = dirBit k := by unfold dirBit; congr
def mkNod (k : Int) (x : Nod) : Nod × Int :=
  let k2 := w64 (w64 (k + 1) + 1)
  let k7 := w64 (w64 (w64 (w64 (w64 (k2 + 1) + 1) + 1) + 1) + 1)
  let q := scan mkPc k7 x.pieces
  (⟨k, w64 (k + 1), mkText k2, dirBit (w64 (k2 + 1)), w64 (w64 (k2 + 1) + 1), w64 (w64 (w64 (k2 + 1) + 1) + 1), w64 (w64 (w64 (w64 (k2 + 1) + 1) + 1) + 1), q.1, q.2⟩, w64 (q.2 + 1))
def hdNod (k : Int) (x : Nod) : Option Int :=
  let k2 := w64 (w64 (k + 1) + 1)
  let k3 := w64 (k2 + 1)
  let k4 := w64 (k3 + 1)
  let k5 := w64 (k4 + 1)
  let k6 := w64 (k5 + 1)
  let k7 := w64 (k6 + 1)
  let q := hscan hdPc k7 x.pieces
  if x.id = k then if x.parent = w64 (k + 1) then if x.name = mkText k2 then if x.dir = dirBit k3 then if x.schema = k4 then if x.quota = k5 then if x.len = k6 then if q < 0 then none else if x.writer = q then some (w64 (q + 1)) else none else none else none else none else none else none else none else none
theorem marks_nod (l : List Nod) (k : Int) (h : 0 ≤ k ∧ k + l.length * 2097160 ≤ 9223372036854775807) (hp : ∀ x ∈ l, x.pieces.length ≤ 1048576) : hscan hdNod k (scan mkNod k l).1 = (scan mkNod k l).2 ∧ 0 ≤ (scan mkNod k l).2 := by
  have := hscan_scan mkNod hdNod (Rm 2097160) l k 0 (fun k n x hx hk => by
    obtain ⟨h1, h2⟩ := hk
    have hl := hp x hx
    have e1 : w64 (k + 1) = k + 1 := w64_eq (by omega)
    have e2 : w64 (k + 1 + 1) = k + 1 + 1 := w64_eq (by omega)
    have e3 : w64 (k + 1 + 1 + 1) = k + 1 + 1 + 1 := w64_eq (by omega)
    have e4 : w64 (k + 1 + 1 + 1 + 1) = k + 1 + 1 + 1 + 1 := w64_eq (by omega)
    have e5 : w64 (k + 1 + 1 + 1 + 1 + 1) = k + 1 + 1 + 1 + 1 + 1 := w64_eq (by omega)
    have e6 : w64 (k + 1 + 1 + 1 + 1 + 1 + 1) = k + 1 + 1 + 1 + 1 + 1 + 1 := w64_eq (by omega)
    have e7 : w64 (k + 1 + 1 + 1 + 1 + 1 + 1 + 1) = k + 1 + 1 + 1 + 1 + 1 + 1 + 1 := w64_eq (by omega)
    obtain ⟨p1, p2, p3⟩ := marks_pc x.pieces (k + 1 + 1 + 1 + 1 + 1 + 1 + 1) (by omega)
    have e8 : w64 ((scan mkPc (k + 1 + 1 + 1 + 1 + 1 + 1 + 1) x.pieces).2 + 1) = (scan mkPc (k + 1 + 1 + 1 + 1 + 1 + 1 + 1) x.pieces).2 + 1 := w64_eq (by omega)
    have hn : ¬ (scan mkPc (k + 1 + 1 + 1 + 1 + 1 + 1 + 1) x.pieces).2 < 0 := by omega
    simp only [mkNod, hdNod, e1, e2, e3, e4, e5, e6, e7, p1, e8, if_true, hn, if_false, Rm, true_and]
    omega) ⟨h.1, by omega⟩
  exact ⟨this.1, this.2.1⟩
end Go.Tm

/- Sorted lists: put together one by one, or sorted at once. -/
namespace Go.Tm
open Go Go.Abs
set_option linter.unusedVariables false
section
variable {α : Type}
def insG (le : α → α → Bool) (x : α) (o : List α) : List α := o.filter (fun y => le y x) ++ x :: o.filter (fun y => !le y x)
def insSort (le : α → α → Bool) (l : List α) : List α := l.foldl (fun o x => insG le x o) []
structure LinB (le : α → α → Bool) : Prop where
  tot : ∀ a b, (le a b || le b a) = true
  tr : ∀ a b c, le a b = true → le b c = true → le a c = true
  anti : ∀ a b, le a b = true → le b a = true → a = b
variable {le : α → α → Bool}
theorem insG_perm (x : α) (o : List α) : (insG le x o).Perm (x :: o) := by
  unfold insG
  refine List.perm_middle.trans (List.Perm.cons x ?_)
  exact List.filter_append_perm _ o
theorem insG_sorted (h : LinB le) (x : α) {o : List α} (ho : o.Pairwise fun a b => le a b = true) : (insG le x o).Pairwise fun a b => le a b = true := by
  unfold insG
  rw [List.pairwise_append]
  refine ⟨ho.filter _, ?_, fun a ha b hb => ?_⟩
  · rw [List.pairwise_cons]
    refine ⟨fun b hb => ?_, ho.filter _⟩
    have := (List.mem_filter.1 hb).2
    have := h.tot x b
    simp_all
  · have h1 := (List.mem_filter.1 ha).2
    rcases List.mem_cons.1 hb with rfl | hb
    · exact h1
    · have h2 := (List.mem_filter.1 hb).2
      have h3 := h.tot x b
      exact h.tr a x b h1 (by simp_all)
theorem insSort_ok (h : LinB le) : ∀ (l o : List α), o.Pairwise (fun a b => le a b = true) → (l.foldl (fun o x => insG le x o) o).Pairwise (fun a b => le a b = true) ∧ (l.foldl (fun o x => insG le x o) o).Perm (o ++ l)
  | [], o, ho => ⟨ho, by simp⟩
  | x :: r, o, ho => by
    have h1 := insSort_ok h r (insG le x o) (insG_sorted h x ho)
    refine ⟨h1.1, h1.2.trans ?_⟩
    refine ((insG_perm x o).append_right r).trans ?_
    simpa using (List.perm_middle (a := x) (l₁ := o) (l₂ := r)).symm
theorem insSort_eq (h : LinB le) (l : List α) : insSort le l = l.mergeSort le := by
  have h1 := insSort_ok h l [] .nil
  refine List.Perm.eq_of_pairwise (le := fun a b => le a b = true) (fun a b _ _ => h.anti a b) h1.1 (List.pairwise_mergeSort h.tr h.tot l) ?_
  exact (show (insSort le l).Perm l by simpa [insSort] using h1.2).trans (List.mergeSort_perm l le).symm
end
def leN (s t : ByteArray) : Bool := decide (s.toList ≤ t.toList)
theorem toList_inj {s t : ByteArray} (h : s.toList = t.toList) : s = t := by
  have := bytes_eq s t
  simpa [h] using this
theorem leN_lin : LinB leN := ⟨fun a b => by simpa [leN] using List.le_total a.toList b.toList, fun a b c => by simpa [leN] using List.le_trans, fun a b h1 h2 => toList_inj (by
  simp only [leN, decide_eq_true_eq] at h1 h2
  exact List.le_antisymm h1 h2)⟩
@[simp] theorem le_code (s t : ByteArray) : (Op.bytesLess s.toList t.toList || decide (s = t)) = leN s t := by
  rw [Go.Proofs.bytesLess_eq, Bool.eq_iff_iff]
  simp only [Bool.or_eq_true, decide_eq_true_eq, leN, List.le_iff_lt_or_eq]
  constructor
  · rintro (h | rfl)
    · exact .inl h
    · exact .inr rfl
  · rintro (h | h)
    · exact .inl h
    · exact .inr (toList_inj h)
theorem sort_names (l : List ByteArray) : (l.map ByteArray.toList).mergeSort (fun x y => decide (x ≤ y)) = (l.mergeSort leN).map ByteArray.toList := by
  have h1 := List.pairwise_mergeSort (le := fun x y : List UInt8 => decide (x ≤ y)) (fun a b c => by simpa using List.le_trans) (fun a b => by simpa using List.le_total a b) (l.map ByteArray.toList)
  have h2 := List.pairwise_mergeSort (le := leN) leN_lin.tr leN_lin.tot l
  refine List.Perm.eq_of_pairwise (le := fun a b => decide (a ≤ b) = true) (fun a b _ _ h3 h4 => by simp only [decide_eq_true_eq] at h3 h4; exact List.le_antisymm h3 h4) h1 (List.pairwise_map.2 (h2.imp fun h => h)) ?_
  exact (List.mergeSort_perm _ _).trans ((List.mergeSort_perm l leN).symm.map _)
def kidNames (l : List Nod) (id : Int) : List ByteArray := (l.filter fun x => decide (x.parent = id)).map (·.name)
def kidsOf (t : Tree) (id : Int) : List ByteArray := if okT t.nodes t.next = true then insSort leN (kidNames t.nodes id) else []
theorem insG_len {α : Type} {le : α → α → Bool} (x : α) (o : List α) : (insG le x o).length = o.length + 1 := (insG_perm x o).length_eq
theorem filter_take' {α : Type} {p : α → Bool} {l : List α} {i : Nat} {x : α} (hx : l[i]? = some x) : (l.take (i + 1)).filter p = (l.take i).filter p ++ (if p x = true then [x] else []) := by
  rw [List.take_add_one, List.filter_append, hx]
  cases h : p x <;> simp [h]
theorem kidNames_take {l : List Nod} {i : Nat} {x : Nod} (hx : l[i]? = some x) (id : Int) : kidNames (l.take (i + 1)) id = kidNames (l.take i) id ++ (if x.parent = id then [x.name] else []) := by
  unfold kidNames
  rw [filter_take' hx, List.map_append]
  by_cases h : x.parent = id <;> simp [h]
theorem insSort_snoc {α : Type} (le : α → α → Bool) (l : List α) (x : α) : insSort le (l ++ [x]) = insG le x (insSort le l) := by simp [insSort]
theorem kidsOf_len (t : Tree) (id : Int) : (kidsOf t id).length ≤ t.nodes.length := by
  unfold kidsOf
  split
  · rw [insSort_eq leN_lin, List.length_mergeSort]
    unfold kidNames
    rw [List.length_map]; exact List.length_filter_le _ _
  · simp
end Go.Tm

/- Groups of files: numbers put together ascending, each once. -/
namespace Go.Tm
open Go Go.Abs
set_option linter.unusedVariables false
/-- Strictly ascending lists with the same members are one. -/
theorem asc_ext : ∀ (a b : List Int), a.Pairwise (· < ·) → b.Pairwise (· < ·) → (∀ x, x ∈ a ↔ x ∈ b) → a = b
  | [], [], _, _, _ => rfl
  | [], y :: b, _, _, h => absurd ((h y).2 (by simp)) (by simp)
  | x :: a, [], _, _, h => absurd ((h x).1 (by simp)) (by simp)
  | x :: a, y :: b, ha, hb, h => by
    rw [List.pairwise_cons] at ha hb
    have e : x = y := by
      have h1 := (h x).1 (by simp)
      have h2 := (h y).2 (by simp)
      rcases List.mem_cons.1 h1 with h1 | h1
      · exact h1
      · rcases List.mem_cons.1 h2 with h2 | h2
        · exact h2.symm
        · have := ha.1 y h2; have := hb.1 x h1; omega
    subst e
    congr 1
    refine asc_ext a b ha.2 hb.2 fun z => ⟨fun hz => ?_, fun hz => ?_⟩
    · rcases List.mem_cons.1 ((h z).1 (by simp [hz])) with rfl | h3
      · exact absurd (ha.1 z hz) (by omega)
      · exact h3
    · rcases List.mem_cons.1 ((h z).2 (by simp [hz])) with rfl | h3
      · exact absurd (hb.1 z hz) (by omega)
      · exact h3
def insI (x : Int) (o : List Int) : List Int := o.filter (fun y => decide (y < x)) ++ x :: o.filter (fun y => decide (x < y))
def gSet (l : List Int) : List Int := l.foldl (fun o x => insI x o) []
theorem insI_mem (x z : Int) (o : List Int) : z ∈ insI x o ↔ z = x ∨ z ∈ o := by
  unfold insI
  simp only [List.mem_append, List.mem_cons, List.mem_filter, decide_eq_true_eq]
  constructor
  · rintro (⟨h, _⟩ | h | ⟨h, _⟩)
    · exact .inr h
    · exact .inl h
    · exact .inr h
  · rintro (h | h)
    · exact .inr (.inl h)
    · rcases Int.lt_trichotomy z x with c | c | c
      · exact .inl ⟨h, c⟩
      · exact .inr (.inl c)
      · exact .inr (.inr ⟨h, c⟩)
theorem insI_asc (x : Int) {o : List Int} (h : o.Pairwise (· < ·)) : (insI x o).Pairwise (· < ·) := by
  unfold insI
  rw [List.pairwise_append]
  refine ⟨h.filter _, ?_, fun a ha b hb => ?_⟩
  · rw [List.pairwise_cons]
    exact ⟨fun b hb => by simpa using (List.mem_filter.1 hb).2, h.filter _⟩
  · have h1 : a < x := by simpa using (List.mem_filter.1 ha).2
    rcases List.mem_cons.1 hb with rfl | hb
    · exact h1
    · have h2 : x < b := by simpa using (List.mem_filter.1 hb).2
      omega
theorem gSet_spec : ∀ (l o : List Int), o.Pairwise (· < ·) → (l.foldl (fun o x => insI x o) o).Pairwise (· < ·) ∧ ∀ z, z ∈ l.foldl (fun o x => insI x o) o ↔ z ∈ o ∨ z ∈ l
  | [], o, ho => ⟨ho, by simp⟩
  | x :: r, o, ho => by
    have h := gSet_spec r (insI x o) (insI_asc x ho)
    refine ⟨h.1, fun z => ?_⟩
    rw [List.foldl_cons, h.2 z, insI_mem]
    simp only [List.mem_cons]
    constructor
    · rintro ((h | h) | h)
      · exact .inr (.inl h)
      · exact .inl h
      · exact .inr (.inr h)
    · rintro (h | h | h)
      · exact .inl (.inr h)
      · exact .inl (.inl h)
      · exact .inr h
theorem compact_spec (d : Array Int) (hd : ∀ j, j + 1 < d.size → d[j]! ≤ d[j + 1]!) : ∀ m, m ≤ d.size → (Lib.compactUpTo d m).Pairwise (· < ·) ∧ (∀ x, x ∈ Lib.compactUpTo d m ↔ ∃ j, j < m ∧ d[j]! = x) ∧ ∀ x ∈ Lib.compactUpTo d m, x ≤ d[m - 1]!
  | 0, _ => by simp [Lib.compactUpTo]
  | m + 1, hm => by
    obtain ⟨h1, h2, h3⟩ := compact_spec d hd m (by omega)
    rw [Lib.compactUpTo_succ]
    by_cases hk : Lib.keeps d m = true
    · rw [if_pos hk]
      have hlt : ∀ x ∈ Lib.compactUpTo d m, x < d[m]! := fun x hx => by
        obtain ⟨j, hj, _⟩ := (h2 x).1 hx
        have := h3 x hx
        have h4 := hd (m - 1) (by omega)
        rw [show m - 1 + 1 = m by omega] at h4
        simp only [Lib.keeps, decide_eq_true_eq] at hk
        rcases hk with hk | hk <;> omega
      refine ⟨?_, fun x => ?_, fun x hx => ?_⟩
      · rw [List.pairwise_append]
        exact ⟨h1, by simp, fun a ha b hb => by simp at hb; subst hb; exact hlt a ha⟩
      · rw [List.mem_append, h2]
        constructor
        · rintro (⟨j, hj, e⟩ | hx)
          · exact ⟨j, by omega, e⟩
          · simp at hx; exact ⟨m, by omega, hx.symm⟩
        · rintro ⟨j, hj, e⟩
          by_cases c : j = m
          · subst c; right; simp [e]
          · left; exact ⟨j, by omega, e⟩
      · rw [show m + 1 - 1 = m by omega]
        rcases List.mem_append.1 hx with hx | hx
        · exact Int.le_of_lt (hlt x hx)
        · simp at hx; omega
    · rw [if_neg hk, List.append_nil]
      simp only [Lib.keeps, decide_eq_true_eq, not_or, ne_eq, Decidable.not_not] at hk
      refine ⟨h1, fun x => ?_, fun x hx => ?_⟩
      · rw [h2]
        constructor
        · rintro ⟨j, hj, e⟩; exact ⟨j, by omega, e⟩
        · rintro ⟨j, hj, e⟩
          by_cases c : j = m
          · subst c; exact ⟨j - 1, by omega, by rw [← hk.2]; exact e⟩
          · exact ⟨j, by omega, e⟩
      · rw [show m + 1 - 1 = m by omega, hk.2]; exact h3 x hx
theorem compact_sort (l : List Int) : Lib.compact (l.mergeSort fun x y => decide (x ≤ y)) = gSet l := by
  have hs := List.pairwise_mergeSort (le := fun x y : Int => decide (x ≤ y)) (fun a b c => by simp; omega) (fun a b => by simp; omega) l
  generalize hq : l.mergeSort (fun x y => decide (x ≤ y)) = q at hs
  have hd : ∀ j, j + 1 < q.toArray.size → q.toArray[j]! ≤ q.toArray[j + 1]! := fun j hj => by
    have hj2 : j + 1 < q.length := by simpa using hj
    have := List.pairwise_iff_getElem.1 hs j (j + 1) (by omega) hj2 (by omega)
    simp only [decide_eq_true_eq] at this
    rw [getElem!_pos _ _ (by simpa using (show j < q.length by omega)), getElem!_pos _ _ (by simpa using hj2)]
    simpa using this
  obtain ⟨h1, h2, _⟩ := compact_spec q.toArray hd q.length (by simp)
  have h3 := gSet_spec l [] .nil
  refine asc_ext _ _ h1 h3.1 fun x => ?_
  rw [show Lib.compact q = Lib.compactUpTo q.toArray q.length from rfl, show gSet l = l.foldl (fun o x => insI x o) [] from rfl, h2, h3.2]
  have hp : ∀ x, x ∈ q ↔ x ∈ l := fun x => by rw [← hq]; exact (List.mergeSort_perm l _).mem_iff
  simp only [List.not_mem_nil, false_or]
  rw [← hp x]
  constructor
  · rintro ⟨j, hj, e⟩
    rw [getElem!_pos _ _ (by simpa using hj)] at e
    rw [← e]; simp
  · intro hx
    obtain ⟨j, hj, e⟩ := List.getElem_of_mem hx
    exact ⟨j, hj, by rw [getElem!_pos _ _ (by simpa using hj)]; simpa using e⟩
def grpAt (l : List Nod) (k : Int) : List Int := match nd l k with | some x => x.pieces.map (·.group) | none => []
def groupsL (l : List Nod) (ks : List Int) : List Int := ks.flatMap (grpAt l)
def groupsOf (t : Tree) (id : Int) : List Int := gSet (groupsL t.nodes (belowOf t id))
theorem mem_belowOf {t : Tree} {id k : Int} (h : k ∈ belowOf t id) : okT t.nodes t.next = true ∧ ∃ x ∈ t.nodes, x.id = k := by
  unfold belowOf at h
  split at h
  · rename_i hc
    unfold belows at h
    obtain ⟨x, hx, rfl⟩ := List.mem_map.1 h
    exact ⟨hc.1, x, (List.mem_filter.1 hx).1, rfl⟩
  · simp at h
theorem ndB_pieces {x : Nod} (h : ndB x = true) : x.pieces.length ≤ 40 := by
  cases hd : x.dir with
  | true => have := (ndB_dir h hd).2.2.2.1; simp [this]
  | false => exact (ndB_file h hd).2.2.1
theorem insI_len (x : Int) (o : List Int) : (insI x o).length ≤ o.length + 1 := by
  unfold insI
  have h : ∀ o : List Int, (o.filter (fun y => decide (y < x))).length + (o.filter (fun y => decide (x < y))).length ≤ o.length := by
    intro o
    induction o with
    | nil => simp
    | cons y r ih =>
      simp only [List.filter_cons, List.length_cons]
      by_cases h1 : y < x <;> by_cases h2 : x < y <;> simp [h1, h2] <;> omega
  have := h o
  simp; omega
theorem gSet_app (a b : List Int) : gSet (a ++ b) = b.foldl (fun o x => insI x o) (gSet a) := by simp [gSet]
theorem groupsL_take {l : List Nod} {ks : List Int} {i : Nat} {k : Int} (hk : ks[i]? = some k) : groupsL l (ks.take (i + 1)) = groupsL l (ks.take i) ++ grpAt l k := by
  unfold groupsL
  rw [List.take_add_one, hk]; simp
theorem groupsL_len {l : List Nod} (h : ∀ x ∈ l, ndB x = true) : ∀ (ks : List Int), (groupsL l ks).length ≤ 40 * ks.length
  | [] => by simp [groupsL]
  | k :: r => by
    have := groupsL_len h r
    unfold groupsL at this ⊢
    simp only [List.flatMap_cons, List.length_append, List.length_cons]
    have h2 : (grpAt l k).length ≤ 40 := by
      unfold grpAt
      cases hn : nd l k with
      | none => simp
      | some x => simpa using ndB_pieces (h x (nd_mem hn).1)
    omega
theorem gSet_len (l : List Int) : ∀ (o : List Int), (l.foldl (fun o x => insI x o) o).length ≤ o.length + l.length := by
  induction l with
  | nil => simp
  | cons x r ih => intro o; have := ih (insI x o); have := insI_len x o; simp only [List.foldl_cons, List.length_cons]; omega
theorem groupsOf_len (t : Tree) (id : Int) : (groupsOf t id).length ≤ 40 * t.nodes.length := by
  unfold groupsOf
  cases hb : belowOf t id with
  | nil => simp [groupsL, gSet]
  | cons k r =>
    have h1 := (mem_belowOf (t := t) (id := id) (k := k) (by rw [hb]; simp)).1
    have h2 := groupsL_len (okT_iff.1 h1).nds (k :: r)
    have h3 := gSet_len (groupsL t.nodes (k :: r)) []
    have h4 := belowOf_len t id
    rw [hb] at h4
    simp only [gSet]
    simp only [List.length_nil] at h3
    omega
end Go.Tm

/- Records, files, acts: plain. -/
namespace Go.Tm
open Go Go.Abs
set_option linter.unusedVariables false
structure Edt where
  kind : Int
  path : ByteArray
  to : ByteArray
  num : Int
  who : Int
structure Fil where
  name : ByteArray
  text : ByteArray
  kept : Int
structure Akt where
  kind : Int
  name : ByteArray
  text : ByteArray
  to : ByteArray
noncomputable instance : DecidableEq Edt := fun _ _ => Classical.propDecidable _
noncomputable instance : DecidableEq Fil := fun _ _ => Classical.propDecidable _
noncomputable instance : DecidableEq Akt := fun _ _ => Classical.propDecidable _
def mkEdt (k : Int) (_ : Edt) : Edt × Int := (⟨k, mkText (w64 (k + 1)), mkText (w64 (w64 (k + 1) + 1)), w64 (w64 (w64 (k + 1) + 1) + 1), w64 (w64 (w64 (w64 (k + 1) + 1) + 1) + 1)⟩, w64 (w64 (w64 (w64 (w64 (k + 1) + 1) + 1) + 1) + 1))
def mkFil (k : Int) (_ : Fil) : Fil × Int := (⟨mkText k, mkText (w64 (k + 1)), w64 (w64 (k + 1) + 1)⟩, w64 (w64 (w64 (k + 1) + 1) + 1))
def mkAkt (k : Int) (_ : Akt) : Akt × Int := (⟨k, mkText (w64 (k + 1)), mkText (w64 (w64 (k + 1) + 1)), mkText (w64 (w64 (w64 (k + 1) + 1) + 1))⟩, w64 (w64 (w64 (w64 (k + 1) + 1) + 1) + 1))
def hdAkt (k : Int) (x : Akt) : Option Int :=
  if x.kind = k then if x.name = mkText (w64 (k + 1)) then if x.text = mkText (w64 (w64 (k + 1) + 1)) then if x.to = mkText (w64 (w64 (w64 (k + 1) + 1) + 1)) then some (w64 (w64 (w64 (w64 (k + 1) + 1) + 1) + 1)) else none else none else none else none
theorem marks_pos {α : Type} (f : Int → α → α × Int) (c : Nat) (hf : ∀ k x n, Rm c k (n + 1) → Rm c (f k x).2 n) (l : List α) (k : Int) (h : Rm c k l.length) : 0 ≤ (scan f k l).2 := by
  induction l generalizing k with
  | nil => exact h.1
  | cons x r ih => exact ih (f k x).2 (hf k x r.length (by simpa using h))
theorem marks_edt (l : List Edt) (k : Int) (h : 0 ≤ k ∧ k + l.length * 5 ≤ 9223372036854775807) : 0 ≤ (scan mkEdt k l).2 :=
  marks_pos mkEdt 5 (fun k x n hk => by
    obtain ⟨h1, h2⟩ := hk
    simp only [mkEdt, Rm]
    rw [w64_eq (n := k + 1) (by omega), w64_eq (n := k + 1 + 1) (by omega), w64_eq (n := k + 1 + 1 + 1) (by omega), w64_eq (n := k + 1 + 1 + 1 + 1) (by omega), w64_eq (by omega)]
    omega) l k ⟨h.1, by omega⟩
theorem marks_fil (l : List Fil) (k : Int) (h : 0 ≤ k ∧ k + l.length * 3 ≤ 9223372036854775807) : 0 ≤ (scan mkFil k l).2 :=
  marks_pos mkFil 3 (fun k x n hk => by
    obtain ⟨h1, h2⟩ := hk
    simp only [mkFil, Rm]
    rw [w64_eq (n := k + 1) (by omega), w64_eq (n := k + 1 + 1) (by omega), w64_eq (by omega)]
    omega) l k ⟨h.1, by omega⟩
theorem marks_akt (l : List Akt) (k : Int) (h : 0 ≤ k ∧ k + l.length * 4 ≤ 9223372036854775807) : hscan hdAkt k (scan mkAkt k l).1 = (scan mkAkt k l).2 ∧ 0 ≤ (scan mkAkt k l).2 := by
  have := hscan_scan mkAkt hdAkt (Rm 4) l k 0 (fun k n x _ hp => by
    obtain ⟨h1, h2⟩ := hp
    refine ⟨by simp [mkAkt, hdAkt], ?_⟩
    simp only [mkAkt, Rm]
    rw [w64_eq (n := k + 1) (by omega), w64_eq (n := k + 1 + 1) (by omega), w64_eq (n := k + 1 + 1 + 1) (by omega), w64_eq (by omega)]
    omega) ⟨h.1, by omega⟩
  exact ⟨this.1, this.2.1⟩
end Go.Tm

/- Paths: names between slashes. -/
namespace Go.Tm
open Go Go.Abs
set_option linter.unusedVariables false
set_option linter.unusedSimpArgs false
def slash : ByteArray := ⟨#[47]⟩
@[simp] theorem str_one (p : ByteArray) : (p.toList == [47]) = decide (p = slash) := by
  rw [ByteArray.toList_eq]
  by_cases h : p = slash
  · subst h; rfl
  · have : p.data.toList ≠ [47] := fun c => h (by
      cases p with | mk d =>
      have : d = #[47] := Array.toList_inj.1 (by simpa using c)
      rw [this]; rfl)
    simp [h, this]
/-- The names from b on; what is before i has no slash. -/
def segs (p : ByteArray) : Nat → Nat → Nat → List ByteArray
  | 0, b, i => [p.extract b i]
  | n + 1, b, i => if byteAt p i = 47 then p.extract b i :: segs p n (i + 1) (i + 1) else segs p n b (i + 1)
def rest (p : ByteArray) (b i : Nat) : List ByteArray := if i ≤ p.size then segs p (p.size - i) b i else []
def finP (l : List ByteArray) : Option (List ByteArray) := if l.all nmB = true ∧ l.length ≤ 4 then some l else none
def splitP (p : ByteArray) : Option (List ByteArray) := if p.size = 0 ∨ byteAt p 0 ≠ 47 then none else if p = slash then some [] else finP (rest p 1 1)
theorem rest_end {p : ByteArray} {b i : Nat} (h : p.size < i) : rest p b i = [] := by unfold rest; rw [if_neg (by omega)]
theorem rest_last {p : ByteArray} {b i : Nat} (h : i = p.size) : rest p b i = [p.extract b i] := by subst h; simp [rest, segs]
theorem rest_hit {p : ByteArray} {b i : Nat} (h : i < p.size) (hc : byteAt p i = 47) : rest p b i = p.extract b i :: rest p (i + 1) (i + 1) := by
  unfold rest
  rw [if_pos (by omega), if_pos (by omega), show p.size - i = (p.size - (i + 1)) + 1 by omega, segs, if_pos hc]
theorem rest_miss {p : ByteArray} {b i : Nat} (h : i < p.size) (hc : ¬ byteAt p i = 47) : rest p b i = rest p b (i + 1) := by
  unfold rest
  rw [if_pos (by omega), if_pos (by omega), show p.size - i = (p.size - (i + 1)) + 1 by omega, segs, if_neg hc]
theorem finP_bad {a : List ByteArray} {x : ByteArray} {r : List ByteArray} (h : nmB x = false) : finP (a ++ x :: r) = none := by
  unfold finP
  rw [if_neg]
  rintro ⟨h1, _⟩
  rw [List.all_append, List.all_cons, h] at h1
  simp at h1
def joinF (s : ByteArray) (l : List ByteArray) : ByteArray := l.foldl (fun s x => s ++ slash ++ x) s
def joinP (l : List ByteArray) : ByteArray := if l.length = 0 then slash else joinF ⟨#[]⟩ l
def parentP (p : ByteArray) : Option (ByteArray × ByteArray) := match splitP p with
  | none => none
  | some l => match l.getLast? with
    | none => none
    | some x => some (joinP l.dropLast, x)
def namedP (p : ByteArray) : Bool := (parentP p).isSome
def editB (e : Edt) : Bool :=
  if inB e.kind 1 10 = false then false
  else if e.kind = 10 then decide (e.path = slash ∧ e.to = ⟨#[]⟩ ∧ e.num = 0 ∧ e.who = 0)
  else if (namedP e.path = false ∧ ¬ ((e.kind = 5 ∨ e.kind = 6) ∧ e.path = slash)) ∨ (decide (e.kind = 3) ≠ namedP e.to) ∨ (e.kind ≠ 3 ∧ e.to ≠ ⟨#[]⟩) then false
  else if e.kind = 5 then inB e.num 1 3 && decide (e.who = 0)
  else if e.kind = 6 then inB e.num 0 1000 && decide (e.who = 0)
  else if e.kind = 7 then inB e.num 1 200 && decide (e.who = 0)
  else if e.kind = 2 ∨ e.kind = 9 then decide (e.num = 0) && inB e.who 1 9
  else decide (e.num = 0) && decide (e.who = 0)
/-- The kid of that name: the reference's search. -/
def kidF (l : List Nod) (id : Int) (nm : ByteArray) (n : Int) : Int := l.foldl (fun n x => if x.parent = id ∧ x.name = nm ∧ n = 0 then x.id else n) n
def findF (l : List Nod) : List ByteArray → Int → Int
  | [], id => id
  | nm :: r, id => if kidF l id nm 0 = 0 then 0 else findF l r (kidF l id nm 0)
def findP (t : Tree) (p : ByteArray) : Int := match splitP p with
  | none => 0
  | some l => if atI t.nodes 1 < 0 then 0 else findF t.nodes l 1
end Go.Tm

/- What a record makes of a tree. -/
namespace Go.Tm
open Go Go.Abs
set_option linter.unusedVariables false
set_option linter.unusedSimpArgs false
section
variable {Z : TypeId → Nat} {P : Program} {G : World → Prop} {B0 nl : Nat} {Q : Exit → St → Prop}
theorem W_drawB (hZ : ZOk P Z) (hmo : P.follows .mixedOrders = true) {ops : Array Oper} {st : St} (b : Nat) (hb : st.rt.length = b) (n m : Nat) (xs : List (Nat × List Nat)) (hok : planOk b n m ops.toList xs = true)
    (h : regD Z P G B0 st.rt.length (ops.toList.map (·.dst)) (regA Z P G B0 (ops.toList.map (·.dst)) (Q .normal) (ops.toList.drop m)) xs (ops.toList.take m) (st.ext n)) : DrawA Z P G B0 nl ops Q st :=
  W_draw hZ hmo n m xs (by rw [hb]; exact hok) h
theorem W_drawMB (hZ : ZOk P Z) (hmo : P.follows .mixedOrders = true) {ops : Array Oper} {st : St} (b : Nat) (hb : st.rt.length = b) (n m : Nat) (xs : List (Nat × List Nat)) (us : List Nat) (nid : Nat) (hok : planOkM b n m ops.toList xs us nid = true) {om : Oper} (hom : ops[m]? = some om)
    (h : regD Z P G B0 st.rt.length (ops.toList.map (·.dst)) (regM Z P G B0 nid (ops.toList.map (·.dst)) (us.filterMap (ops.toList[·]?)) om (ops.toList.drop (m + 1)) (Q .normal)) xs (ops.toList.take m) (st.ext n)) : DrawA Z P G B0 nl ops Q st :=
  W_drawM hZ hmo n m xs us nid (by rw [hb]; exact hok) hom h
end
@[simp] theorem shareLL_app (a b : List (List Cell)) : shareLL (a ++ b) = shareLL a ++ shareLL b := by simp [shareLL_eq]
theorem shareLL_one (x : List Cell) : shareLL [x] = [x.map share] := by simp [shareLL_eq]
@[simp] theorem take_snoc {α β : Type} (f : α → β) (l : List α) (a : β) : List.take (l.length + 1) (l.map f ++ [a]) = l.map f ++ [a] := List.take_of_length_le (by simp)
@[simp] theorem take_mod {α β : Type} (f : α → β) (l : List α) (k : Nat) (g : β → β) : List.take l.length ((l.map f).modify k g) = (l.map f).modify k g := List.take_of_length_le (by simp)
@[simp] theorem take_mod2 {α β : Type} (f : α → β) (l : List α) (k : Nat) (g : α → α) : List.take l.length ((l.modify k g).map f) = (l.modify k g).map f := List.take_of_length_le (by simp)
theorem map_mod {α β : Type} (f : α → β) (g : α → α) (h : β → β) (l : List α) (k : Nat) (e : ∀ x, h (f x) = f (g x)) : (l.map f).modify k h = (l.modify k g).map f := by
  apply List.ext_getElem?
  intro i
  simp only [List.getElem?_modify, List.getElem?_map]
  cases l[i]? with
  | none => rfl
  | some x => by_cases c : k = i <;> simp [c, e]
def spansF : Nat → Int → Int → List Int
  | 0, _, n => [n]
  | k + 1, z, n => if z < n then z :: spansF k z (n - z) else [n]
def spans (s n : Int) : List Int := if gs s = 0 ∨ inB n 1 1000 = false then [] else spansF 1000 (gs s) n
theorem gs_pos (s : Int) : gs s = 0 ∨ 16 ≤ gs s := by unfold gs; split <;> (try split) <;> (try split) <;> omega
theorem gs_le (s : Int) : gs s ≤ 32 := by unfold gs; split <;> (try split) <;> (try split) <;> omega
def upOf (p : ByteArray) : ByteArray × ByteArray := (parentP p).getD (⟨#[]⟩, ⟨#[]⟩)
def newN (t : Tree) (p : ByteArray) (d : Bool) (w : Int) : Nod :=
  ⟨t.next, findP t (upOf p).1, (upOf p).2, d, if d then 0 else schemaAt t (findP t (upOf p).1), 0, 0, [], w⟩
def addT (t : Tree) (p : ByteArray) (d : Bool) (w : Int) : Tree × Int :=
  if findP t (upOf p).1 = 0 then (t, 1)
  else if dirAt t.nodes (findP t (upOf p).1) = false then (t, 3)
  else if findP t p ≠ 0 then (t, 2)
  else if (t.nodes.length : Int) = 14 ∨ t.next = 100000 ∨ okT (t.nodes ++ [newN t p d w]) (w64 (t.next + 1)) = false then (t, 8)
  else (⟨t.nodes ++ [newN t p d w], w64 (t.next + 1)⟩, 0)
def atN (l : List Nod) (id : Int) : Nat := (atI l id).toNat
def modN (t : Tree) (k : Nat) (f : Nod → Nod) : Tree := ⟨t.nodes.modify k f, t.next⟩
def movedN (to : Int) (nm : ByteArray) (x : Nod) : Nod := { x with parent := to, name := nm }
def moveT (t : Tree) (e : Edt) (id : Int) : Tree × Int :=
  if findP t (upOf e.to).1 = 0 then (t, 1)
  else if dirAt t.nodes (findP t (upOf e.to).1) = false then (t, 3)
  else if findP t e.to ≠ 0 then (t, 2)
  else if below t.nodes (findP t (upOf e.to).1) id = true then (t, 7)
  else
    let n := modN t (atN t.nodes id) (movedN (findP t (upOf e.to).1) (upOf e.to).2)
    if okT n.nodes n.next = false then (t, 8) else (n, 0)
def dropT (t : Tree) (id : Int) : Tree := ⟨t.nodes.filter fun x => !below t.nodes x.id id, t.next⟩
def setT (t : Tree) (e : Edt) (k : Nat) (x : Nod) : Tree × Int :=
  if x.dir = false then (t, 3)
  else if e.kind = 5 then (modN t k fun y => { y with schema := e.num }, 0)
  else if 0 < e.num ∧ e.num < usedBelow t x.id then (t, 5)
  else (modN t k fun y => { y with quota := e.num }, 0)
def newPcs (g : Int) (l : List Int) : List Pc := l.mapIdx fun i z => ⟨g + i, z⟩
def writeT (t : Tree) (e : Edt) (k : Nat) (x : Nod) (g : Int) : Tree × Int :=
  if x.dir = true then (t, 3)
  else if decide (e.kind = 9) ≠ decide (x.writer = 0) then (t, 6)
  else if e.kind = 9 then (modN t k fun y => { y with writer := e.who }, 0)
  else if e.kind = 8 then (modN t k fun y => { y with writer := 0 }, 0)
  else if roomFor t x.id e.num = false ∨ 1000 < x.len + e.num then (t, 5)
  else if (40 : Int) < (x.pieces.length : Int) + ((spans x.schema e.num).length : Int) then (t, 8)
  else (modN t k fun y => { y with pieces := x.pieces ++ newPcs g (spans x.schema e.num), len := x.len + e.num }, 0)
def applyT (t : Tree) (e : Edt) (g : Int) : Tree × Int :=
  if okT t.nodes t.next = false ∨ editB e = false ∨ inB g 1 99000 = false then (t, 7)
  else if e.kind = 10 then (t, 0)
  else if e.kind = 1 then addT t e.path true 0
  else if e.kind = 2 then addT t e.path false e.who
  else if findP t e.path = 0 then (t, 1)
  else match nd t.nodes (findP t e.path) with
    | none => (t, 0)
    | some x =>
      if e.kind = 3 then moveT t e (findP t e.path)
      else if e.kind = 4 then (dropT t (findP t e.path), 0)
      else if e.kind = 5 ∨ e.kind = 6 then setT t e (atN t.nodes (findP t e.path)) x
      else writeT t e (atN t.nodes (findP t e.path)) x g
def groupsAfter (t : Tree) (e : Edt) (g : Int) : Int :=
  if (applyT t e g).2 ≠ 0 then g
  else if e.kind = 10 then g + 20
  else if e.kind ≠ 7 then g
  else match nd t.nodes (findP t e.path) with
    | some x => g + (spans x.schema e.num).length
    | none => g
def stepT (p : Tree × Int) (e : Edt) : Tree × Int := if (applyT p.1 e p.2).2 = 0 then ((applyT p.1 e p.2).1, groupsAfter p.1 e p.2) else p
def applyAll (t : Tree) (l : List Edt) (g : Int) : Tree × Int := l.foldl stepT (t, g)
end Go.Tm

/- Paths cut by the library. -/
namespace Go.Tm
open Go Go.Abs
set_option linter.unusedVariables false
set_option linter.unusedSimpArgs false
def pcs (s : ByteArray) : List ByteArray := Lib.splitB ⟨#[47]⟩ 0 (Lib.countB s ⟨#[47]⟩) s
theorem occ1 (l : List UInt8) (j : Nat) : Lib.occAt l [47] j = (l[j]? == some 47) := by
  unfold Lib.occAt
  rw [← List.head?_drop]
  cases l.drop j with
  | nil => rfl
  | cons x r =>
    by_cases h : x = 47
    · subst h
      rfl
    · have h2 : ¬ (47 : UInt8) = x := fun e => h e.symm
      simp [List.isPrefixOf, h, h2]
      rw [beq_eq_false_iff_ne.mpr h2, beq_eq_false_iff_ne.mpr h]
theorem pcs_none (s : ByteArray) (h : ∀ j : Nat, s.data.toList[j]? ≠ some 47) : pcs s = [s] := by
  have hi : Lib.indexB s ⟨#[47]⟩ = -1 := Lib.index_none (fun j _ => by
    show Lib.occAt s.data.toList [47] j = false
    rw [occ1]
    exact beq_eq_false_iff_ne.mpr (h j))
  unfold pcs
  rw [Lib.splitB_miss _ _ _ _ hi]
theorem pcs_hit (s : ByteArray) (i : Nat) (h1 : s.data.toList[i]? = some 47) (h2 : ∀ j, j < i → s.data.toList[j]? ≠ some 47) : pcs s = s.extract 0 i :: pcs (s.extract (i + 1) s.size) := by
  have hi : Lib.indexB s ⟨#[47]⟩ = i := Lib.index_first (i := i) (by
      have := (List.getElem?_eq_some_iff.mp h1).1
      omega) (by
      show Lib.occAt s.data.toList [47] i = true
      rw [occ1, h1]
      rfl) (fun j hj => by
      show Lib.occAt s.data.toList [47] j = false
      rw [occ1]
      exact beq_eq_false_iff_ne.mpr (h2 j hj))
  have hc := Lib.countB_hit s ⟨#[47]⟩ i (by decide) hi
  unfold pcs
  rw [hc, Nat.add_comm, Lib.splitB_hit _ _ _ _ i hi]
  rfl
theorem pat_get (p : ByteArray) (b j : Nat) : (p.extract b p.size).data.toList[j]? = p.data.toList[b + j]? := by
  rw [Lib.extract_to_end, List.getElem?_drop]
theorem pat_none (p : ByteArray) (b : Nat) (h : ∀ j, b ≤ j → p.data.toList[j]? ≠ some 47) : pcs (p.extract b p.size) = [p.extract b p.size] :=
  pcs_none _ (fun j => by rw [pat_get]; exact h _ (by omega))
theorem pat_hit (p : ByteArray) (b i : Nat) (hb : b ≤ i) (hi : i < p.size) (h1 : p.data.toList[i]? = some 47) (h2 : ∀ j, b ≤ j → j < i → p.data.toList[j]? ≠ some 47) : pcs (p.extract b p.size) = p.extract b i :: pcs (p.extract (i + 1) p.size) := by
  have h := pcs_hit (p.extract b p.size) (i - b) (by rw [pat_get, show b + (i - b) = i by omega]; exact h1) (fun j hj => by rw [pat_get]; exact h2 _ (by omega) (by omega))
  rw [h]
  have e1 : (p.extract b p.size).extract 0 (i - b) = p.extract b i := by
    rw [ByteArray.extract_extract]
    congr 1
    omega
  have e2 : (p.extract b p.size).extract (i - b + 1) (p.extract b p.size).size = p.extract (i + 1) p.size := by
    rw [ByteArray.extract_extract, ByteArray.size_extract]
    congr 1
    · omega
    · omega
  rw [e1, e2]
theorem byteAt_47 (p : ByteArray) (i : Nat) (h : i < p.size) : byteAt p (i : Int) = 47 ↔ p.data.toList[i]? = some 47 := by
  have hs : i < p.data.size := h
  have e : p.data.toList[i]? = some p.data[i] := by simp [hs]
  rw [e]
  have hb : byteAt p (i : Int) = (p.data[i].toNat : Int) := by
    unfold byteAt
    simp [Array.getD_eq_getD_getElem?, Array.getElem?_eq_getElem hs]
  rw [hb]
  constructor
  · intro h2
    congr 1
    exact UInt8.toNat_inj.mp (by have : (47 : UInt8).toNat = 47 := rfl
                                 omega)
  · intro h2
    rw [Option.some.inj h2]
    rfl
theorem pcs_rest (p : ByteArray) : ∀ (d b i : Nat), p.size - i = d → b ≤ i → i ≤ p.size → (∀ j, b ≤ j → j < i → p.data.toList[j]? ≠ some 47) → pcs (p.extract b p.size) = rest p b i
  | 0, b, i, hd, hb, hi, hn => by
    have hi2 : i = p.size := by omega
    rw [rest_last hi2, hi2]
    refine pat_none p b fun j hj => ?_
    by_cases e : j < p.size
    · exact hn j hj (by omega)
    · rw [List.getElem?_eq_none (by rw [← Lib.size_eq]; omega)]
      exact fun e => by cases e
  | d + 1, b, i, hd, hb, hi, hn => by
    have hlt : i < p.size := by omega
    by_cases h47 : byteAt p (i : Int) = 47
    · rw [rest_hit hlt h47, pat_hit p b i hb hlt ((byteAt_47 p i hlt).1 h47) hn]
      congr 1
      exact pcs_rest p d (i + 1) (i + 1) (by omega) (by omega) (by omega) (fun j h1 h2 => by omega)
    · rw [rest_miss hlt h47]
      refine pcs_rest p d b (i + 1) (by omega) (by omega) (by omega) fun j h1 h2 => ?_
      by_cases e : j = i
      · subst e
        exact fun e2 => h47 ((byteAt_47 p j hlt).2 e2)
      · exact hn j h1 (by omega)
theorem pre_iff (p : ByteArray) : Lib.hasPrefix p.data.toList [47] = true ↔ ¬ p.size = 0 ∧ byteAt p 0 = 47 := by
  unfold Lib.hasPrefix
  have hb : p.size = p.data.toList.length := (Array.length_toList (xs := p.data)).symm
  generalize hl : p.data.toList = l at hb ⊢
  cases l with
  | nil =>
    have hz : p.size = 0 := hb
    simp [hz, List.isPrefixOf]
  | cons x r =>
    have hz : p.size = r.length + 1 := hb
    have h0 := byteAt_47 p 0 (by omega)
    rw [hl] at h0
    simp only [List.getElem?_cons_zero, Option.some.injEq] at h0
    have e : ([47] : List UInt8).isPrefixOf (x :: r) = ((47 : UInt8) == x) := by simp [List.isPrefixOf]
    rw [e, beq_iff_eq]
    constructor
    · intro hx; exact ⟨by omega, h0.2 hx.symm⟩
    · intro ⟨_, hx⟩; exact (h0.1 hx).symm
def cutP (p : ByteArray) : ByteArray := ⟨(Lib.trimPrefix p.data.toList [47]).toArray⟩
theorem cut_eq {p : ByteArray} (h : Lib.hasPrefix p.data.toList [47] = true) : cutP p = p.extract 1 p.size := by
  unfold cutP Lib.trimPrefix
  rw [h]
  simp only [if_true]
  have : (p.extract 1 p.size).data.toList = p.data.toList.drop 1 := Lib.extract_to_end _ _
  cases hx : p.extract 1 p.size with | mk d =>
  rw [hx] at this
  have : (p.data.toList.drop ([47] : List UInt8).length).toArray = d := by
    apply Array.toList_inj.1
    exact this.symm
  rw [this]
theorem splitP_pre {p : ByteArray} (h : Lib.hasPrefix p.data.toList [47] = false) : splitP p = none := by
  unfold splitP
  rw [if_pos]
  by_cases h0 : p.size = 0
  · exact .inl h0
  · refine .inr fun hb => ?_
    have := (pre_iff p).2 ⟨h0, hb⟩
    rw [h] at this; cases this
theorem splitP_cut {p : ByteArray} (h : Lib.hasPrefix p.data.toList [47] = true) : splitP p = if cutP p = ⟨#[]⟩ then some [] else finP (pcs (cutP p)) := by
  have hp := (pre_iff p).1 h
  unfold splitP
  rw [if_neg (by rintro (h1 | h1); exact hp.1 h1; exact h1 hp.2)]
  have h1 : 1 ≤ p.size := by omega
  by_cases hs : p = slash
  · subst hs
    have hc : cutP slash = ⟨#[]⟩ := rfl
    rw [if_pos rfl, if_pos hc]
  · have hne : ¬ cutP p = ⟨#[]⟩ := fun hc => hs (by
      rw [cut_eq h] at hc
      have hz : (p.extract 1 p.size).size = 0 := by rw [hc]; rfl
      rw [ByteArray.size_extract] at hz
      have h2 : p.data.size = 1 := by have : p.size = p.data.size := rfl; omega
      have h3 := (byteAt_47 p 0 (by omega)).1 hp.2
      cases p with | mk d =>
      have : d = #[47] := by
        apply Array.toList_inj.1
        simp only at h2 h3
        match hd : d.toList with
        | [] => rw [hd] at h3; cases h3
        | [x] => rw [hd] at h3; simpa using h3
        | x :: y :: r =>
          have : d.toList.length = 1 := by simpa using h2
          rw [hd] at this; simp at this
      rw [this]; rfl)
    rw [if_neg hs, if_neg hne, cut_eq h, pcs_rest p (p.size - 1) 1 1 rfl (Nat.le_refl _) h1 (fun j h1 h2 => by omega)]
end Go.Tm

/- The names that lead to a node of a right tree. -/
namespace Go.Tm
open Go Go.Abs
set_option linter.unusedVariables false
set_option linter.unusedSimpArgs false
/-- The names from a node up to the root, the node's first. -/
def Up (l : List Nod) : List ByteArray → Int → Prop
  | [], id => id = 1
  | nm :: ns, id => id ≠ 1 ∧ ∃ x, nd l id = some x ∧ x.name = nm ∧ Up l ns x.parent
section
variable {l : List Nod} {nx : Int}
theorem uniqB_iff {i : Nat} {x : Nod} : uniqB l i x = true ↔ ∀ (j : Nat) y, j < i → l[j]? = some y → ¬ (y.parent = x.parent ∧ y.name = x.name) := by
  unfold uniqB
  simp only [List.all_eq_true, Bool.not_eq_true', Bool.and_eq_false_iff, decide_eq_false_iff_not]
  constructor
  · intro h j y hj hy hc
    have : y ∈ l.take i := by
      rw [List.mem_iff_getElem?]
      exact ⟨j, by rw [List.getElem?_take_of_lt hj]; exact hy⟩
    rcases h y this with h1 | h1
    · exact h1 hc.1
    · exact h1 hc.2
  · intro h y hy
    obtain ⟨j, hj⟩ := List.getElem?_of_mem hy
    have hji : j < i := by
      have := (List.getElem?_eq_some_iff.1 hj).1
      simp at this; omega
    rw [List.getElem?_take_of_lt hji] at hj
    by_cases h1 : y.parent = x.parent
    · exact .inr fun h2 => h j y hji hj ⟨h1, h2⟩
    · exact .inl h1
/-- One node of a name below a node. -/
theorem OkT.kid_one (H : OkT l nx) {x y : Nod} (hx : x ∈ l) (hy : y ∈ l) (h1 : x.id ≠ 1) (h2 : y.id ≠ 1) (hp : x.parent = y.parent) (hn : x.name = y.name) : x = y := by
  obtain ⟨i, hi⟩ := List.getElem?_of_mem hx
  obtain ⟨j, hj⟩ := List.getElem?_of_mem hy
  rcases Nat.lt_trichotomy i j with c | c | c
  · exact absurd ⟨hp, hn⟩ (uniqB_iff.1 (H.uniq j y (by omega) hj) i x c hi)
  · subst c; rw [hi] at hj; cases hj; rfl
  · exact absurd ⟨hp.symm, hn.symm⟩ (uniqB_iff.1 (H.uniq i x (by omega) hi) j y c hj)
theorem up_ne0 (H : OkT l nx) : ∀ {ns : List ByteArray} {id : Int}, Up l ns id → id ≠ 0
  | [], id, h => by rw [show id = 1 from h]; decide
  | nm :: ns, id, ⟨_, x, hx, _⟩ => by rintro rfl; rw [H.nd_zero] at hx; cases hx
theorem up_nd (H : OkT l nx) : ∀ {ns : List ByteArray} {id : Int}, Up l ns id → ∃ x, nd l id = some x ∧ x ∈ l ∧ x.id = id
  | [], id, h => by
    obtain ⟨r, h0, h1, _, h2, _⟩ := H.rootNd
    rw [show id = 1 from h]
    exact ⟨r, h1, (nd_mem h1).1, h2⟩
  | nm :: ns, id, ⟨_, x, hx, _⟩ => ⟨x, hx, nd_mem hx⟩
theorem up_ex (H : OkT l nx) : ∀ (k : Nat) (x : Nod), x ∈ l → Lead l k x → ∃ ns, Up l ns x.id ∧ ns.length ≤ k ∧ ∀ nm ∈ ns, nmB nm = true
  | 0, x, hx, h => ⟨[], h, by simp, by simp⟩
  | k + 1, x, hx, h => by
    by_cases c : x.id = 1
    · exact ⟨[], c, by simp, by simp⟩
    · rcases h with h | ⟨y, hy, h⟩
      · exact absurd h c
      · obtain ⟨hm, hid⟩ := nd_mem hy
        obtain ⟨ns, h1, h2, h3⟩ := up_ex H k y hm h
        obtain ⟨i, hi⟩ := List.getElem?_of_mem hx
        refine ⟨x.name :: ns, ⟨c, x, H.nd_self hx, rfl, by rw [← hid]; exact h1⟩, by simp; omega, fun nm hnm => ?_⟩
        rcases List.mem_cons.1 hnm with rfl | hnm
        · exact H.nms i x (H.idx_pos hi c) hi
        · exact h3 nm hnm
theorem OkT.names (H : OkT l nx) {x : Nod} (hx : x ∈ l) : ∃ ns, Up l ns x.id ∧ ns.length ≤ 4 ∧ ∀ nm ∈ ns, nmB nm = true := up_ex H 4 x hx (H.lead hx)
theorem up_uniq : ∀ {ns ms : List ByteArray} {id : Int}, Up l ns id → Up l ms id → ns = ms
  | [], [], _, _, _ => rfl
  | [], _ :: _, _, h, k => absurd h k.1
  | _ :: _, [], _, h, k => absurd k h.1
  | nm :: ns, mm :: ms, id, ⟨_, x, hx, hn, h⟩, ⟨_, y, hy, hm, k⟩ => by
    rw [hx] at hy; cases hy
    rw [← hn, ← hm, up_uniq h k]
theorem up_inj (H : OkT l nx) : ∀ {ns : List ByteArray} {a b : Int}, Up l ns a → Up l ns b → a = b
  | [], a, b, h, k => by rw [show a = 1 from h, show b = 1 from k]
  | nm :: ns, a, b, ⟨ha, x, hx, hn, h⟩, ⟨hb, y, hy, hm, k⟩ => by
    have e := up_inj H h k
    obtain ⟨x1, x2⟩ := nd_mem hx
    obtain ⟨y1, y2⟩ := nd_mem hy
    have := H.kid_one x1 y1 (by rw [x2]; exact ha) (by rw [y2]; exact hb) e (by rw [hn, hm])
    rw [← x2, ← y2, this]
theorem up_app : ∀ {a b : List ByteArray} {id : Int}, Up l (a ++ b) id → ∃ c, Up l b c
  | [], b, id, h => ⟨id, h⟩
  | nm :: a, b, id, ⟨_, x, _, _, h⟩ => up_app (a := a) h
/-- The kid of a name. -/
theorem kidF_keep (id : Int) (nm : ByteArray) : ∀ (q : List Nod) (n : Int), n ≠ 0 → kidF q id nm n = n
  | [], n, _ => rfl
  | x :: r, n, h => by
    have := kidF_keep id nm r n h
    unfold kidF at this ⊢
    rw [List.foldl_cons, if_neg (fun c => h c.2.2)]
    exact this
theorem kidF_cases (id : Int) (nm : ByteArray) : ∀ (q : List Nod), (∀ x ∈ q, x.id ≠ 0) → (kidF q id nm 0 = 0 ∧ ∀ x ∈ q, ¬ (x.parent = id ∧ x.name = nm)) ∨ ∃ x ∈ q, x.parent = id ∧ x.name = nm ∧ kidF q id nm 0 = x.id
  | [], _ => .inl ⟨rfl, by simp⟩
  | x :: r, h => by
    have e : kidF (x :: r) id nm 0 = kidF r id nm (if x.parent = id ∧ x.name = nm ∧ (0 : Int) = 0 then x.id else 0) := rfl
    rw [e]
    by_cases c : x.parent = id ∧ x.name = nm
    · rw [if_pos ⟨c.1, c.2, rfl⟩, kidF_keep id nm r _ (h x (by simp))]
      exact .inr ⟨x, by simp, c.1, c.2, rfl⟩
    · rw [if_neg (fun d => c ⟨d.1, d.2.1⟩)]
      rcases kidF_cases id nm r (fun x hx => h x (by simp [hx])) with ⟨h1, h2⟩ | ⟨y, h1, h2, h3, h4⟩
      · refine .inl ⟨h1, fun y hy => ?_⟩
        rcases List.mem_cons.1 hy with rfl | hy
        · exact c
        · exact h2 y hy
      · exact .inr ⟨y, by simp [h1], h2, h3, h4⟩
theorem OkT.id_ne0 (H : OkT l nx) : ∀ x ∈ l, x.id ≠ 0 := fun x hx => by have := H.id_pos hx; omega
theorem kid_up (H : OkT l nx) {ms : List ByteArray} {id c : Int} {nm : ByteArray} (h : Up l ms id) : (kidF l id nm 0 = c ∧ c ≠ 0) ↔ Up l (nm :: ms) c := by
  constructor
  · rintro ⟨h1, h2⟩
    rcases kidF_cases id nm l H.id_ne0 with ⟨h3, _⟩ | ⟨x, hx, hp, hn, h3⟩
    · exact absurd (h1.symm.trans h3) h2
    · have e : x.id = c := h3.symm.trans h1
      subst e
      refine ⟨fun c1 => up_ne0 H h ?_, x, H.nd_self hx, hn, by rw [hp]; exact h⟩
      rw [← hp]; exact H.parent_one hx c1
  · rintro ⟨h1, x, hx, hn, h2⟩
    obtain ⟨x1, x2⟩ := nd_mem hx
    have hp : x.parent = id := up_inj H h2 h
    rcases kidF_cases id nm l H.id_ne0 with ⟨_, h3⟩ | ⟨y, hy, hp2, hn2, h3⟩
    · exact absurd ⟨hp, hn⟩ (h3 x x1)
    · have hy1 : y.id ≠ 1 := fun c1 => up_ne0 H h (by rw [← hp2]; exact H.parent_one hy c1)
      have := H.kid_one x1 hy (by rw [x2]; exact h1) hy1 (hp.trans hp2.symm) (hn.trans hn2.symm)
      subst this
      refine ⟨h3.trans x2, ?_⟩
      rw [← x2]; exact H.id_ne0 x x1
theorem findF_up (H : OkT l nx) : ∀ (ns : List ByteArray) {ms : List ByteArray} {id0 id : Int}, Up l ms id0 → ((findF l ns id0 = id ∧ id ≠ 0) ↔ Up l (ns.reverse ++ ms) id)
  | [], ms, id0, id, h => by
    simp only [findF, List.reverse_nil, List.nil_append]
    constructor
    · rintro ⟨rfl, _⟩; exact h
    · intro k
      exact ⟨up_inj H h k, up_ne0 H k⟩
  | nm :: ns, ms, id0, id, h => by
    rw [findF, List.reverse_cons, List.append_assoc, List.singleton_append]
    by_cases c : kidF l id0 nm 0 = 0
    · rw [if_pos c]
      constructor
      · rintro ⟨rfl, h2⟩; exact absurd rfl h2
      · intro k
        obtain ⟨d, hd⟩ := up_app k
        have := (kid_up H h).2 hd
        exact absurd (this.1.symm.trans c) this.2
    · rw [if_neg c]
      exact findF_up H ns ((kid_up H h).1 ⟨rfl, c⟩)
theorem root_up : Up l [] 1 := rfl
theorem find_up (H : OkT l nx) {ns : List ByteArray} {id : Int} : (findF l ns 1 = id ∧ id ≠ 0) ↔ Up l ns.reverse id := by
  have := findF_up H ns (ms := []) (id0 := 1) (id := id) rfl
  simpa using this
/-- Who is below: whose names go on. -/
theorem belowF_up (H : OkT l nx) {top : Int} (ht : top ≠ 0) : ∀ (ns : List ByteArray) (id : Int) (n : Nat), Up l ns id → ns.length + 1 ≤ n → (belowF l n id top = true ↔ ∃ a b, ns = a ++ b ∧ Up l b top)
  | ns, id, 0, _, hn => by omega
  | ns, id, n + 1, h, hn => by
    rw [belowF]
    by_cases c : id = top
    · subst c
      simp only [if_true, true_iff]
      exact ⟨[], ns, rfl, h⟩
    · rw [if_neg c]
      cases ns with
      | nil =>
        have h1 : id = 1 := h
        subst h1
        obtain ⟨r, h0, h1, _, h2, h3, _⟩ := H.rootNd
        rw [h1]
        simp only [h3]
        have e : belowF l n 0 top = false := by
          cases n with
          | zero => rfl
          | succ n => rw [belowF, if_neg (Ne.symm ht), H.nd_zero]
        rw [e]
        simp only [Bool.false_eq_true, false_iff]
        rintro ⟨a, b, hab, hb⟩
        have hb0 : b = [] := (List.append_eq_nil_iff.1 hab.symm).2
        subst hb0
        exact c (show top = 1 from hb).symm
      | cons nm ns =>
        have h' := h
        obtain ⟨h1, x, hx, hnm, h2⟩ := h'
        rw [hx]
        simp only []
        rw [belowF_up H ht ns x.parent n h2 (by simpa using hn)]
        constructor
        · rintro ⟨a, b, hab, hb⟩
          exact ⟨nm :: a, b, by rw [hab]; rfl, hb⟩
        · rintro ⟨a, b, hab, hb⟩
          cases a with
          | nil =>
            simp only [List.nil_append] at hab
            subst hab
            exact absurd (up_inj H h hb) c
          | cons y a =>
            simp only [List.cons_append, List.cons.injEq] at hab
            exact ⟨a, b, hab.2, hb⟩
theorem below_up (H : OkT l nx) {top id : Int} (ht : top ≠ 0) {ns : List ByteArray} (h : Up l ns id) (hl : ns.length ≤ 4) : below l id top = true ↔ ∃ a b, ns = a ++ b ∧ Up l b top :=
  belowF_up H ht ns id 15 h (by omega)
theorem up_len (H : OkT l nx) {ns : List ByteArray} {id : Int} (h : Up l ns id) : ns.length ≤ 4 ∧ ∀ nm ∈ ns, nmB nm = true := by
  obtain ⟨x, _, hx, hid⟩ := up_nd H h
  obtain ⟨ms, h1, h2, h3⟩ := H.names hx
  rw [hid] at h1
  rw [up_uniq h h1]
  exact ⟨h2, h3⟩
end
/-! ### Paths as bytes -/
def cat (l : List ByteArray) : ByteArray := l.foldl (fun s x => s ++ slash ++ x) ⟨#[]⟩
theorem ba_ext {s t : ByteArray} (h : s.data.toList = t.data.toList) : s = t := by
  cases s; cases t; congr 1; exact Array.toList_inj.1 h
theorem ba_app (s t : ByteArray) : (s ++ t).data.toList = s.data.toList ++ t.data.toList := by
  rw [ByteArray.data_append, Array.toList_append]
def catL (l : List (List UInt8)) : List UInt8 := l.flatMap (47 :: ·)
theorem joinF_list : ∀ (l : List ByteArray) (s : ByteArray), (joinF s l).data.toList = s.data.toList ++ catL (l.map (·.data.toList))
  | [], s => by simp [joinF, catL]
  | x :: r, s => by
    have e : joinF s (x :: r) = joinF (s ++ slash ++ x) r := rfl
    rw [e, joinF_list r, ba_app, ba_app]
    simp [catL, slash]
theorem joinP_list {l : List ByteArray} (h : l ≠ []) : (joinP l).data.toList = catL (l.map (·.data.toList)) := by
  unfold joinP
  rw [if_neg (by simpa using h), joinF_list]
  rfl
def clean (a : List UInt8) : Prop := (47 : UInt8) ∉ a
theorem nmB_clean {s : ByteArray} (h : nmB s = true) : clean s.data.toList := by
  intro hm
  obtain ⟨i, hi⟩ := List.getElem?_of_mem hm
  have hlt : i < s.size := by have := (List.getElem?_eq_some_iff.1 hi).1; simpa using this
  have h1 := (byteAt_47 s i hlt).2 hi
  unfold nmB at h
  rw [Bool.and_eq_true, List.all_eq_true] at h
  have h2 := h.1 i (by simpa using hlt)
  rw [h1] at h2
  simp [okCh] at h2
/-- A clean list ahead of nothing or a slash. -/
def Sl (t : List UInt8) : Prop := t = [] ∨ ∃ r, t = 47 :: r
theorem clean_cut : ∀ (a b : List UInt8) {s t : List UInt8}, clean a → clean b → Sl s → Sl t → a ++ s = b ++ t → a = b ∧ s = t
  | [], [], s, t, _, _, _, _, h => ⟨rfl, h⟩
  | [], y :: b, s, t, _, hb, hs, _, h => by
    simp only [List.nil_append] at h
    rcases hs with rfl | ⟨r, rfl⟩
    · cases h
    · cases h; exact absurd (List.mem_cons_self) hb
  | x :: a, [], s, t, ha, _, _, ht, h => by
    simp only [List.nil_append] at h
    rcases ht with rfl | ⟨r, rfl⟩
    · cases h
    · cases h; exact absurd (List.mem_cons_self) ha
  | x :: a, y :: b, s, t, ha, hb, hs, ht, h => by
    simp only [List.cons_append, List.cons.injEq] at h
    have := clean_cut a b (fun hm => ha (List.mem_cons_of_mem _ hm)) (fun hm => hb (List.mem_cons_of_mem _ hm)) hs ht h.2
    exact ⟨by rw [h.1, this.1], this.2⟩
theorem catL_sl (l : List (List UInt8)) : Sl (catL l) := by
  cases l with
  | nil => exact .inl rfl
  | cons x r => exact .inr ⟨_, rfl⟩
theorem catL_cons (x : List UInt8) (r : List (List UInt8)) : catL (x :: r) = 47 :: (x ++ catL r) := rfl
/-- What goes on behind some names. -/
theorem catL_pre : ∀ (a b : List (List UInt8)) {t : List UInt8}, (∀ x ∈ a, clean x) → (∀ x ∈ b, clean x) → Sl t → catL b = catL a ++ t → ∃ r, b = a ++ r ∧ catL r = t
  | [], b, t, _, _, _, h => ⟨b, rfl, h⟩
  | x :: a, [], t, _, _, _, h => by rw [catL_cons] at h; cases h
  | x :: a, y :: b, t, ha, hb, ht, h => by
    rw [catL_cons, catL_cons, List.cons_append, List.append_assoc] at h
    have hs : Sl (catL a ++ t) := by
      rcases catL_sl a with h1 | ⟨r, h1⟩
      · rw [h1]; exact ht
      · rw [h1]; exact .inr ⟨_, rfl⟩
    obtain ⟨e1, e2⟩ := clean_cut y x (hb y (by simp)) (ha x (by simp)) (catL_sl b) hs (List.cons.inj h).2
    obtain ⟨r, e3, e4⟩ := catL_pre a b (fun z hz => ha z (by simp [hz])) (fun z hz => hb z (by simp [hz])) ht e2
    exact ⟨r, by rw [e1, e3]; rfl, e4⟩
theorem map_list_inj {a b : List ByteArray} (h : a.map (·.data.toList) = b.map (·.data.toList)) : a = b := by
  induction a generalizing b with
  | nil => cases b with
    | nil => rfl
    | cons y b => cases h
  | cons x a ih => cases b with
    | nil => cases h
    | cons y b =>
      simp only [List.map_cons, List.cons.injEq] at h
      rw [ba_ext h.1, ih h.2]
theorem map_app_inj {b a : List ByteArray} {r : List (List UInt8)} (h : b.map (·.data.toList) = a.map (·.data.toList) ++ r) : ∃ c, b = a ++ c ∧ c.map (·.data.toList) = r := by
  induction a generalizing b with
  | nil => exact ⟨b, rfl, h⟩
  | cons x a ih => cases b with
    | nil => cases h
    | cons y b =>
      simp only [List.map_cons, List.cons_append, List.cons.injEq] at h
      obtain ⟨c, e1, e2⟩ := ih h.2
      exact ⟨c, by rw [e1, ba_ext h.1]; rfl, e2⟩
/-- Good names. -/
def Nms (l : List ByteArray) : Prop := ∀ x ∈ l, nmB x = true
theorem Nms.clean {l : List ByteArray} (h : Nms l) : ∀ x ∈ l.map (·.data.toList), clean x := fun x hx => by
  obtain ⟨y, hy, rfl⟩ := List.mem_map.1 hx
  exact nmB_clean (h y hy)
theorem joinP_inj {a b : List ByteArray} (ha : Nms a) (hb : Nms b) (h : joinP a = joinP b) : a = b := by
  have key : ∀ {a b : List ByteArray}, Nms a → Nms b → a = [] → b ≠ [] → joinP a ≠ joinP b := fun {a b} ha hb h0 h1 he => by
    subst h0
    have h2 := joinP_list h1
    rw [← he] at h2
    cases b with
    | nil => exact h1 rfl
    | cons y b =>
      have h3 : ([47] : List UInt8) = 47 :: (y.data.toList ++ catL (b.map (·.data.toList))) := h2
      have h4 : y.data.toList = [] := by
        have := (List.cons.inj h3).2.symm
        exact (List.append_eq_nil_iff.1 this).1
      have h5 := hb y (by simp)
      unfold nmB at h5
      rw [Bool.and_eq_true, inB_iff] at h5
      have h6 : y.size = 0 := by rw [Lib.size_eq, h4]; rfl
      omega
  by_cases h1 : a = []
  · by_cases h2 : b = []
    · rw [h1, h2]
    · exact absurd h (key ha hb h1 h2)
  · by_cases h2 : b = []
    · exact absurd h.symm (key hb ha h2 h1)
    · have e := congrArg (fun s : ByteArray => s.data.toList) h
      simp only [joinP_list h1, joinP_list h2] at e
      obtain ⟨r, e1, e2⟩ := catL_pre _ _ ha.clean hb.clean (.inl rfl) (by rw [List.append_nil]; exact e.symm)
      cases r with
      | nil => rw [List.append_nil] at e1; exact (map_list_inj e1).symm
      | cons y r => cases e2
end Go.Tm

/- Paths cut and joined; who is under whom; finding by paths. -/
namespace Go.Tm
open Go Go.Abs
set_option linter.unusedVariables false
set_option linter.unusedSimpArgs false
theorem ext_list (p : ByteArray) (b i : Nat) : (p.extract b i).data.toList = (p.data.toList.take i).drop b := by
  rw [ByteArray.data_extract, Array.toList_extract, List.extract_eq_take_drop, List.drop_take]
theorem drop_slash {p : ByteArray} {b : Nat} (h1 : 1 ≤ b) (hb : b - 1 < p.size) (hs : byteAt p ((b - 1 : Nat) : Int) = 47) : p.data.toList.drop (b - 1) = 47 :: p.data.toList.drop b := by
  have h := (byteAt_47 p (b - 1) hb).1 hs
  have hl : b - 1 < p.data.toList.length := by rw [← Lib.size_eq]; exact hb
  rw [List.drop_eq_getElem_cons hl, show b - 1 + 1 = b by omega]
  congr 1
  rw [List.getElem?_eq_getElem hl] at h
  exact Option.some.inj h
theorem rest_cat (p : ByteArray) : ∀ (d b i : Nat), p.size - i = d → 1 ≤ b → b ≤ i → i ≤ p.size → byteAt p ((b - 1 : Nat) : Int) = 47 → catL ((rest p b i).map (·.data.toList)) = p.data.toList.drop (b - 1)
  | 0, b, i, hd, h1, hb, hi, hs => by
    have hi2 : i = p.size := by omega
    rw [rest_last hi2, drop_slash h1 (by omega) hs, List.map_singleton, catL_cons, ext_list, hi2]
    congr 1
    rw [Lib.size_eq, List.take_length]
    simp [catL]
  | d + 1, b, i, hd, h1, hb, hi, hs => by
    have hlt : i < p.size := by omega
    by_cases h47 : byteAt p (i : Int) = 47
    · rw [rest_hit hlt h47, drop_slash h1 (by omega) hs, List.map_cons, catL_cons, rest_cat p d (i + 1) (i + 1) (by omega) (by omega) (by omega) (by omega) (by simpa using h47), ext_list]
      congr 1
      rw [show i + 1 - 1 = i by omega, List.drop_take]
      have := List.take_append_drop (i - b) (p.data.toList.drop b)
      rw [List.drop_drop, show b + (i - b) = i by omega] at this
      exact this
    · rw [rest_miss hlt h47]
      exact rest_cat p d b (i + 1) (by omega) h1 (by omega) (by omega) hs
theorem rest_clean (p : ByteArray) : ∀ (d b i : Nat), p.size - i = d → b ≤ i → i ≤ p.size → (∀ j, b ≤ j → j < i → p.data.toList[j]? ≠ some 47) → ∀ x ∈ rest p b i, clean x.data.toList
  | 0, b, i, hd, hb, hi, hn, x, hx => by
    have hi2 : i = p.size := by omega
    rw [rest_last hi2] at hx
    simp only [List.mem_singleton] at hx
    subst hx
    intro hm
    rw [ext_list] at hm
    obtain ⟨j, hj⟩ := List.getElem?_of_mem hm
    rw [List.getElem?_drop] at hj
    by_cases c : b + j < i
    · rw [List.getElem?_take_of_lt c] at hj
      exact hn (b + j) (by omega) c hj
    · rw [List.getElem?_eq_none (by simp; omega)] at hj; cases hj
  | d + 1, b, i, hd, hb, hi, hn, x, hx => by
    have hlt : i < p.size := by omega
    by_cases h47 : byteAt p (i : Int) = 47
    · rw [rest_hit hlt h47] at hx
      rcases List.mem_cons.1 hx with rfl | hx
      · intro hm
        rw [ext_list] at hm
        obtain ⟨j, hj⟩ := List.getElem?_of_mem hm
        rw [List.getElem?_drop] at hj
        by_cases c : b + j < i
        · rw [List.getElem?_take_of_lt c] at hj
          exact hn (b + j) (by omega) c hj
        · rw [List.getElem?_eq_none (by simp; omega)] at hj; cases hj
      · exact rest_clean p d (i + 1) (i + 1) (by omega) (by omega) (by omega) (fun j h1 h2 => by omega) x hx
    · rw [rest_miss hlt h47] at hx
      refine rest_clean p d b (i + 1) (by omega) (by omega) (by omega) (fun j h1 h2 => ?_) x hx
      by_cases e : j = i
      · subst e
        exact fun e2 => h47 ((byteAt_47 p j hlt).2 e2)
      · exact hn j h1 (by omega)
theorem finP_some {l ns : List ByteArray} (h : finP l = some ns) : l = ns ∧ Nms ns ∧ ns.length ≤ 4 := by
  unfold finP at h
  split at h
  · rename_i hc
    cases h
    exact ⟨rfl, fun x hx => List.all_eq_true.1 hc.1 x hx, hc.2⟩
  · cases h
theorem rest_ne {p : ByteArray} {b i : Nat} (hi : i ≤ p.size) : rest p b i ≠ [] := by
  have : ∀ (d b i : Nat), p.size - i = d → i ≤ p.size → rest p b i ≠ [] := by
    intro d
    induction d with
    | zero => intro b i hd hi; rw [rest_last (by omega)]; simp
    | succ d ih =>
      intro b i hd hi
      have hlt : i < p.size := by omega
      by_cases h47 : byteAt p (i : Int) = 47
      · rw [rest_hit hlt h47]; simp
      · rw [rest_miss hlt h47]; exact ih b (i + 1) (by omega) (by omega)
  exact this _ b i rfl hi
/-- A path that can be cut is its names joined. -/
theorem splitP_some {p : ByteArray} {ns : List ByteArray} (h : splitP p = some ns) : Nms ns ∧ ns.length ≤ 4 ∧ joinP ns = p := by
  unfold splitP at h
  split at h
  · cases h
  · rename_i h0
    have h0 := not_or.1 h0
    split at h
    · rename_i hs
      cases h
      exact ⟨fun x hx => by simp at hx, by simp, hs.symm⟩
    · obtain ⟨h1, h2, h3⟩ := finP_some h
      refine ⟨h2, h3, ba_ext ?_⟩
      have hne : ns ≠ [] := by rw [← h1]; exact rest_ne (by omega)
      rw [joinP_list hne, ← h1, rest_cat p (p.size - 1) 1 1 rfl (Nat.le_refl _) (Nat.le_refl _) (by omega) (by simpa using h0.2)]
      rfl
theorem joinP_ne {ns : List ByteArray} (h : Nms ns) (h0 : ns ≠ []) : joinP ns ≠ slash := fun e => by
  have := joinP_inj (a := []) (b := ns) (fun x hx => by simp at hx) h (by rw [e]; rfl)
  exact h0 this.symm
/-- Names joined are cut to them. -/
theorem splitP_join {ns : List ByteArray} (h : Nms ns) (hl : ns.length ≤ 4) : splitP (joinP ns) = some ns := by
  by_cases h0 : ns = []
  · subst h0
    unfold splitP
    have e : joinP [] = slash := rfl
    rw [e, if_neg (by rintro (c | c); revert c; decide; exact c ((byteAt_47 slash 0 (by decide)).2 rfl)), if_pos rfl]
  · have hL := joinP_list h0
    generalize hp : joinP ns = p at hL
    have hne : p ≠ slash := by rw [← hp]; exact joinP_ne h h0
    obtain ⟨x, r, hxr⟩ := List.exists_cons_of_ne_nil h0
    have hL2 : p.data.toList = 47 :: (x.data.toList ++ catL (r.map (·.data.toList))) := by rw [hL, hxr]; rfl
    have hsz : 1 ≤ p.size := by rw [Lib.size_eq, hL2]; simp
    have hb0 : byteAt p ((0 : Nat) : Int) = 47 := (byteAt_47 p 0 (by omega)).2 (by rw [hL2]; rfl)
    unfold splitP
    rw [if_neg (by rintro (c | c); omega; exact c hb0), if_neg hne]
    have hc := rest_cat p (p.size - 1) 1 1 rfl (Nat.le_refl _) (Nat.le_refl _) hsz (by simpa using hb0)
    have hcl := rest_clean p (p.size - 1) 1 1 rfl (Nat.le_refl _) hsz (fun j h1 h2 => by omega)
    generalize rest p 1 1 = ms at hc hcl
    have hc2 : catL (ms.map (·.data.toList)) = catL (ns.map (·.data.toList)) ++ [] := by rw [hc, List.append_nil, ← hL]; rfl
    obtain ⟨t, e1, e2⟩ := catL_pre _ _ h.clean (fun y hy => by obtain ⟨z, hz, rfl⟩ := List.mem_map.1 hy; exact hcl z hz) (.inl rfl) hc2
    have ht : t = [] := by cases t with
      | nil => rfl
      | cons y t => cases e2
    rw [ht, List.append_nil] at e1
    have e3 := map_list_inj e1
    unfold finP
    rw [e3, if_pos ⟨List.all_eq_true.2 fun y hy => h y hy, hl⟩]
theorem Nms.app {a b : List ByteArray} : Nms (a ++ b) ↔ Nms a ∧ Nms b := by
  unfold Nms
  constructor
  · intro h; exact ⟨fun x hx => h x (by simp [hx]), fun x hx => h x (by simp [hx])⟩
  · rintro ⟨h1, h2⟩ x hx
    rcases List.mem_append.1 hx with hx | hx
    · exact h1 x hx
    · exact h2 x hx
theorem parentP_split {p : ByteArray} {ns : List ByteArray} {nm : ByteArray} (h : splitP p = some (ns ++ [nm])) : parentP p = some (joinP ns, nm) := by
  unfold parentP
  rw [h]
  simp
theorem upOf_split {p : ByteArray} {ns : List ByteArray} {nm : ByteArray} (h : splitP p = some (ns ++ [nm])) : upOf p = (joinP ns, nm) := by
  unfold upOf; rw [parentP_split h]; rfl
theorem namedP_iff {p : ByteArray} : namedP p = true ↔ ∃ ns nm, splitP p = some (ns ++ [nm]) := by
  unfold namedP parentP
  cases h : splitP p with
  | none => simp
  | some l =>
    cases hl : l.getLast? with
    | none =>
      have : l = [] := by simpa using hl
      subst this
      simp
    | some x =>
      have hne : l ≠ [] := by rintro rfl; simp at hl
      refine ⟨fun _ => ⟨l.dropLast, l.getLast hne, ?_⟩, fun _ => by simp [hl]⟩
      rw [List.dropLast_concat_getLast]
theorem isPre_iff {a b : List UInt8} : Lib.hasPrefix a b = true ↔ ∃ t, a = b ++ t := by
  unfold Lib.hasPrefix
  rw [List.isPrefixOf_iff_prefix]
  constructor
  · rintro ⟨t, h⟩; exact ⟨t, h.symm⟩
  · rintro ⟨t, h⟩; exact ⟨t, h.symm⟩
theorem pre_names {ns ms : List ByteArray} (hn : Nms ns) (hm : Nms ms) (h0 : ns ≠ []) : Lib.hasPrefix (joinP ms).data.toList (joinP ns ++ slash).data.toList = true ↔ ∃ c r, ms = ns ++ c :: r := by
  rw [isPre_iff, ba_app, joinP_list h0]
  have hsl : slash.data.toList = [47] := rfl
  rw [hsl]
  constructor
  · rintro ⟨t, h⟩
    by_cases h1 : ms = []
    · subst h1
      exfalso
      obtain ⟨x, r, hxr⟩ := List.exists_cons_of_ne_nil h0
      have e : (joinP []).data.toList = [47] := rfl
      rw [e, hxr, List.map_cons, catL_cons] at h
      have := congrArg List.length h
      simp at this
    · rw [joinP_list h1, List.append_assoc] at h
      obtain ⟨r, e1, e2⟩ := catL_pre _ _ hn.clean hm.clean (.inr ⟨t, rfl⟩) h
      obtain ⟨c, e3, e4⟩ := map_app_inj e1
      cases c with
      | nil => rw [← e4] at e2; cases e2
      | cons y c => exact ⟨y, c, e3⟩
  · rintro ⟨c, r, rfl⟩
    rw [joinP_list (by simp)]
    refine ⟨c.data.toList ++ catL (r.map (·.data.toList)), ?_⟩
    simp [catL]
section
variable {t : Tree}
theorem findP_some (H : OkT t.nodes t.next) {p : ByteArray} {id : Int} : (findP t p = id ∧ id ≠ 0) ↔ ∃ ns, splitP p = some ns ∧ Up t.nodes ns.reverse id := by
  unfold findP
  cases h : splitP p with
  | none =>
    simp only [false_and, exists_false, iff_false, reduceCtorEq]
    rintro ⟨rfl, h⟩; exact h rfl
  | some l =>
    obtain ⟨r, _, _, h1, _⟩ := H.rootNd
    simp only [h1]
    rw [if_neg (by decide), find_up H]
    simp
theorem findP_join (H : OkT t.nodes t.next) {ns : List ByteArray} {id : Int} (h : Up t.nodes ns.reverse id) : findP t (joinP ns) = id := by
  have hl := up_len H h
  exact ((findP_some H).2 ⟨ns, splitP_join (fun x hx => hl.2 x (by simpa using hx)) (by simpa using hl.1), h⟩).1
/-- Under a path, or below its node: the same for a place where nothing is. -/
theorem under_below (H : OkT t.nodes t.next) {p q : ByteArray} (hp : namedP p = true) (hq : namedP q = true) (h1 : findP t p ≠ 0) (h2 : findP t (upOf q).1 ≠ 0) (h3 : findP t q = 0) : (decide (q = p) || Lib.hasPrefix q.data.toList (p ++ slash).data.toList) = below t.nodes (findP t (upOf q).1) (findP t p) := by
  obtain ⟨ns0, nm0, hns⟩ := namedP_iff.1 hp
  obtain ⟨ms, nm, hms⟩ := namedP_iff.1 hq
  have hqp : q ≠ p := by rintro rfl; exact h1 h3
  obtain ⟨ns, hns2, hup⟩ := (findP_some H).1 ⟨rfl, h1⟩
  rw [hns] at hns2
  cases hns2
  obtain ⟨k1, k2, k3⟩ := splitP_some hns
  obtain ⟨m1, m2, m3⟩ := splitP_some hms
  rw [upOf_split hms] at h2 ⊢
  obtain ⟨os, hos, hup2⟩ := (findP_some H).1 ⟨rfl, h2⟩
  have hos2 := splitP_join (Nms.app.1 m1).1 (by simp at m2; omega)
  rw [hos2] at hos
  cases hos
  rw [Bool.eq_iff_iff, below_up H h1 hup2 (by simp at m2 ⊢; omega), decide_eq_false hqp, Bool.false_or, show Lib.hasPrefix q.data.toList (p ++ slash).data.toList = Lib.hasPrefix (joinP (ms ++ [nm])).data.toList (joinP (ns0 ++ [nm0]) ++ slash).data.toList by rw [k3, m3], pre_names k1 m1 (by simp)]
  constructor
  · rintro ⟨c, r, h⟩
    have e : ∃ a, ms = (ns0 ++ [nm0]) ++ a := by
      have := congrArg List.dropLast h
      rw [List.dropLast_concat, List.dropLast_append_of_ne_nil (by simp)] at this
      exact ⟨_, this⟩
    obtain ⟨a, rfl⟩ := e
    exact ⟨a.reverse, (ns0 ++ [nm0]).reverse, by rw [List.reverse_append], hup⟩
  · rintro ⟨a, b, hab, hb⟩
    have := up_uniq hb hup
    subst this
    have e := congrArg List.reverse hab
    rw [List.reverse_reverse, List.reverse_append, List.reverse_reverse] at e
    rw [e]
    cases h : a.reverse with
    | nil => exact ⟨nm, [], by simp⟩
    | cons y a => exact ⟨y, a ++ [nm], by simp⟩
end
end Go.Tm

/- How far marks go. -/
namespace Go.Tm
open Go Go.Abs
set_option linter.unusedVariables false
set_option linter.unusedSimpArgs false
theorem mkNod_next {x : Nod} {k : Int} (h : 0 ≤ k ∧ k + 2097160 ≤ 9223372036854775807) (hl : x.pieces.length ≤ 1048576) : (mkNod k x).2 = k + 8 + x.pieces.length * 2 := by
  have e1 : w64 (k + 1) = k + 1 := w64_eq (by omega)
  have e2 : w64 (k + 1 + 1) = k + 1 + 1 := w64_eq (by omega)
  have e3 : w64 (k + 1 + 1 + 1) = k + 1 + 1 + 1 := w64_eq (by omega)
  have e4 : w64 (k + 1 + 1 + 1 + 1) = k + 1 + 1 + 1 + 1 := w64_eq (by omega)
  have e5 : w64 (k + 1 + 1 + 1 + 1 + 1) = k + 1 + 1 + 1 + 1 + 1 := w64_eq (by omega)
  have e6 : w64 (k + 1 + 1 + 1 + 1 + 1 + 1) = k + 1 + 1 + 1 + 1 + 1 + 1 := w64_eq (by omega)
  have e7 : w64 (k + 1 + 1 + 1 + 1 + 1 + 1 + 1) = k + 1 + 1 + 1 + 1 + 1 + 1 + 1 := w64_eq (by omega)
  obtain ⟨p1, p2, p3⟩ := marks_pc x.pieces (k + 1 + 1 + 1 + 1 + 1 + 1 + 1) (by omega)
  have e8 : w64 ((scan mkPc (k + 1 + 1 + 1 + 1 + 1 + 1 + 1) x.pieces).2 + 1) = (scan mkPc (k + 1 + 1 + 1 + 1 + 1 + 1 + 1) x.pieces).2 + 1 := w64_eq (by omega)
  simp only [mkNod, e1, e2, e3, e4, e5, e6, e7, e8]
  omega
theorem nod_up : ∀ (l : List Nod) (k : Int), 0 ≤ k → k + l.length * 2097160 ≤ 9223372036854775807 → (∀ x ∈ l, x.pieces.length ≤ 1048576) → (scan mkNod k l).2 ≤ k + l.length * 2097160
  | [], k, _, _, _ => by simp [scan]
  | x :: r, k, h0, h, hp => by
    simp only [List.length_cons] at h ⊢
    have hx := hp x (by simp)
    have e := mkNod_next (x := x) (k := k) (by omega) hx
    have := nod_up r (mkNod k x).2 (by omega) (by omega) (fun y hy => hp y (by simp [hy]))
    simp only [scan]
    omega
end Go.Tm

/- Right trees without places: what stays right. -/
namespace Go.Tm
open Go Go.Abs
set_option linter.unusedVariables false
set_option linter.unusedSimpArgs false
def Apart (x y : Nod) : Prop := ¬ (x.parent = y.parent ∧ x.name = y.name)
structure OkP (l : List Nod) (nx : Int) : Prop where
  len : 1 ≤ l.length ∧ l.length ≤ 14
  nxt : nx ≤ 100000
  root : ∃ r, l.head? = some r ∧ rootB r = true
  asc : l.Pairwise fun x y => x.id < y.id
  low : ∀ x ∈ l, x.id < nx
  nds : ∀ x ∈ l, ndB x = true
  nms : ∀ x ∈ l, x.id ≠ 1 → nmB x.name = true
  one : l.Pairwise Apart
  up : ∀ x ∈ l, x.id ≠ 1 → dirAt l x.parent = true ∧ rIn l 3 x.parent
section
variable {l : List Nod} {nx : Int}
theorem asc_pair : (∀ (i : Nat) x y, l[i]? = some x → l[i + 1]? = some y → x.id < y.id) ↔ l.Pairwise fun x y => x.id < y.id := by
  constructor
  · intro h
    rw [List.pairwise_iff_getElem]
    intro i j hi hj hij
    exact asc_lt h (j - i - 1) i _ _ (List.getElem?_eq_getElem hi) (by rw [show i + (j - i - 1) + 1 = j by omega]; exact List.getElem?_eq_getElem hj)
  · intro h i x y hx hy
    obtain ⟨hi, rfl⟩ := List.getElem?_eq_some_iff.1 hx
    obtain ⟨hj, rfl⟩ := List.getElem?_eq_some_iff.1 hy
    exact List.pairwise_iff_getElem.1 h i (i + 1) hi hj (by omega)
theorem okP_iff : OkT l nx ↔ OkP l nx := by
  constructor
  · intro H
    obtain ⟨r, h0, hr⟩ := H.root
    have hr2 := rootB_iff.1 hr
    refine ⟨⟨H.len1, H.len2⟩, H.nxt, ⟨r, by rw [List.head?_eq_getElem?]; exact h0, hr⟩, asc_pair.1 H.asc, H.low, H.nds, fun x hx h1 => ?_, ?_, fun x hx h1 => ?_⟩
    · obtain ⟨i, hi⟩ := List.getElem?_of_mem hx
      exact H.nms i x (H.idx_pos hi h1) hi
    · rw [List.pairwise_iff_getElem]
      intro i j hi hj hij
      exact uniqB_iff.1 (H.uniq j _ (by omega) (List.getElem?_eq_getElem hj)) i _ hij (List.getElem?_eq_getElem hi)
    · obtain ⟨i, hi⟩ := List.getElem?_of_mem hx
      exact H.up i x (H.idx_pos hi h1) hi
  · intro H
    obtain ⟨r, h0, hr⟩ := H.root
    rw [List.head?_eq_getElem?] at h0
    have hr2 := rootB_iff.1 hr
    have hne : ∀ (i : Nat) x, 0 < i → l[i]? = some x → x.id ≠ 1 := fun i x hi hx => by
      obtain ⟨h1, rfl⟩ := List.getElem?_eq_some_iff.1 h0
      obtain ⟨h2, rfl⟩ := List.getElem?_eq_some_iff.1 hx
      have := List.pairwise_iff_getElem.1 H.asc 0 i h1 h2 hi
      have := hr2.1
      omega
    refine ⟨H.len.1, H.len.2, H.nxt, ⟨r, h0, hr⟩, asc_pair.2 H.asc, H.low, H.nds, fun i x hi hx => H.nms x (List.mem_of_getElem? hx) (hne i x hi hx), fun i x hi hx => ?_, fun i x hi hx => H.up x (List.mem_of_getElem? hx) (hne i x hi hx)⟩
    rw [uniqB_iff]
    intro j y hj hy
    obtain ⟨h1, rfl⟩ := List.getElem?_eq_some_iff.1 hx
    obtain ⟨h2, rfl⟩ := List.getElem?_eq_some_iff.1 hy
    exact List.pairwise_iff_getElem.1 H.one j i h2 h1 hj
theorem find_congr {α : Type} {p q : α → Bool} : ∀ (l : List α), (∀ x ∈ l, p x = q x) → l.find? p = l.find? q
  | [], _ => rfl
  | x :: r, h => by
    rw [List.find?_cons, List.find?_cons, h x (by simp), find_congr r fun y hy => h y (by simp [hy])]
/-- Nodes that keep number, parent, name and kind. -/
def Keeps (l : List Nod) (g : Nod → Nod) : Prop := ∀ y ∈ l, (g y).id = y.id ∧ (g y).parent = y.parent ∧ (g y).name = y.name ∧ (g y).dir = y.dir
section
variable {g : Nod → Nod}
theorem nd_map (hg : Keeps l g) (id : Int) : nd (l.map g) id = (nd l id).map g := by
  unfold nd
  rw [List.find?_map]
  congr 1
  exact find_congr l fun x hx => by simp [(hg x hx).1]
theorem dirAt_map (hg : Keeps l g) (id : Int) : dirAt (l.map g) id = dirAt l id := by
  unfold dirAt
  rw [nd_map hg]
  cases h : nd l id with
  | none => rfl
  | some x => simp [(hg x (nd_mem h).1).2.2.2]
theorem rIn_map (hg : Keeps l g) : ∀ (n : Nat) (id : Int), rIn (l.map g) n id ↔ rIn l n id
  | 0, id => Iff.rfl
  | n + 1, id => by
    simp only [rIn, nd_map hg]
    constructor
    · rintro (h | ⟨y, hy, hd, h⟩)
      · exact .inl h
      · obtain ⟨x, hx, rfl⟩ := Option.map_eq_some_iff.1 hy
        have hk := hg x (nd_mem hx).1
        exact .inr ⟨x, hx, by rw [← hk.2.2.2]; exact hd, by rw [← hk.2.1]; exact (rIn_map hg n _).1 h⟩
    · rintro (h | ⟨x, hx, hd, h⟩)
      · exact .inl h
      · have hk := hg x (nd_mem hx).1
        exact .inr ⟨g x, by rw [hx]; rfl, by rw [hk.2.2.2]; exact hd, by rw [hk.2.1]; exact (rIn_map hg n _).2 h⟩
theorem up_map (hg : Keeps l g) : ∀ (ns : List ByteArray) (id : Int), Up (l.map g) ns id ↔ Up l ns id
  | [], id => Iff.rfl
  | nm :: ns, id => by
    simp only [Up, nd_map hg]
    constructor
    · rintro ⟨h1, y, hy, hn, h⟩
      obtain ⟨x, hx, rfl⟩ := Option.map_eq_some_iff.1 hy
      have hk := hg x (nd_mem hx).1
      exact ⟨h1, x, hx, by rw [← hk.2.2.1]; exact hn, by rw [← hk.2.1]; exact (up_map hg ns _).1 h⟩
    · rintro ⟨h1, x, hx, hn, h⟩
      have hk := hg x (nd_mem hx).1
      exact ⟨h1, g x, by rw [hx]; rfl, by rw [hk.2.2.1]; exact hn, by rw [hk.2.1]; exact (up_map hg ns _).2 h⟩
theorem belowF_map (hg : Keeps l g) (top : Int) : ∀ (n : Nat) (id : Int), belowF (l.map g) n id top = belowF l n id top
  | 0, _ => rfl
  | n + 1, id => by
    rw [belowF, belowF, nd_map hg]
    cases h : nd l id with
    | none => rfl
    | some x =>
      have hk := hg x (nd_mem h).1
      simp only [Option.map_some, hk.2.1, belowF_map hg top n]
theorem below_map (hg : Keeps l g) (id top : Int) : below (l.map g) id top = below l id top := belowF_map hg top 15 id
theorem okP_map (H : OkP l nx) (hg : Keeps l g) (hn : ∀ y ∈ l, ndB (g y) = true) (hr : ∀ y ∈ l, y.id = 1 → (g y).schema ≠ 0) : OkP (l.map g) nx := by
  obtain ⟨r, h0, hrb⟩ := H.root
  have hr2 := rootB_iff.1 hrb
  have hrm : r ∈ l := List.mem_of_head? h0
  refine ⟨by simpa using H.len, H.nxt, ⟨g r, by rw [List.head?_map, h0]; rfl, ?_⟩, ?_, ?_, ?_, ?_, ?_, ?_⟩
  · have hk := hg r hrm
    rw [rootB_iff]
    exact ⟨hk.1.trans hr2.1, hk.2.1.trans hr2.2.1, hk.2.2.1.trans hr2.2.2.1, hk.2.2.2.trans hr2.2.2.2.1, hr r hrm hr2.1⟩
  · rw [List.pairwise_map]
    exact H.asc.imp_of_mem fun ha hb h => by rw [(hg _ ha).1, (hg _ hb).1]; exact h
  · intro y hy
    obtain ⟨x, hx, rfl⟩ := List.mem_map.1 hy
    rw [(hg x hx).1]; exact H.low x hx
  · intro y hy
    obtain ⟨x, hx, rfl⟩ := List.mem_map.1 hy
    exact hn x hx
  · intro y hy h1
    obtain ⟨x, hx, rfl⟩ := List.mem_map.1 hy
    rw [(hg x hx).2.2.1]
    exact H.nms x hx (by rw [← (hg x hx).1]; exact h1)
  · rw [List.pairwise_map]
    exact H.one.imp_of_mem fun ha hb h => by
      unfold Apart
      rw [(hg _ ha).2.1, (hg _ hb).2.1, (hg _ ha).2.2.1, (hg _ hb).2.2.1]; exact h
  · intro y hy h1
    obtain ⟨x, hx, rfl⟩ := List.mem_map.1 hy
    have h := H.up x hx (by rw [← (hg x hx).1]; exact h1)
    rw [(hg x hx).2.1, dirAt_map hg, rIn_map hg]
    exact h
end
/-- One node turned: a map. -/
def atId (id : Int) (f : Nod → Nod) (y : Nod) : Nod := if y.id = id then f y else y
theorem modify_atId (H : OkT l nx) {k : Nat} {x : Nod} (hx : l[k]? = some x) (f : Nod → Nod) : l.modify k f = l.map (atId x.id f) := by
  apply List.ext_getElem?
  intro i
  rw [List.getElem?_modify, List.getElem?_map]
  cases hi : l[i]? with
  | none => simp
  | some y =>
    by_cases c : k = i
    · subst c
      rw [hx] at hi; cases hi
      simp [atId]
    · have hne : y.id ≠ x.id := by
        rcases Nat.lt_or_gt_of_ne c with c | c
        · have := H.lt c hx hi; omega
        · have := H.lt c hi hx; omega
      simp [c, atId, hne]
theorem keeps_atId {id : Int} {f : Nod → Nod} (hf : ∀ y, (f y).id = y.id ∧ (f y).parent = y.parent ∧ (f y).name = y.name ∧ (f y).dir = y.dir) : Keeps l (atId id f) := fun y _ => by
  unfold atId
  split
  · exact hf y
  · exact ⟨rfl, rfl, rfl, rfl⟩
/-- A node is turned that stays what it is. -/
theorem ok_mod (H : OkT l nx) {k : Nat} {x : Nod} (hx : l[k]? = some x) {f : Nod → Nod} (hf : ∀ y, (f y).id = y.id ∧ (f y).parent = y.parent ∧ (f y).name = y.name ∧ (f y).dir = y.dir) (hn : ndB (f x) = true) (hr : x.id = 1 → (f x).schema ≠ 0) : OkT (l.modify k f) nx := by
  rw [modify_atId H hx, okP_iff]
  have hm := List.mem_of_getElem? hx
  have hu : ∀ y ∈ l, y.id = x.id → y = x := fun y hy he => by
    have h1 := H.nd_self hy
    rw [he, H.nd_self hm] at h1
    cases h1; rfl
  refine okP_map (okP_iff.1 H) (keeps_atId hf) (fun y hy => ?_) (fun y hy h1 => ?_)
  · unfold atId
    split
    · rename_i he; rw [hu y hy he]; exact hn
    · exact H.nds y hy
  · unfold atId
    split
    · rename_i he
      rw [hu y hy he] at h1 ⊢
      exact hr h1
    · obtain ⟨r, h0, _, _, h2, _, _, _, h5⟩ := H.rootNd
      have hrm := List.mem_of_getElem? h0
      have h6 := H.nd_self hy
      rw [h1, ← h2, H.nd_self hrm] at h6
      cases h6; exact h5
end
end Go.Tm

/- What a record leaves is right. -/
namespace Go.Tm
open Go Go.Abs
set_option linter.unusedVariables false
set_option linter.unusedSimpArgs false
section
variable {l : List Nod} {nx : Int}
theorem root_not_below (H : OkT l nx) {top : Int} (h0 : top ≠ 0) (h1 : top ≠ 1) : below l 1 top = false := by
  cases hb : below l 1 top with
  | false => rfl
  | true =>
    obtain ⟨a, b, hab, hu⟩ := (below_up H h0 (ns := []) (id := 1) rfl (by simp)).1 hb
    have hb0 : b = [] := (List.append_eq_nil_iff.1 hab.symm).2
    subst hb0
    exact absurd hu h1
theorem below_kid (H : OkT l nx) {top : Int} (h0 : top ≠ 0) {x : Nod} (hx : x ∈ l) (h1 : x.id ≠ 1) (hb : below l x.parent top = true) : below l x.id top = true := by
  obtain ⟨ns, hu, hl, _⟩ := H.names hx
  cases ns with
  | nil => exact absurd hu h1
  | cons nm ns =>
    obtain ⟨_, y, hy, hn, hu2⟩ := id hu
    rw [H.nd_self hx] at hy
    cases hy
    obtain ⟨a, b, hab, hb2⟩ := (below_up H h0 hu2 (by simp at hl; omega)).1 hb
    exact (below_up H h0 hu hl).2 ⟨nm :: a, b, by rw [hab]; rfl, hb2⟩
def live (l : List Nod) (top : Int) : List Nod := l.filter fun x => !below l x.id top
theorem nd_live (H : OkT l nx) {top id : Int} {x : Nod} (hx : nd l id = some x) (hb : below l id top = false) : nd (live l top) id = some x := by
  obtain ⟨hm, hid⟩ := nd_mem hx
  unfold nd live
  rw [List.find?_filter]
  have := find_congr (p := fun y : Nod => decide ((!below l y.id top) = true ∧ decide (y.id = id) = true)) (q := fun y => decide (y.id = id)) l fun y hy => by
    by_cases c : y.id = id
    · simp [c, hb]
    · simp [c]
  rw [this]
  exact hx
theorem live_nd (H : OkT l nx) {top id : Int} {x : Nod} (h : nd (live l top) id = some x) : nd l id = some x ∧ below l id top = false := by
  obtain ⟨hm, hid⟩ := nd_mem h
  obtain ⟨h1, h2⟩ := List.mem_filter.1 hm
  subst hid
  exact ⟨H.nd_self h1, by simpa using h2⟩
theorem rIn_live (H : OkT l nx) {top : Int} (h0 : top ≠ 0) : ∀ (n : Nat) (id : Int), rIn l n id → below l id top = false → (id = 1 ∨ ∃ x, nd l id = some x) → rIn (live l top) n id
  | 0, id, h, _, _ => h
  | n + 1, id, h, hb, hx => by
    rcases h with h | ⟨y, hy, hd, h⟩
    · exact .inl h
    · by_cases c : id = 1
      · exact .inl c
      · obtain ⟨hm, hid⟩ := nd_mem hy
        have hne : y.id ≠ 1 := by rw [hid]; exact c
        have hbp : below l y.parent top = false := by
          cases hbb : below l y.parent top with
          | false => rfl
          | true => rw [← hid, below_kid H h0 hm hne hbb] at hb; cases hb
        refine .inr ⟨y, nd_live H hy hb, hd, rIn_live H h0 n y.parent h hbp ?_⟩
        have hu := (((okP_iff.1 H).up y hm hne).1)
        unfold dirAt at hu
        cases hn : nd l y.parent with
        | none => rw [hn] at hu; cases hu
        | some z => exact .inr ⟨z, rfl⟩
theorem ok_live (H : OkT l nx) {top : Int} (h0 : top ≠ 0) (h1 : top ≠ 1) : OkT (live l top) nx := by
  have P := okP_iff.1 H
  rw [okP_iff]
  obtain ⟨r, hr, hrb⟩ := P.root
  have hr2 := rootB_iff.1 hrb
  have hrl : r ∈ live l top := List.mem_filter.2 ⟨List.mem_of_head? hr, by rw [hr2.1, root_not_below H h0 h1]; rfl⟩
  refine ⟨⟨List.length_pos_of_mem hrl, Nat.le_trans (List.length_filter_le _ _) P.len.2⟩, P.nxt, ⟨r, ?_, hrb⟩, P.asc.filter _, fun x hx => P.low x (List.mem_filter.1 hx).1, fun x hx => P.nds x (List.mem_filter.1 hx).1, fun x hx => P.nms x (List.mem_filter.1 hx).1, P.one.filter _, fun x hx hne => ?_⟩
  · cases l with
    | nil => cases hr
    | cons y l =>
      simp only [List.head?_cons, Option.some.injEq] at hr
      subst hr
      have hk := (List.mem_filter.1 hrl).2
      unfold live
      have e : (y :: l).filter (fun x : Nod => !below (y :: l) x.id top) = y :: l.filter (fun x : Nod => !below (y :: l) x.id top) := List.filter_cons_of_pos hk
      rw [e]; rfl
  · obtain ⟨hm, hb⟩ := List.mem_filter.1 hx
    have hb : below l x.id top = false := by simpa using hb
    obtain ⟨hd, hi⟩ := P.up x hm hne
    have hbp : below l x.parent top = false := by
      cases hbb : below l x.parent top with
      | false => rfl
      | true => rw [below_kid H h0 hm hne hbb] at hb; cases hb
    unfold dirAt at hd ⊢
    cases hn : nd l x.parent with
    | none => rw [hn] at hd; cases hd
    | some y =>
      rw [hn] at hd
      rw [nd_live H hn hbp]
      exact ⟨hd, rIn_live H h0 3 x.parent hi hbp (.inr ⟨y, hn⟩)⟩
end
/-! ### Spans -/
def sumL : List Int → Int
  | [] => 0
  | x :: r => x + sumL r
theorem sumL_app : ∀ (a b : List Int), sumL (a ++ b) = sumL a + sumL b
  | [], b => by simp [sumL]
  | x :: a, b => by simp [sumL, sumL_app a b]; omega
theorem spansF_ok : ∀ (k : Nat) (z n : Int), 1 ≤ z → 1 ≤ n → n ≤ ((k : Int) + 1) * z → (∀ x ∈ spansF k z n, 1 ≤ x ∧ x ≤ z) ∧ sumL (spansF k z n) = n
  | 0, z, n, hz, hn, h => by
    simp only [spansF]
    exact ⟨fun x hx => by simp at hx; subst hx; simp at h; omega, by simp [sumL]⟩
  | k + 1, z, n, hz, hn, h => by
    unfold spansF
    split
    · rename_i hc
      have e : ((k : Int) + 1 + 1) * z = ((k : Int) + 1) * z + z := by rw [Int.add_mul ((k : Int) + 1), Int.one_mul]
      have h' : n ≤ ((k : Int) + 1) * z + z := by rw [← e]; simpa using h
      obtain ⟨h1, h2⟩ := spansF_ok k z (n - z) hz (by omega) (by omega)
      refine ⟨fun x hx => ?_, by simp only [sumL, h2]; omega⟩
      rcases List.mem_cons.1 hx with rfl | hx
      · omega
      · exact h1 x hx
    · exact ⟨fun x hx => by simp at hx; subst hx; omega, by simp [sumL]⟩
theorem spans_ok {s n : Int} (hs : 1 ≤ s ∧ s ≤ 3) (hn : 1 ≤ n ∧ n ≤ 1000) : (∀ x ∈ spans s n, 1 ≤ x ∧ x ≤ gs s) ∧ sumL (spans s n) = n := by
  have hg : 16 ≤ gs s := by
    rcases gs_pos s with h | h
    · exfalso; unfold gs at h; split at h <;> (try split at h) <;> (try split at h) <;> omega
    · exact h
  have hi : inB n 1 1000 = true := inB_iff.2 hn
  unfold spans
  rw [if_neg (by rintro (h | h); omega; rw [hi] at h; cases h)]
  refine spansF_ok 1000 (gs s) n (by omega) hn.1 ?_
  have : ((1000 : Nat) : Int) + 1 = 1001 := rfl
  rw [this]
  omega
theorem psum_new : ∀ (l : List Int) (g : Int), psum (newPcs g l) = sumL l
  | [], g => rfl
  | x :: r, g => by
    have e : newPcs g (x :: r) = ⟨g, x⟩ :: newPcs (g + 1) r := by
      simp only [newPcs, List.mapIdx_cons]
      congr 1
      · simp
      · apply List.ext_getElem?
        intro i
        simp only [List.getElem?_mapIdx]
        cases r[i]? <;> simp; omega
    rw [e, psum, sumL, psum_new r]
theorem newPcs_mem {g : Int} {l : List Int} {p : Pc} (h : p ∈ newPcs g l) : g ≤ p.group ∧ p.group < g + l.length ∧ p.len ∈ l := by
  obtain ⟨i, hi⟩ := List.getElem?_of_mem h
  unfold newPcs at hi
  rw [List.getElem?_mapIdx] at hi
  cases hx : l[i]? with
  | none => rw [hx] at hi; cases hi
  | some z =>
    rw [hx] at hi
    simp only [Option.map_some, Option.some.injEq] at hi
    subst hi
    have := (List.getElem?_eq_some_iff.1 hx).1
    exact ⟨by dsimp only; omega, by dsimp only; omega, List.mem_of_getElem? hx⟩
/-! ### A record -/
theorem find_at {t : Tree} (H : OkT t.nodes t.next) {p : ByteArray} (h : findP t p ≠ 0) : ∃ (j : Nat) (q : Nod), t.nodes[j]? = some q ∧ atI t.nodes (findP t p) = (j : Int) ∧ nd t.nodes (findP t p) = some q := by
  obtain ⟨ns, _, hu⟩ := (findP_some H).1 ⟨rfl, h⟩
  obtain ⟨x, hx, hm, hid⟩ := up_nd H hu
  obtain ⟨j, hj⟩ := List.getElem?_of_mem hm
  have := H.nd_at hj
  rw [hid] at this
  exact ⟨j, x, hj, this.1, hx⟩
theorem editB_named {e : Edt} (h : editB e = true) (h10 : e.kind ≠ 10) (h5 : e.kind ≠ 5) (h6 : e.kind ≠ 6) : namedP e.path = true := by
  unfold editB at h
  split at h
  · cases h
  · split at h
    · cases h
    · rename_i hc
      simp only [not_or, not_and, Bool.not_eq_false] at hc
      cases hn : namedP e.path with
      | true => rfl
      | false => exact absurd (hc.1 hn) (by simp [h5, h6])
theorem named_not_root {t : Tree} (H : OkT t.nodes t.next) {p : ByteArray} (h : namedP p = true) (h0 : findP t p ≠ 0) : findP t p ≠ 1 := by
  intro h1
  obtain ⟨ns, nm, hs⟩ := namedP_iff.1 h
  obtain ⟨ms, hm, hu⟩ := (findP_some H).1 ⟨rfl, h0⟩
  rw [hs] at hm
  cases hm
  rw [h1, List.reverse_append] at hu
  exact hu.1 rfl
theorem ndB_set {x : Nod} (h : ndB x = true) (hd : x.dir = true) {s q : Int} (hs : 0 ≤ s ∧ s ≤ 3) (hq : 0 ≤ q ∧ q ≤ 1000) : ndB { x with schema := s, quota := q } = true := by
  obtain ⟨h1, h2, h3, h4, h5⟩ := ndB_dir h hd
  simp [ndB, hd, dirB, inB, hs, hq, h3, h4, h5]
theorem apply_ok {t : Tree} {e : Edt} {g : Int} (H : okT t.nodes t.next = true) : okT (applyT t e g).1.nodes (applyT t e g).1.next = true := by
  have K := okT_iff.1 H
  unfold applyT
  split
  · exact H
  rename_i h0
  simp only [not_or, Bool.not_eq_false] at h0
  obtain ⟨_, he, hg⟩ := h0
  split
  · exact H
  rename_i k10
  split
  · unfold addT
    repeat' split
    all_goals first | exact H | skip
    rename_i h
    simp only [not_or, Bool.not_eq_false] at h
    exact h.2.2
  rename_i k1
  split
  · unfold addT
    repeat' split
    all_goals first | exact H | skip
    rename_i h
    simp only [not_or, Bool.not_eq_false] at h
    exact h.2.2
  rename_i k2
  split
  · exact H
  rename_i h4
  obtain ⟨j, q, gq, ga, gn⟩ := find_at K h4
  have hat : atN t.nodes (findP t e.path) = j := by simp [atN, ga]
  rw [gn, hat]
  dsimp only
  have hnd := K.nds q (List.mem_of_getElem? gq)
  split
  · unfold moveT
    dsimp only
    repeat' split
    all_goals first | exact H | skip
    rename_i h
    simpa using h
  rename_i k3
  split
  · rename_i k4
    exact okT_iff.2 (ok_live K h4 (named_not_root K (editB_named he k10 (by omega) (by omega)) h4))
  rename_i k4
  split
  · rename_i k56
    unfold setT
    repeat' split
    all_goals first | exact H | skip
    · rename_i hd k5
      have hd : q.dir = true := by simpa using hd
      obtain ⟨h1, h2, _⟩ := ndB_dir hnd hd
      have hn : 1 ≤ e.num ∧ e.num ≤ 3 := by
        unfold editB at he
        simp [k5, inB] at he
        exact he.2.1
      exact okT_iff.2 (ok_mod K gq (f := fun y => { y with schema := e.num }) (fun y => ⟨rfl, rfl, rfl, rfl⟩) (ndB_set hnd hd (by omega) h2) (fun _ => by dsimp only; omega))
    · rename_i hd k5 _
      have hd : q.dir = true := by simpa using hd
      obtain ⟨h1, h2, _⟩ := ndB_dir hnd hd
      have k6 : e.kind = 6 := by omega
      have hn : 0 ≤ e.num ∧ e.num ≤ 1000 := by
        unfold editB at he
        simp [k6, inB] at he
        exact he.2.1
      refine okT_iff.2 (ok_mod K gq (f := fun y => { y with quota := e.num }) (fun y => ⟨rfl, rfl, rfl, rfl⟩) (ndB_set hnd hd (inB_iff.1 h1) hn) (fun h => ?_))
      obtain ⟨r, h0, _, _, h2, _, _, _, h5⟩ := K.rootNd
      have h6 := K.nd_self (List.mem_of_getElem? gq)
      rw [h, ← h2, K.nd_self (List.mem_of_getElem? h0)] at h6
      cases h6; exact h5
  · rename_i k56
    have hroot : q.dir = false → q.id = 1 → False := fun hd h => by
      obtain ⟨r, h0, _, _, h2, _, _, h4, _⟩ := K.rootNd
      have h6 := K.nd_self (List.mem_of_getElem? gq)
      rw [h, ← h2, K.nd_self (List.mem_of_getElem? h0)] at h6
      cases h6; rw [hd] at h4; cases h4
    unfold writeT
    split
    · exact H
    rename_i hd
    have hd : q.dir = false := by simpa using hd
    obtain ⟨f1, f2, f3, f4, f5, f6, f7, f8⟩ := ndB_file hnd hd
    split
    · exact H
    split
    · rename_i k9
      have hn : 1 ≤ e.who ∧ e.who ≤ 9 := by
        unfold editB at he
        simp [k9, inB] at he
        exact he.2.2
      refine okT_iff.2 (ok_mod K gq (f := fun y => { y with writer := e.who }) (fun y => ⟨rfl, rfl, rfl, rfl⟩) ?_ (fun h => (hroot hd h).elim))
      simp only [ndB, hd, Bool.false_eq_true, if_false, fileB, Bool.and_eq_true, decide_eq_true_eq, inB_iff]
      exact ⟨⟨⟨⟨⟨⟨f1, f2⟩, f3⟩, by omega⟩, f5⟩, f6⟩, by rw [f6]; exact f8⟩
    rename_i k9
    split
    · refine okT_iff.2 (ok_mod K gq (f := fun y => { y with writer := 0 }) (fun y => ⟨rfl, rfl, rfl, rfl⟩) ?_ (fun h => (hroot hd h).elim))
      simp only [ndB, hd, Bool.false_eq_true, if_false, fileB, Bool.and_eq_true, decide_eq_true_eq, inB_iff]
      exact ⟨⟨⟨⟨⟨⟨f1, f2⟩, f3⟩, by omega⟩, f5⟩, f6⟩, by rw [f6]; exact f8⟩
    rename_i k8
    split
    · exact H
    rename_i hr
    split
    · exact H
    rename_i hl
    have hkk : 1 ≤ e.kind ∧ e.kind ≤ 10 := by
      unfold editB at he
      split at he
      · cases he
      · rename_i hc; simpa [inB] using hc
    have k7 : e.kind = 7 := by omega
    have hn : 1 ≤ e.num ∧ e.num ≤ 200 := by
      unfold editB at he
      simp [k7, inB] at he
      exact he.2.1
    have hg2 := inB_iff.1 hg
    obtain ⟨s1, s2⟩ := spans_ok f1 (n := e.num) (by omega)
    have hr2 := not_or.1 hr
    refine okT_iff.2 (ok_mod K gq (f := fun y => { y with pieces := q.pieces ++ newPcs g (spans q.schema e.num), len := q.len + e.num }) (fun y => ⟨rfl, rfl, rfl, rfl⟩) ?_ (fun h => (hroot hd h).elim))
    have hall : ∀ p ∈ q.pieces ++ newPcs g (spans q.schema e.num), pcB (gs q.schema) p = true := fun p hp => by
      rcases List.mem_append.1 hp with hp | hp
      · exact List.all_eq_true.1 f5 p hp
      · obtain ⟨p1, p2, p3⟩ := newPcs_mem hp
        have := s1 _ p3
        simp only [pcB, Bool.and_eq_true, inB_iff]
        refine ⟨⟨by omega, by omega⟩, this⟩
    have hps : psum (q.pieces ++ newPcs g (spans q.schema e.num)) = q.len + e.num := by rw [psum_app, psum_new, f6, s2]
    simp only [ndB, hd, Bool.false_eq_true, if_false, fileB, Bool.and_eq_true, decide_eq_true_eq, inB_iff]
    refine ⟨⟨⟨⟨⟨⟨f1, f2⟩, ?_⟩, f4⟩, List.all_eq_true.2 hall⟩, hps⟩, by rw [hps]; omega⟩
    have : (newPcs g (spans q.schema e.num)).length = (spans q.schema e.num).length := by simp [newPcs]
    rw [List.length_append, this]
    omega
end Go.Tm

/- What a record did. -/
namespace Go.Tm
open Go Go.Abs
set_option linter.unusedVariables false
set_option linter.unusedSimpArgs false
inductive Did (t : Tree) (e : Edt) (g : Int) : Tree → Prop
  | boot (hk : e.kind = 10) : Did t e g t
  | add (d : Bool) (w : Int) (hk : (e.kind = 1 ∧ d = true ∧ w = 0) ∨ (e.kind = 2 ∧ d = false ∧ w = e.who)) (h1 : findP t (upOf e.path).1 ≠ 0) (h2 : dirAt t.nodes (findP t (upOf e.path).1) = true) (h3 : findP t e.path = 0)
      (ho : okT (t.nodes ++ [newN t e.path d w]) (t.next + 1) = true) : Did t e g ⟨t.nodes ++ [newN t e.path d w], t.next + 1⟩
  | move (j : Nat) (q : Nod) (hk : e.kind = 3) (h0 : findP t e.path ≠ 0) (hq : t.nodes[j]? = some q) (hid : q.id = findP t e.path) (h1 : findP t (upOf e.to).1 ≠ 0) (h2 : dirAt t.nodes (findP t (upOf e.to).1) = true) (h3 : findP t e.to = 0)
      (h4 : below t.nodes (findP t (upOf e.to).1) (findP t e.path) = false) (ho : okT (t.nodes.modify j (movedN (findP t (upOf e.to).1) (upOf e.to).2)) t.next = true) : Did t e g (modN t j (movedN (findP t (upOf e.to).1) (upOf e.to).2))
  | drop (hk : e.kind = 4) (h0 : findP t e.path ≠ 0) (h1 : findP t e.path ≠ 1) : Did t e g (dropT t (findP t e.path))
  | schema (j : Nat) (q : Nod) (hk : e.kind = 5) (h0 : findP t e.path ≠ 0) (hq : t.nodes[j]? = some q) (hid : q.id = findP t e.path) (hd : q.dir = true) : Did t e g (modN t j fun y => { y with schema := e.num })
  | quota (j : Nat) (q : Nod) (hk : e.kind = 6) (h0 : findP t e.path ≠ 0) (hq : t.nodes[j]? = some q) (hid : q.id = findP t e.path) (hd : q.dir = true) (hu : ¬ (0 < e.num ∧ e.num < usedBelow t q.id)) : Did t e g (modN t j fun y => { y with quota := e.num })
  | put (j : Nat) (q : Nod) (hk : e.kind = 7) (h0 : findP t e.path ≠ 0) (hq : t.nodes[j]? = some q) (hid : q.id = findP t e.path) (hd : q.dir = false) (hw : q.writer ≠ 0) (hr : roomFor t q.id e.num = true) (hl : q.len + e.num ≤ 1000)
      (hp : q.pieces.length + (spans q.schema e.num).length ≤ 40) : Did t e g (modN t j fun y => { y with pieces := q.pieces ++ newPcs g (spans q.schema e.num), len := q.len + e.num })
  | write (j : Nat) (q : Nod) (w : Int) (hk : (e.kind = 8 ∧ w = 0 ∧ q.writer ≠ 0) ∨ (e.kind = 9 ∧ w = e.who ∧ q.writer = 0)) (h0 : findP t e.path ≠ 0) (hq : t.nodes[j]? = some q) (hid : q.id = findP t e.path) (hd : q.dir = false) : Did t e g (modN t j fun y => { y with writer := w })
theorem apply_pre {t : Tree} {e : Edt} {g : Int} (h : (applyT t e g).2 = 0) : okT t.nodes t.next = true ∧ editB e = true ∧ 1 ≤ g ∧ g ≤ 99000 := by
  unfold applyT at h
  split at h
  · cases h
  · rename_i h1
    simp only [not_or, Bool.not_eq_false] at h1
    refine ⟨h1.1, h1.2.1, ?_⟩
    simpa [inB] using h1.2.2
theorem editB_kinds {e : Edt} (h : editB e = true) : 1 ≤ e.kind ∧ e.kind ≤ 10 := by
  unfold editB at h
  split at h
  · cases h
  · rename_i hc; simpa [inB] using hc
theorem add_did {t : Tree} {e : Edt} {g : Int} (H : okT t.nodes t.next = true) {d : Bool} {w : Int} (hk : (e.kind = 1 ∧ d = true ∧ w = 0) ∨ (e.kind = 2 ∧ d = false ∧ w = e.who)) (h : (addT t e.path d w).2 = 0) : Did t e g (addT t e.path d w).1 := by
  unfold addT at h ⊢
  split at h
  · cases h
  rename_i h1
  split at h
  · cases h
  rename_i h2
  split at h
  · cases h
  rename_i h3
  split at h
  · cases h
  rename_i h4
  rw [if_neg h1, if_neg h2, if_neg h3, if_neg h4]
  simp only [not_or, Bool.not_eq_false] at h4
  have hn : w64 (t.next + 1) = t.next + 1 := by
    have K := okT_iff.1 H
    have := K.nxt
    obtain ⟨r, h0, _, _, hr1, _⟩ := K.rootNd
    have := K.low r (List.mem_of_getElem? h0)
    exact w64_sm (by omega)
  rw [hn] at h4 ⊢
  exact .add d w hk h1 (by simpa using h2) (by simpa using h3) h4.2.2
theorem apply_did {t : Tree} {e : Edt} {g : Int} (h : (applyT t e g).2 = 0) : Did t e g (applyT t e g).1 := by
  obtain ⟨H, he, hg1, hg2⟩ := apply_pre h
  have K := okT_iff.1 H
  have hg : inB g 1 99000 = true := inB_iff.2 ⟨hg1, hg2⟩
  have hkk := editB_kinds he
  unfold applyT at h ⊢
  have hc : ¬ (okT t.nodes t.next = false ∨ editB e = false ∨ inB g 1 99000 = false) := by simp [H, he, hg]
  rw [if_neg hc] at h ⊢
  by_cases k10 : e.kind = 10
  · rw [if_pos k10]; exact .boot k10
  rw [if_neg k10] at h ⊢
  by_cases k1 : e.kind = 1
  · rw [if_pos k1] at h ⊢; exact add_did H (.inl ⟨k1, rfl, rfl⟩) h
  rw [if_neg k1] at h ⊢
  by_cases k2 : e.kind = 2
  · rw [if_pos k2] at h ⊢; exact add_did H (.inr ⟨k2, rfl, rfl⟩) h
  rw [if_neg k2] at h ⊢
  by_cases h4 : findP t e.path = 0
  · rw [if_pos h4] at h; cases h
  rw [if_neg h4] at h ⊢
  obtain ⟨j, q, gq, ga, gn⟩ := find_at K h4
  have hat : atN t.nodes (findP t e.path) = j := by simp [atN, ga]
  have hid : q.id = findP t e.path := (nd_mem gn).2
  rw [gn, hat] at h ⊢
  dsimp only at h ⊢
  by_cases k3 : e.kind = 3
  · rw [if_pos k3] at h ⊢
    unfold moveT at h ⊢
    split at h
    · cases h
    rename_i h1
    split at h
    · cases h
    rename_i h2
    split at h
    · cases h
    rename_i h3
    split at h
    · cases h
    rename_i h5
    dsimp only at h ⊢
    split at h
    · cases h
    rename_i h6
    rw [if_neg h1, if_neg h2, if_neg h3, if_neg h5, if_neg h6, hat]
    exact .move j q k3 h4 gq hid h1 (by simpa using h2) (by simpa using h3) (by simpa using h5) (by rw [hat] at h6; simpa [modN] using h6)
  rw [if_neg k3] at h ⊢
  by_cases k4 : e.kind = 4
  · rw [if_pos k4]
    exact .drop k4 h4 (named_not_root K (editB_named he k10 (by omega) (by omega)) h4)
  rw [if_neg k4] at h ⊢
  by_cases k5 : e.kind = 5 ∨ e.kind = 6
  · rw [if_pos k5] at h ⊢
    unfold setT at h ⊢
    split at h
    · cases h
    rename_i hd
    rw [if_neg hd]
    split at h
    · rename_i k
      rw [if_pos k]
      exact .schema j q k h4 gq hid (by simpa using hd)
    rename_i k
    rw [if_neg k]
    split at h
    · cases h
    rename_i hu
    rw [if_neg hu]
    exact .quota j q (by omega) h4 gq hid (by simpa using hd) hu
  rw [if_neg k5] at h ⊢
  unfold writeT at h ⊢
  split at h
  · cases h
  rename_i hd
  rw [if_neg hd]
  have hd : q.dir = false := by simpa using hd
  split at h
  · cases h
  rename_i hw
  rw [if_neg hw]
  split at h
  · rename_i k
    rw [if_pos k]
    refine .write j q e.who (.inr ⟨k, rfl, ?_⟩) h4 gq hid hd
    simpa [k] using hw
  rename_i k9
  rw [if_neg k9]
  have hw : q.writer ≠ 0 := by simpa [k9] using hw
  split at h
  · rename_i k
    rw [if_pos k]
    exact .write j q 0 (.inl ⟨k, rfl, hw⟩) h4 gq hid hd
  rename_i k8
  rw [if_neg k8]
  split at h
  · cases h
  rename_i hr
  rw [if_neg hr]
  split at h
  · cases h
  rename_i hp
  rw [if_neg hp]
  have hr2 := not_or.1 hr
  exact .put j q (by omega) h4 gq hid hd hw (by simpa using hr2.1) (by omega) (by omega)
end Go.Tm

/- Drawn trees: what stays true of them. -/
namespace Go.Tm
open Go Go.Abs
set_option linter.unusedVariables false
set_option linter.unusedSimpArgs false
def nmA : ByteArray := ⟨#[97]⟩
def nmBb : ByteArray := ⟨#[98]⟩
def nmC : ByteArray := ⟨#[99]⟩
def abcL : List ByteArray := [nmA, nmBb, nmC]
theorem nms_abc {x : ByteArray} (h : x ∈ abcL) : nmB x = true ∧ x.size = 1 := by
  simp [abcL] at h
  rcases h with rfl | rfl | rfl <;> exact ⟨rfl, rfl⟩
def AbcP (p : ByteArray) : Prop := ∀ ns, splitP p = some ns → ∀ x ∈ ns, x ∈ abcL
/-- A record that may be drawn. -/
structure GoodE (e : Edt) : Prop where
  ok : editB e = true
  p6 : e.path.size ≤ 6
  t6 : e.to.size ≤ 6
  pa : AbcP e.path
  ta : AbcP e.to
def grps (l : List Nod) : List Int := l.flatMap fun x => x.pieces.map (·.group)
/-- A tree that may be drawn, with its next group, behind so many records. -/
structure Good (t : Tree) (g : Int) (n : Nat) : Prop where
  ok : okT t.nodes t.next = true
  abc : ∀ x ∈ t.nodes, x.id ≠ 1 → x.name ∈ abcL
  nxt : t.next ≤ 2 + n
  grp : (grps t.nodes).Nodup
  lt : ∀ z ∈ grps t.nodes, z < g
  g1 : 1 ≤ g ∧ g ≤ 1 + 20 * n
theorem upOf_last {p : ByteArray} (h : namedP p = true) (ha : AbcP p) : (upOf p).2 ∈ abcL := by
  obtain ⟨ns, nm, hs⟩ := namedP_iff.1 h
  rw [upOf_split hs]
  exact ha _ hs nm (by simp)
theorem modify_split {α : Type} {l : List α} {j : Nat} {q : α} (hq : l[j]? = some q) (f : α → α) : l.modify j f = l.take j ++ f q :: l.drop (j + 1) ∧ l = l.take j ++ q :: l.drop (j + 1) := by
  have hlt := (List.getElem?_eq_some_iff.1 hq).1
  have hx := (List.getElem?_eq_some_iff.1 hq).2
  have hd : l.drop j = q :: l.drop (j + 1) := by rw [List.drop_eq_getElem_cons hlt, hx]
  have e : l = l.take j ++ q :: l.drop (j + 1) := by rw [← hd, List.take_append_drop]
  refine ⟨?_, e⟩
  apply List.ext_getElem?
  intro i
  rw [List.getElem?_modify]
  rcases Nat.lt_trichotomy i j with c | c | c
  · rw [List.getElem?_append_left (by simp; omega), List.getElem?_take_of_lt c]
    cases l[i]? <;> simp [show ¬ j = i by omega]
  · subst c
    rw [hq, List.getElem?_append_right (by simp; omega)]
    simp [Nat.min_eq_left (Nat.le_of_lt hlt)]
  · rw [List.getElem?_append_right (by simp; omega)]
    have hm : i - (l.take j).length = (i - j - 1) + 1 := by simp [Nat.min_eq_left (Nat.le_of_lt hlt)]; omega
    rw [hm, List.getElem?_cons_succ, List.getElem?_drop, show j + 1 + (i - j - 1) = i by omega]
    cases l[i]? <;> simp [show ¬ j = i by omega]
theorem grps_app (a b : List Nod) : grps (a ++ b) = grps a ++ grps b := by simp [grps]
theorem grps_cons (x : Nod) (l : List Nod) : grps (x :: l) = x.pieces.map (·.group) ++ grps l := by simp [grps]
theorem grps_keep {l : List Nod} {j : Nat} {f : Nod → Nod} (hf : ∀ y, (f y).pieces = y.pieces) : grps (l.modify j f) = grps l := by
  cases hq : l[j]? with
  | none =>
    have : l.modify j f = l := by
      apply List.ext_getElem?
      intro i
      rw [List.getElem?_modify]
      by_cases c : j = i
      · subst c; rw [hq]; rfl
      · simp [c]
    rw [this]
  | some q =>
    obtain ⟨h1, h2⟩ := modify_split hq f
    rw [h1]
    conv => rhs; rw [h2]
    rw [grps_app, grps_app, grps_cons, grps_cons, hf]
theorem grps_mod {t : Tree} {j : Nat} {f : Nod → Nod} (hf : ∀ y, (f y).pieces = y.pieces) : (grps (modN t j f).nodes).Sublist (grps t.nodes) := by
  simp only [modN]
  rw [grps_keep hf]
  exact List.Sublist.refl _
theorem mem_modify {α : Type} {l : List α} {k : Nat} {f : α → α} {x : α} (h : x ∈ l.modify k f) : x ∈ l ∨ ∃ y ∈ l, x = f y ∧ l[k]? = some y := by
  obtain ⟨i, hi⟩ := List.getElem?_of_mem h
  rw [List.getElem?_modify] at hi
  cases hy : l[i]? with
  | none => rw [hy] at hi; simp at hi
  | some y =>
    rw [hy] at hi
    by_cases c : k = i
    · subst c
      simp at hi
      exact .inr ⟨y, List.mem_of_getElem? hy, hi.symm, hy⟩
    · simp [c] at hi
      exact .inl (hi ▸ List.mem_of_getElem? hy)
theorem grps_filter {l : List Nod} {p : Nod → Bool} : (grps (l.filter p)).Sublist (grps l) := by
  induction l with
  | nil => simp [grps]
  | cons x l ih =>
    by_cases h : p x = true
    · rw [List.filter_cons_of_pos h, grps_cons, grps_cons]
      exact (List.Sublist.refl _).append ih
    · rw [List.filter_cons_of_neg h, grps_cons]
      exact ih.trans (List.sublist_append_right _ _)
theorem newPcs_grp (g : Int) (l : List Int) : ((newPcs g l).map (·.group)).Nodup ∧ ∀ z ∈ (newPcs g l).map (·.group), g ≤ z ∧ z < g + l.length := by
  refine ⟨?_, fun z hz => ?_⟩
  · rw [List.nodup_iff_pairwise_ne, List.pairwise_iff_getElem]
    intro i j hi hj hij
    simp [newPcs]
    omega
  · obtain ⟨p, hp, rfl⟩ := List.mem_map.1 hz
    have := newPcs_mem hp
    exact ⟨this.1, this.2.1⟩
theorem spansF_short : ∀ (k : Nat) (z n : Int) (m : Nat), 16 ≤ z → n ≤ 16 * (m + 1) → (spansF k z n).length ≤ m + 1
  | 0, z, n, m, _, _ => by simp [spansF]
  | k + 1, z, n, m, hz, hn => by
    unfold spansF
    split
    · cases m with
      | zero => omega
      | succ m =>
        have := spansF_short k z (n - z) m hz (by omega)
        simp; omega
    · simp
theorem spans_short {s n : Int} (hn : n ≤ 200) : (spans s n).length ≤ 13 := by
  unfold spans
  split
  · simp
  · rename_i h
    rcases gs_pos s with h1 | h1
    · exact absurd (.inl h1) h
    · exact spansF_short 1000 (gs s) n 12 h1 (by omega)
theorem good_new : Good ⟨[⟨1, 0, ⟨#[]⟩, true, 1, 0, 0, [], 0⟩], 2⟩ 1 0 := by
  refine ⟨?_, ?_, by simp, by simp [grps], by simp [grps], by simp⟩
  · rw [okT_iff, okP_iff]
    refine ⟨by simp, by simp, ⟨_, rfl, by simp [rootB]⟩, by simp, by simp, by simp [ndB, dirB, inB], by simp, by simp, by simp⟩
  · intro x hx h1
    simp at hx
    subst hx
    exact absurd rfl h1
theorem groupsAfter_did {t : Tree} {e : Edt} {g : Int} (h : (applyT t e g).2 = 0) : groupsAfter t e g = if e.kind = 10 then g + 20 else if e.kind ≠ 7 then g else match nd t.nodes (findP t e.path) with
    | some x => g + (spans x.schema e.num).length
    | none => g := by
  unfold groupsAfter
  rw [if_neg (by simpa using h)]
  try rfl
theorem good_apply {t : Tree} {e : Edt} {g : Int} {n : Nat} (H : Good t g n) (he : GoodE e) (h : (applyT t e g).2 = 0) : Good (applyT t e g).1 (groupsAfter t e g) (n + 1) := by
  have hok := apply_ok (e := e) (g := g) H.ok
  have K := okT_iff.1 H.ok
  have hg := groupsAfter_did h
  have hd := apply_did h
  generalize (applyT t e g).1 = t' at hd hok
  have base : ∀ {t' : Tree}, okT t'.nodes t'.next = true → e.kind ≠ 7 → (∀ x ∈ t'.nodes, x.id ≠ 1 → x.name ∈ abcL) → t'.next ≤ t.next + 1 → (grps t'.nodes).Sublist (grps t.nodes) → Good t' (groupsAfter t e g) (n + 1) := by
    intro t' h1 h2 h3 h4 h5
    have hgg : g ≤ groupsAfter t e g ∧ groupsAfter t e g ≤ g + 20 := by
      rw [hg]
      by_cases k10 : e.kind = 10
      · rw [if_pos k10]; omega
      · rw [if_neg k10, if_pos h2]; omega
    have := H.nxt
    have := H.g1
    exact ⟨h1, h3, by omega, h5.nodup H.grp, fun z hz => by have := H.lt z (h5.subset hz); omega, by omega⟩
  cases hd with
  | boot hk => exact base hok (by omega) H.abc (by omega) (List.Sublist.refl _)
  | add d w hk h1 h2 h3 ho =>
    have hn : namedP e.path = true := editB_named he.ok (by omega) (by omega) (by omega)
    refine base hok (by omega) (fun x hx hne => ?_) (by simp) ?_
    · rcases List.mem_append.1 hx with hx | hx
      · exact H.abc x hx hne
      · simp at hx
        subst hx
        exact upOf_last hn he.pa
    · rw [grps_app]
      simp [grps, newN]
  | move j q hk h0 hq hid h1 h2 h3 h4 ho =>
    have hn : namedP e.to = true := by
      have := he.ok
      unfold editB at this
      simp [hk] at this
      exact this.2.1.2
    refine base hok (by omega) (fun x hx hne => ?_) (by simp only [modN]; omega) (grps_mod fun y => rfl)
    rcases mem_modify hx with hx | ⟨y, hy, rfl, _⟩
    · exact H.abc x hx hne
    · exact upOf_last hn he.ta
  | drop hk h0 h1 =>
    exact base hok (by omega) (fun x hx hne => H.abc x (List.mem_filter.1 hx).1 hne) (by simp only [dropT]; omega) grps_filter
  | schema j q hk h0 hq hid hd =>
    refine base hok (by omega) (fun x hx hne => ?_) (by simp only [modN]; omega) (grps_mod fun y => rfl)
    rcases mem_modify hx with hx | ⟨y, hy, rfl, _⟩
    · exact H.abc x hx hne
    · exact H.abc y hy hne
  | quota j q hk h0 hq hid hd hu =>
    refine base hok (by omega) (fun x hx hne => ?_) (by simp only [modN]; omega) (grps_mod fun y => rfl)
    rcases mem_modify hx with hx | ⟨y, hy, rfl, _⟩
    · exact H.abc x hx hne
    · exact H.abc y hy hne
  | write j q w hk h0 hq hid hd =>
    refine base hok (by omega) (fun x hx hne => ?_) (by simp only [modN]; omega) (grps_mod fun y => rfl)
    rcases mem_modify hx with hx | ⟨y, hy, rfl, _⟩
    · exact H.abc x hx hne
    · exact H.abc y hy hne
  | put j q hk h0 hq hid hd hw hr hl hp =>
    have hnq : nd t.nodes (findP t e.path) = some q := by rw [← hid]; exact K.nd_self (List.mem_of_getElem? hq)
    have hgv : groupsAfter t e g = g + (spans q.schema e.num).length := by
      rw [hg, if_neg (by omega), if_neg (by simp [hk]), hnq]
    have hnum : 1 ≤ e.num ∧ e.num ≤ 200 := by
      have := he.ok
      unfold editB at this
      simp [hk, inB] at this
      exact this.2.1
    have hsh := spans_short (s := q.schema) hnum.2
    obtain ⟨m1, m2⟩ := modify_split hq (fun y : Nod => { y with pieces := q.pieces ++ newPcs g (spans q.schema e.num), len := q.len + e.num })
    obtain ⟨n1, n2⟩ := newPcs_grp g (spans q.schema e.num)
    have hperm : (grps (t.nodes.modify j fun y : Nod => { y with pieces := q.pieces ++ newPcs g (spans q.schema e.num), len := q.len + e.num })).Perm (grps t.nodes ++ (newPcs g (spans q.schema e.num)).map (·.group)) := by
      rw [m1]
      conv => rhs; rw [m2]
      rw [grps_app, grps_cons, grps_app, grps_cons]
      simp only [List.map_append, List.append_assoc]
      refine List.Perm.append_left _ (List.Perm.append_left _ ?_)
      exact List.perm_append_comm
    have := H.nxt
    have hg1 := H.g1
    rw [hgv]
    refine ⟨hok, fun x hx hne => ?_, by simp only [modN]; omega, ?_, fun z hz => ?_, by omega⟩
    · rcases mem_modify hx with hx | ⟨y, hy, rfl, _⟩
      · exact H.abc x hx hne
      · exact H.abc y hy hne
    · refine hperm.nodup_iff.2 ?_
      rw [List.nodup_append]
      exact ⟨H.grp, n1, fun a ha b hb => by have := H.lt a ha; have := n2 b hb; omega⟩
    · have := hperm.mem_iff.1 hz
      rcases List.mem_append.1 this with h | h
      · have := H.lt z h; omega
      · exact (n2 z h).2
theorem good_step {t : Tree} {e : Edt} {g : Int} {n : Nat} (H : Good t g n) (he : GoodE e) : Good (stepT (t, g) e).1 (stepT (t, g) e).2 (n + 1) := by
  unfold stepT
  by_cases h : (applyT t e g).2 = 0
  · rw [if_pos h]; exact good_apply H he h
  · rw [if_neg h]
    exact ⟨H.ok, H.abc, by have := H.nxt; dsimp only; omega, H.grp, H.lt, by have := H.g1; dsimp only; omega⟩
theorem good_all : ∀ (l : List Edt) (p : Tree × Int) (n : Nat), Good p.1 p.2 n → (∀ e ∈ l, GoodE e) → Good (l.foldl stepT p).1 (l.foldl stepT p).2 (n + l.length)
  | [], p, n, H, _ => H
  | e :: l, p, n, H, he => by
    rw [List.foldl_cons, List.length_cons, show n + (l.length + 1) = (n + 1) + l.length by omega]
    exact good_all l _ _ (good_step (t := p.1) (g := p.2) H (he e (by simp))) fun x hx => he x (by simp [hx])
end Go.Tm

/- Groups of a drawn tree: those of its root are all, once. -/
namespace Go.Tm
open Go
set_option linter.unusedVariables false
set_option linter.unusedSimpArgs false
theorem below_root {l : List Nod} {nx : Int} (H : OkT l nx) {x : Nod} (hx : x ∈ l) : below l x.id 1 = true := by
  obtain ⟨ns, hu, hl, _⟩ := H.names hx
  exact (below_up H (by omega) hu hl).2 ⟨ns, [], by simp, root_up⟩
theorem belowOf_root {t : Tree} (h : okT t.nodes t.next = true) : belowOf t 1 = t.nodes.map (·.id) := by
  have H := okT_iff.1 h
  obtain ⟨x, hx, _⟩ := up_nd H root_up
  unfold belowOf
  rw [if_pos ⟨h, by simp [hx]⟩]
  unfold belows
  rw [List.filter_eq_self.2]
  intro x hx
  exact below_root H hx
theorem groupsL_ids {l k : List Nod} {nx : Int} (H : OkT l nx) : ∀ (k : List Nod), (∀ x ∈ k, x ∈ l) → groupsL l (k.map (·.id)) = grps k
  | [], _ => by simp [groupsL, grps]
  | x :: k, h => by
    have ih := groupsL_ids (k := k) H k fun y hy => h y (by simp [hy])
    have hn := nd_at' H.asc (h x (by simp))
    rw [grps_cons, ← ih]
    simp [groupsL, grpAt, hn]
theorem gSet_mem (l : List Int) : (gSet l).Pairwise (· < ·) ∧ ∀ z, z ∈ gSet l ↔ z ∈ l := by
  have := gSet_spec l [] List.Pairwise.nil
  simpa [gSet] using this
theorem groups_root {t : Tree} {g : Int} {n : Nat} (H : Good t g n) : (groupsOf t 1).Pairwise (· < ·) ∧ (∀ z ∈ groupsOf t 1, z < g) ∧ (groupsOf t 1).length = (grps t.nodes).length := by
  have e : groupsOf t 1 = gSet (grps t.nodes) := by
    unfold groupsOf
    rw [belowOf_root H.ok, groupsL_ids (k := t.nodes) (okT_iff.1 H.ok) _ fun x hx => hx]
  obtain ⟨h1, h2⟩ := gSet_mem (grps t.nodes)
  rw [e]
  refine ⟨h1, fun z hz => H.lt z ((h2 z).1 hz), ?_⟩
  refine List.Perm.length_eq ((List.perm_ext_iff_of_nodup (h1.imp fun h => by omega) H.grp).2 h2)
theorem grps_len : ∀ {l : List Nod}, (∀ x ∈ l, ndB x = true) → (grps l).length ≤ 40 * l.length
  | [], _ => by simp [grps]
  | x :: l, h => by
    have ih := grps_len (l := l) fun y hy => h y (by simp [hy])
    have := ndB_pieces (h x (by simp))
    rw [grps_cons]
    simp
    omega
theorem grps_take {l : List Nod} {i : Nat} {x : Nod} (hx : l[i]? = some x) : (grps (l.take (i + 1))).length = (grps (l.take i)).length + x.pieces.length := by
  rw [List.take_add_one, grps_app, hx]
  simp [grps]
theorem applyAll_cut (t : Tree) (l : List Edt) (g : Int) (k : Nat) : applyAll (applyAll t (l.take k) g).1 (l.drop k) (applyAll t (l.take k) g).2 = applyAll t l g := by
  unfold applyAll
  conv => rhs; rw [← List.take_append_drop k l, List.foldl_append]
end Go.Tm

