/- Plain facts on trees, marks and lists. -/
import Derived.Test.YtbhbkaonlillhaaLc
import Derived.Sort.Walk0
import Derived.Lib.SlicesCompact
/- Trees of nodes as plain lists: what is right, where a node is, what leads to the root. No program in it. -/
namespace Go.Tm
open Go Go.Abs
set_option linter.unusedVariables false
set_option linter.unusedSimpArgs false
structure Pc where
  group : Int
  len : Int
structure Nod where
  id : Int
  parent : Int
  name : ByteArray
  dir : Bool
  schema : Int
  quota : Int
  len : Int
  pieces : List Pc
  writer : Int
structure Tree where
  nodes : List Nod
  next : Int
noncomputable instance : DecidableEq Pc := fun _ _ => Classical.propDecidable _
noncomputable instance : DecidableEq Nod := fun _ _ => Classical.propDecidable _
noncomputable instance : DecidableEq Tree := fun _ _ => Classical.propDecidable _
def inB (x a b : Int) : Bool := decide (a ≤ x ∧ x ≤ b)
def gs (c : Int) : Int := if c = 1 then 16 else if c = 2 then 24 else if c = 3 then 32 else 0
def okCh (x : Int) : Bool := decide ((97 ≤ x ∧ x ≤ 122) ∨ (48 ≤ x ∧ x ≤ 57))
def nmB (s : ByteArray) : Bool := (List.range s.size).all (fun i => okCh (byteAt s i)) && inB s.size 1 8
def pcB (g : Int) (p : Pc) : Bool := inB p.group 1 100000 && inB p.len 1 g
def psum : List Pc → Int
  | [] => 0
  | p :: r => p.len + psum r
theorem psum_app : ∀ (a b : List Pc), psum (a ++ b) = psum a + psum b
  | [], b => by simp [psum]
  | p :: a, b => by simp [psum, psum_app a b]; omega
def atF (id : Int) : List Nod → Nat → Int
  | [], _ => -1
  | n :: r, i => if n.id = id then (i : Int) else atF id r (i + 1)
def idxF {α : Type} (p : α → Bool) : List α → Nat → Int
  | [], _ => -1
  | n :: r, i => if p n = true then (i : Int) else idxF p r (i + 1)
theorem idxF_any {α : Type} (p : α → Bool) : ∀ (l : List α) (k : Nat), decide (0 ≤ idxF p l k) = l.any p
  | [], _ => by simp [idxF]
  | n :: r, k => by
    rw [idxF, List.any_cons]
    cases h : p n with
    | true => simp
    | false => simpa using idxF_any p r (k + 1)
theorem idxF_at (id : Int) : ∀ (l : List Nod) (k : Nat), idxF (fun x : Nod => decide (x.id = id)) l k = atF id l k
  | [], _ => rfl
  | n :: r, k => by simp [idxF, atF, idxF_at id r]
def atI (l : List Nod) (id : Int) : Int := atF id l 0
def nd (l : List Nod) (id : Int) : Option Nod := l.find? fun x => decide (x.id = id)
def prevB (l : List Nod) (i : Nat) (x : Nod) : Bool := decide (i = 0) || (match l[i - 1]? with | some y => decide (y.id < x.id) | none => true)
def rootB (x : Nod) : Bool := decide (x.id = 1) && decide (x.parent = 0) && decide (x.name = ⟨#[]⟩) && x.dir && !decide (x.schema = 0)
def dirB (x : Nod) : Bool := inB x.schema 0 3 && inB x.quota 0 1000 && decide (x.len = 0) && decide (x.pieces.length = 0) && decide (x.writer = 0)
def fileB (x : Nod) : Bool := inB x.schema 1 3 && decide (x.quota = 0) && decide (x.pieces.length ≤ 40) && inB x.writer 0 9 && x.pieces.all (pcB (gs x.schema)) && decide (psum x.pieces = x.len) && decide (psum x.pieces ≤ 1000)
def ndB (x : Nod) : Bool := if x.dir then dirB x else fileB x
def dirAt (l : List Nod) (id : Int) : Bool := match nd l id with | some y => y.dir | none => false
def uniqB (l : List Nod) (i : Nat) (x : Nod) : Bool := (l.take i).all fun y => !(decide (y.parent = x.parent) && decide (y.name = x.name))
/-- The reference's way to the root. -/
def reach (l : List Nod) : Nat → Int → Bool
  | 0, _ => false
  | n + 1, id => match nd l id with
    | none => false
    | some x => if x.parent = 1 then true else reach l n x.parent
/-- The program's way to the root. -/
def reachI (l : List Nod) : Nat → Int → Bool
  | 0, _ => false
  | n + 1, id => match nd l id with
    | none => false
    | some x => if x.dir = false then false else if x.id = 1 then true else reachI l n x.parent
def okN (l : List Nod) (nx : Int) (i : Nat) (x : Nod) : Bool :=
  decide (x.id < nx) && prevB l i x && (!decide (i = 0) || rootB x) && ndB x && (decide (i = 0) || (nmB x.name && dirAt l x.parent && uniqB l i x && reach l 4 x.id))
def okT (l : List Nod) (nx : Int) : Bool := inB l.length 1 14 && decide (nx ≤ 100000) && (List.range l.length).all fun i => match l[i]? with | some x => okN l nx i x | none => true
def okNi (l : List Nod) (nx : Int) (i : Nat) (x : Nod) : Bool :=
  ndB x && decide (x.id < nx) && prevB l i x && (decide (i = 0) || (nmB x.name && reachI l 4 x.parent)) && uniqB l i x
def okTi (l : List Nod) (nx : Int) : Bool := inB l.length 1 14 && decide (nx ≤ 100000) && (match l[0]? with | some r => rootB r | none => true) && (List.range l.length).all fun i => match l[i]? with | some x => okNi l nx i x | none => true
/-- A directory that leads to the root in so many steps. -/
def rIn (l : List Nod) : Nat → Int → Prop
  | 0, id => id = 1
  | n + 1, id => id = 1 ∨ ∃ y, nd l id = some y ∧ y.dir = true ∧ rIn l n y.parent
structure OkT (l : List Nod) (nx : Int) : Prop where
  len1 : 1 ≤ l.length
  len2 : l.length ≤ 14
  nxt : nx ≤ 100000
  root : ∃ r, l[0]? = some r ∧ rootB r = true
  asc : ∀ (i : Nat) x y, l[i]? = some x → l[i + 1]? = some y → x.id < y.id
  low : ∀ x ∈ l, x.id < nx
  nds : ∀ x ∈ l, ndB x = true
  nms : ∀ (i : Nat) x, 0 < i → l[i]? = some x → nmB x.name = true
  uniq : ∀ (i : Nat) x, 0 < i → l[i]? = some x → uniqB l i x = true
  up : ∀ (i : Nat) x, 0 < i → l[i]? = some x → dirAt l x.parent = true ∧ rIn l 3 x.parent
theorem atF_spec (id : Int) : ∀ (l : List Nod) (k : Nat), (atF id l k = -1 ∧ ∀ x ∈ l, x.id ≠ id) ∨ ∃ (i : Nat) (x : Nod), l[i]? = some x ∧ atF id l k = ((k + i : Nat) : Int) ∧ x.id = id ∧ nd l id = some x ∧ ∀ (j : Nat) y, j < i → l[j]? = some y → y.id ≠ id
  | [], _ => .inl ⟨rfl, by simp⟩
  | n :: r, k => by
    rw [atF]
    by_cases h : n.id = id
    · exact .inr ⟨0, n, rfl, by simp [h], h, by simp [nd, h], fun j y hj => by omega⟩
    · rw [if_neg h]
      rcases atF_spec id r (k + 1) with ⟨h1, h2⟩ | ⟨i, x, h1, h2, h3, h4, h5⟩
      · refine .inl ⟨h1, fun x hx => ?_⟩
        rcases List.mem_cons.1 hx with rfl | hx
        · exact h
        · exact h2 x hx
      · refine .inr ⟨i + 1, x, by simpa using h1, by rw [h2]; congr 1; omega, h3, by simp only [nd] at h4 ⊢; rw [List.find?_cons_of_neg (by simpa using h)]; exact h4, fun j y hj hy => ?_⟩
        cases j with
        | zero => simp at hy; subst hy; exact h
        | succ j => exact h5 j y (by omega) (by simpa using hy)
theorem atI_spec (l : List Nod) (id : Int) : (atI l id = -1 ∧ nd l id = none ∧ ∀ x ∈ l, x.id ≠ id) ∨ ∃ (i : Nat) (x : Nod), l[i]? = some x ∧ atI l id = (i : Int) ∧ x.id = id ∧ nd l id = some x ∧ ∀ (j : Nat) y, j < i → l[j]? = some y → y.id ≠ id := by
  rcases atF_spec id l 0 with ⟨h1, h2⟩ | ⟨i, x, h1, h2, h⟩
  · exact .inl ⟨h1, by simpa [nd, List.find?_eq_none] using h2, h2⟩
  · exact .inr ⟨i, x, h1, by simpa [atI] using h2, h⟩
theorem atI_of {l : List Nod} {id : Int} {i : Nat} {x : Nod} (hx : l[i]? = some x) (hid : x.id = id) (h : ∀ (j : Nat) y, j < i → l[j]? = some y → y.id ≠ id) : atI l id = i ∧ nd l id = some x := by
  rcases atI_spec l id with ⟨_, _, h2⟩ | ⟨k, y, h1, h2, h3, h4, h5⟩
  · exact absurd hid (h2 x (List.mem_of_getElem? hx))
  · have : k = i := by
      rcases Nat.lt_trichotomy k i with c | c | c
      · exact absurd h3 (h k y c h1)
      · exact c
      · exact absurd hid (h5 i x c hx)
    subst this
    rw [hx] at h1; cases h1
    exact ⟨h2, h4⟩
theorem nd_mem {l : List Nod} {id : Int} {x : Nod} (h : nd l id = some x) : x ∈ l ∧ x.id = id := by
  unfold nd at h
  exact ⟨List.mem_of_find?_eq_some h, by simpa using List.find?_some h⟩
section
variable {l : List Nod} {nx : Int}
theorem asc_lt (h : ∀ (i : Nat) x y, l[i]? = some x → l[i + 1]? = some y → x.id < y.id) : ∀ (d i : Nat) x y, l[i]? = some x → l[i + d + 1]? = some y → x.id < y.id
  | 0, i, x, y, hx, hy => h i x y hx hy
  | d + 1, i, x, y, hx, hy => by
    have hl : i + d + 1 < l.length := by have := (List.getElem?_eq_some_iff.1 hy).1; omega
    have hz : l[i + d + 1]? = some l[i + d + 1] := List.getElem?_eq_getElem hl
    have h1 := asc_lt h d i x _ hx hz
    have h2 := h (i + d + 1) _ y hz (by rw [← hy]; congr 1)
    omega
theorem OkT.lt (h : OkT l nx) {i j : Nat} {x y : Nod} (hij : i < j) (hx : l[i]? = some x) (hy : l[j]? = some y) : x.id < y.id :=
  asc_lt h.asc (j - i - 1) i x y hx (by rw [← hy]; congr 1; omega)
theorem OkT.nd_at (h : OkT l nx) {i : Nat} {x : Nod} (hx : l[i]? = some x) : atI l x.id = i ∧ nd l x.id = some x :=
  atI_of hx rfl fun j y hj hy => by have := h.lt hj hy hx; omega
theorem OkT.nd_self (h : OkT l nx) {x : Nod} (hx : x ∈ l) : nd l x.id = some x := by
  obtain ⟨i, hi⟩ := List.getElem?_of_mem hx
  exact (h.nd_at hi).2
theorem rootB_iff {x : Nod} : rootB x = true ↔ x.id = 1 ∧ x.parent = 0 ∧ x.name = ⟨#[]⟩ ∧ x.dir = true ∧ x.schema ≠ 0 := by
  simp [rootB, and_assoc]
theorem OkT.rootNd (h : OkT l nx) : ∃ r, l[0]? = some r ∧ nd l 1 = some r ∧ atI l 1 = 0 ∧ r.id = 1 ∧ r.parent = 0 ∧ r.name = ⟨#[]⟩ ∧ r.dir = true ∧ r.schema ≠ 0 := by
  obtain ⟨r, h0, hr⟩ := h.root
  have hr' := rootB_iff.1 hr
  have := h.nd_at h0
  rw [hr'.1] at this
  exact ⟨r, h0, this.2, this.1, hr'⟩
theorem OkT.id_pos (h : OkT l nx) {x : Nod} (hx : x ∈ l) : 1 ≤ x.id := by
  obtain ⟨i, hi⟩ := List.getElem?_of_mem hx
  obtain ⟨r, h0, _, _, h1, _⟩ := h.rootNd
  rcases Nat.eq_zero_or_pos i with rfl | c
  · rw [h0] at hi; cases hi; omega
  · have := h.lt c h0 hi; omega
theorem OkT.idx_pos (h : OkT l nx) {i : Nat} {x : Nod} (hi : l[i]? = some x) (hid : x.id ≠ 1) : 0 < i := by
  obtain ⟨r, h0, _, _, h1, _⟩ := h.rootNd
  rcases Nat.eq_zero_or_pos i with rfl | c
  · rw [h0] at hi; cases hi; exact absurd h1 hid
  · exact c
theorem range_all {n : Nat} {p : Nat → Bool} : (List.range n).all p = true ↔ ∀ i, i < n → p i = true := by simp [List.all_eq_true]
theorem all_at {p : Nat → Nod → Bool} : ((List.range l.length).all fun i => match l[i]? with | some x => p i x | none => true) = true ↔ ∀ (i : Nat) x, l[i]? = some x → p i x = true := by
  rw [range_all]
  constructor
  · intro h i x hx
    have := h i (List.getElem?_eq_some_iff.1 hx).1
    rw [hx] at this; exact this
  · intro h i hi
    rw [List.getElem?_eq_getElem hi]
    exact h i _ (List.getElem?_eq_getElem hi)
theorem prevB_iff {i : Nat} {x : Nod} (hx : l[i]? = some x) : prevB l i x = true ↔ ∀ y, 0 < i → l[i - 1]? = some y → y.id < x.id := by
  unfold prevB
  rcases Nat.eq_zero_or_pos i with rfl | c
  · simp
  · have hi : i - 1 < l.length := by have := (List.getElem?_eq_some_iff.1 hx).1; omega
    rw [List.getElem?_eq_getElem hi]
    simp [show i ≠ 0 by omega, c]
theorem asc_of (h : ∀ (i : Nat) x, l[i]? = some x → prevB l i x = true) : ∀ (i : Nat) x y, l[i]? = some x → l[i + 1]? = some y → x.id < y.id := fun i x y hx hy =>
  (prevB_iff hy).1 (h (i + 1) y hy) x (by omega) (by simpa using hx)
/-- The same, without rightness. -/
theorem nd_at' (h : ∀ (i : Nat) x y, l[i]? = some x → l[i + 1]? = some y → x.id < y.id) {x : Nod} (hx : x ∈ l) : nd l x.id = some x := by
  obtain ⟨i, hi⟩ := List.getElem?_of_mem hx
  exact (atI_of hi rfl fun j y hj hy => by have := asc_lt h (i - j - 1) j y x hy (by rw [← hi]; congr 1; omega); omega).2
theorem reach_rIn (hasc : ∀ (i : Nat) x y, l[i]? = some x → l[i + 1]? = some y → x.id < y.id) (hdir : ∀ (i : Nat) x, 0 < i → l[i]? = some x → dirAt l x.parent = true) (hroot : ∀ x, l[0]? = some x → x.id = 1) :
    ∀ (n : Nat) (x : Nod) (i : Nat), 0 < i → l[i]? = some x → (reach l (n + 1) x.id = true ↔ rIn l n x.parent)
  | 0, x, i, hi, hx => by
    simp only [reach, nd_at' hasc (List.mem_of_getElem? hx), rIn]
    split <;> simp_all
  | n + 1, x, i, hi, hx => by
    rw [reach, nd_at' hasc (List.mem_of_getElem? hx), rIn]
    by_cases c : x.parent = 1
    · simp [c]
    · simp only [if_neg c, c, false_or]
      have hd := hdir i x hi hx
      unfold dirAt at hd
      cases hn : nd l x.parent with
      | none => rw [hn] at hd; simp at hd
      | some y =>
        rw [hn] at hd
        obtain ⟨hm, hid⟩ := nd_mem hn
        obtain ⟨j, hj⟩ := List.getElem?_of_mem hm
        have hj0 : 0 < j := by
          rcases Nat.eq_zero_or_pos j with rfl | c2
          · exact absurd (hid.symm.trans (hroot y hj)) c
          · exact c2
        simp only [if_false]
        rw [← hid, reach_rIn hasc hdir hroot n y j hj0 hj]
        constructor
        · intro h; exact ⟨y, rfl, hd, h⟩
        · rintro ⟨z, hz, _, h⟩
          cases hz
          exact h
theorem reachI_rIn (hroot : ∃ r, nd l 1 = some r ∧ r.dir = true ∧ r.id = 1) : ∀ (n : Nat) (id : Int), reachI l (n + 1) id = true ↔ (dirAt l id = true ∧ rIn l n id)
  | 0, id => by
    simp only [reachI, rIn, dirAt]
    cases hn : nd l id with
    | none => simp
    | some y =>
      obtain ⟨_, hid⟩ := nd_mem hn
      cases hd : y.dir <;> simp [hd, hid]
  | n + 1, id => by
    rw [reachI, rIn]
    cases hn : nd l id with
    | none => simp [dirAt, hn]
    | some y =>
      obtain ⟨_, hid⟩ := nd_mem hn
      cases hd : y.dir with
      | false => simp [dirAt, hn, hd]
      | true =>
        have e : dirAt l id = true := by simp [dirAt, hn, hd]
        simp only [e, true_and]
        by_cases c : id = 1
        · simp [hid, c, hd]
        · simp only [hd, hid, c, if_false, false_or, Bool.true_eq_false, reachI_rIn hroot n y.parent]
          constructor
          · rintro ⟨_, h⟩; exact ⟨y, rfl, hd, h⟩
          · rintro ⟨z, hz, _, h⟩
            cases hz
            refine ⟨?_, h⟩
            cases n with
            | zero =>
              simp only [rIn] at h
              obtain ⟨r, h1, h2, _⟩ := hroot
              simp [dirAt, h, h1, h2]
            | succ n =>
              rw [rIn] at h
              rcases h with h | ⟨z, hz, hz2, _⟩
              · obtain ⟨r, h1, h2, _⟩ := hroot
                simp [dirAt, h, h1, h2]
              · simp [dirAt, hz, hz2]
theorem inB_iff {x a b : Int} : inB x a b = true ↔ a ≤ x ∧ x ≤ b := by simp [inB]
theorem okT_iff : okT l nx = true ↔ OkT l nx := by
  unfold okT
  rw [Bool.and_eq_true, Bool.and_eq_true, all_at, inB_iff]
  constructor
  · rintro ⟨⟨⟨h1, h2⟩, h3⟩, h⟩
    have hp : ∀ (i : Nat) x, l[i]? = some x → okN l nx i x = true := h
    have hq : ∀ (i : Nat) x, l[i]? = some x → (x.id < nx ∧ prevB l i x = true ∧ (i = 0 → rootB x = true) ∧ ndB x = true ∧ (0 < i → nmB x.name = true ∧ dirAt l x.parent = true ∧ uniqB l i x = true ∧ reach l 4 x.id = true)) := by
      intro i x hx
      have := hp i x hx
      simp only [okN, Bool.and_eq_true, Bool.or_eq_true, decide_eq_true_eq, Bool.not_eq_true', decide_eq_false_iff_not] at this
      obtain ⟨⟨⟨⟨a, b⟩, c⟩, d⟩, e⟩ := this
      refine ⟨a, b, fun h0 => c.resolve_left (fun hh => hh h0), d, fun hi => ?_⟩
      rcases e with e | e
      · omega
      · exact ⟨e.1.1.1, e.1.1.2, e.1.2, e.2⟩
    have hasc := asc_of fun i x hx => (hq i x hx).2.1
    have h0 : l[0]? = some l[0] := List.getElem?_eq_getElem (by omega)
    have hr := (hq 0 _ h0).2.2.1 rfl
    have hdir : ∀ (i : Nat) x, 0 < i → l[i]? = some x → dirAt l x.parent = true := fun i x hi hx => ((hq i x hx).2.2.2.2 hi).2.1
    refine ⟨by omega, by omega, by simpa using h3, ⟨_, h0, hr⟩, hasc, fun x hx => ?_, fun x hx => ?_, fun i x hi hx => ((hq i x hx).2.2.2.2 hi).1, fun i x hi hx => ((hq i x hx).2.2.2.2 hi).2.2.1, fun i x hi hx => ⟨hdir i x hi hx, ?_⟩⟩
    · obtain ⟨i, hi⟩ := List.getElem?_of_mem hx
      exact (hq i x hi).1
    · obtain ⟨i, hi⟩ := List.getElem?_of_mem hx
      exact (hq i x hi).2.2.2.1
    · refine (reach_rIn hasc hdir (fun y hy => ?_) 3 x i hi hx).1 ((hq i x hx).2.2.2.2 hi).2.2.2
      rw [h0] at hy; cases hy
      exact (rootB_iff.1 hr).1
  · intro H
    refine ⟨⟨⟨by have := H.len1; omega, by have := H.len2; omega⟩, by simpa using H.nxt⟩, fun i x hx => ?_⟩
    obtain ⟨r, h0, hr⟩ := H.root
    simp only [okN, Bool.and_eq_true, Bool.or_eq_true, decide_eq_true_eq, Bool.not_eq_true', decide_eq_false_iff_not]
    refine ⟨⟨⟨⟨H.low x (List.mem_of_getElem? hx), (prevB_iff hx).2 fun y hi hy => H.asc (i - 1) y x hy (by rw [← hx]; congr 1; omega)⟩, ?_⟩, H.nds x (List.mem_of_getElem? hx)⟩, ?_⟩
    · by_cases c : i = 0
      · subst c; rw [h0] at hx; cases hx; exact .inr hr
      · exact .inl c
    · by_cases c : i = 0
      · exact .inl c
      · have hi : 0 < i := by omega
        refine .inr ⟨⟨⟨H.nms i x hi hx, (H.up i x hi hx).1⟩, H.uniq i x hi hx⟩, ?_⟩
        refine (reach_rIn H.asc (fun i x hi hx => (H.up i x hi hx).1) (fun y hy => ?_) 3 x i hi hx).2 (H.up i x hi hx).2
        rw [h0] at hy; cases hy
        exact (rootB_iff.1 hr).1
theorem okTi_iff : okTi l nx = true ↔ OkT l nx := by
  unfold okTi
  rw [Bool.and_eq_true, Bool.and_eq_true, Bool.and_eq_true, all_at, inB_iff]
  constructor
  · rintro ⟨⟨⟨⟨h1, h2⟩, h3⟩, h4⟩, h⟩
    have h0 : l[0]? = some l[0] := List.getElem?_eq_getElem (by omega)
    have hr : rootB l[0] = true := by simpa [h0] using h4
    have hq : ∀ (i : Nat) x, l[i]? = some x → (ndB x = true ∧ x.id < nx ∧ prevB l i x = true ∧ (0 < i → nmB x.name = true ∧ reachI l 4 x.parent = true) ∧ uniqB l i x = true) := by
      intro i x hx
      have := h i x hx
      simp only [okNi, Bool.and_eq_true, Bool.or_eq_true, decide_eq_true_eq] at this
      obtain ⟨⟨⟨⟨a, b⟩, c⟩, d⟩, e⟩ := this
      refine ⟨a, b, c, fun hi => ?_, e⟩
      rcases d with d | d
      · omega
      · exact d
    have hasc := asc_of fun i x hx => (hq i x hx).2.2.1
    have hroot : ∃ r, nd l 1 = some r ∧ r.dir = true ∧ r.id = 1 := by
      have e := rootB_iff.1 hr
      refine ⟨l[0], ?_, e.2.2.2.1, e.1⟩
      have := nd_at' hasc (List.mem_of_getElem? h0)
      rwa [e.1] at this
    refine ⟨by omega, by omega, by simpa using h3, ⟨_, h0, hr⟩, hasc, fun x hx => ?_, fun x hx => ?_, fun i x hi hx => ((hq i x hx).2.2.2.1 hi).1, fun i x hi hx => (hq i x hx).2.2.2.2, fun i x hi hx => (reachI_rIn hroot 3 x.parent).1 ((hq i x hx).2.2.2.1 hi).2⟩
    · obtain ⟨i, hi⟩ := List.getElem?_of_mem hx
      exact (hq i x hi).2.1
    · obtain ⟨i, hi⟩ := List.getElem?_of_mem hx
      exact (hq i x hi).1
  · intro H
    obtain ⟨r, h0, h1, _, h2, _, _, h3, _⟩ := H.rootNd
    have hr : rootB r = true := by obtain ⟨r', h0', hr⟩ := H.root; rw [h0] at h0'; cases h0'; exact hr
    refine ⟨⟨⟨⟨by have := H.len1; omega, by have := H.len2; omega⟩, by simpa using H.nxt⟩, by rw [h0]; exact hr⟩, fun i x hx => ?_⟩
    simp only [okNi, Bool.and_eq_true, Bool.or_eq_true, decide_eq_true_eq]
    refine ⟨⟨⟨⟨H.nds x (List.mem_of_getElem? hx), H.low x (List.mem_of_getElem? hx)⟩, (prevB_iff hx).2 fun y hi hy => H.asc (i - 1) y x hy (by rw [← hx]; congr 1; omega)⟩, ?_⟩, ?_⟩
    · by_cases c : i = 0
      · exact .inl c
      · exact .inr ⟨H.nms i x (by omega) hx, (reachI_rIn ⟨r, h1, h3, h2⟩ 3 x.parent).2 (H.up i x (by omega) hx)⟩
    · by_cases c : i = 0
      · subst c; simp [uniqB]
      · exact H.uniq i x (by omega) hx
theorem okTi_eq : okTi l nx = okT l nx := Bool.eq_iff_iff.2 (okTi_iff.trans okT_iff.symm)
end
end Go.Tm

/- What lies below a node; sums, schemas and room over it. No program in it. -/
namespace Go.Tm
open Go Go.Abs
set_option linter.unusedVariables false
set_option linter.unusedSimpArgs false
/-- So many steps lead to the root. -/
def Lead (l : List Nod) : Nat → Nod → Prop
  | 0, x => x.id = 1
  | k + 1, x => x.id = 1 ∨ ∃ y, nd l x.parent = some y ∧ Lead l k y
def belowF (l : List Nod) : Nat → Int → Int → Bool
  | 0, _, _ => false
  | n + 1, id, top => if id = top then true else match nd l id with
    | none => false
    | some x => belowF l n x.parent top
def below (l : List Nod) (id top : Int) : Bool := belowF l 15 id top
def belows (l : List Nod) (top : Int) : List Int := (l.filter fun x => below l x.id top).map (·.id)
def belowOf (t : Tree) (id : Int) : List Int := if okT t.nodes t.next = true ∧ (nd t.nodes id).isSome = true then belows t.nodes id else []
def w64 (x : Int) : Int := IntKind.i64.wrap x
theorem w64_def (n : Int) : w64 n = if 9223372036854775808 ≤ n % 18446744073709551616 then n % 18446744073709551616 - 18446744073709551616 else n % 18446744073709551616 := by
  unfold w64 IntKind.wrap
  simp [IntKind.bits, IntKind.signed]
theorem w64_add (a b : Int) : w64 (w64 a + b) = w64 (a + b) := by
  rw [w64_def (w64 a + b), w64_def (a + b), w64_def a]
  split <;> split <;> split <;> omega
theorem w64_sm {n : Int} (h : -9223372036854775808 ≤ n ∧ n ≤ 9223372036854775807) : w64 n = n := wrap_i64 h
def lenAt (l : List Nod) (id : Int) : Int := match nd l id with | some x => x.len | none => 0
def usedL (l : List Nod) (ks : List Int) (n : Int) : Int := ks.foldl (fun n k => w64 (n + lenAt l k)) n
def usedBelow (t : Tree) (id : Int) : Int := usedL t.nodes (belowOf t id) 0
def schF (l : List Nod) : Nat → Int → Int
  | 0, _ => 0
  | n + 1, id => match nd l id with
    | none => 0
    | some x => if x.schema = 0 then schF l n x.parent else x.schema
def schemaAt (t : Tree) (id : Int) : Int := if okT t.nodes t.next = true then schF t.nodes 15 id else 0
def roomF (t : Tree) (n : Int) : Nat → Bool → Int → Bool
  | 0, _, _ => false
  | k + 1, b, id => match nd t.nodes id with
    | none => b
    | some x => if x.dir = true ∧ 0 < x.quota ∧ w64 (x.quota - usedBelow t id) < n then false else roomF t n k true x.parent
def roomFor (t : Tree) (id n : Int) : Bool := if okT t.nodes t.next = true then roomF t n 15 false id else false
section
variable {l : List Nod} {nx : Int}
theorem rIn_lead (H : OkT l nx) : ∀ (n : Nat) (id : Int), dirAt l id = true → rIn l n id → ∃ y, nd l id = some y ∧ Lead l n y
  | 0, id, _, h => by
    obtain ⟨r, _, h1, _, h2, _⟩ := H.rootNd
    exact ⟨r, by rw [show id = 1 from h]; exact h1, h2⟩
  | n + 1, id, hd, h => by
    rcases h with h | ⟨y, hy, hd2, h⟩
    · obtain ⟨r, _, h1, _, h2, _⟩ := H.rootNd
      exact ⟨r, by rw [h]; exact h1, .inl h2⟩
    · refine ⟨y, hy, ?_⟩
      by_cases c : y.id = 1
      · exact .inl c
      · obtain ⟨j, hj⟩ := List.getElem?_of_mem (nd_mem hy).1
        exact .inr (rIn_lead H n y.parent (H.up j y (H.idx_pos hj c) hj).1 h)
/-- Each node leads to the root in four steps. -/
theorem OkT.lead (H : OkT l nx) {x : Nod} (hx : x ∈ l) : Lead l 4 x := by
  obtain ⟨i, hi⟩ := List.getElem?_of_mem hx
  by_cases c : x.id = 1
  · exact .inl c
  · have h := H.up i x (H.idx_pos hi c) hi
    exact .inr (rIn_lead H 3 x.parent h.1 h.2)
theorem OkT.nd_zero (H : OkT l nx) : nd l 0 = none := by
  cases h : nd l 0 with
  | none => rfl
  | some x => have := H.id_pos (nd_mem h).1; have := (nd_mem h).2; omega
theorem OkT.parent_one (H : OkT l nx) {x : Nod} (hx : x ∈ l) (h : x.id = 1) : x.parent = 0 := by
  obtain ⟨r, _, h1, _, _, h2, _⟩ := H.rootNd
  have := H.nd_self hx
  rw [h, h1] at this
  cases this; exact h2
theorem OkT.top_ne (H : OkT l nx) {top : Int} (h : (nd l top).isSome = true) : top ≠ 0 := by
  rintro rfl; rw [H.nd_zero] at h; cases h
theorem Lead.root_below (H : OkT l nx) {x : Nod} (hx : x ∈ l) (h : x.id = 1) {top : Int} (ht : top ≠ 0) (hne : x.id ≠ top) (n : Nat) : belowF l (n + 2) x.id top = false := by
  rw [belowF, if_neg hne, H.nd_self hx]
  simp only [belowF, H.parent_one hx h, H.nd_zero, if_neg (Ne.symm ht)]
/-- Enough steps are enough. -/
theorem belowF_more (H : OkT l nx) {top : Int} (ht : top ≠ 0) : ∀ (k : Nat) (x : Nod) (n m : Nat), x ∈ l → Lead l k x → k + 2 ≤ n → k + 2 ≤ m → belowF l n x.id top = belowF l m x.id top
  | k, x, n, m, hx, hk, hn, hm => by
    obtain ⟨n, rfl⟩ : ∃ n', n = n' + 2 := ⟨n - 2, by omega⟩
    obtain ⟨m, rfl⟩ : ∃ n', m = n' + 2 := ⟨m - 2, by omega⟩
    by_cases c : x.id = top
    · rw [belowF, belowF, if_pos c, if_pos c]
    · by_cases c1 : x.id = 1
      · rw [Lead.root_below H hx c1 ht c, Lead.root_below H hx c1 ht c]
      · cases k with
        | zero => exact absurd hk c1
        | succ k =>
          rcases hk with hk | ⟨y, hy, hk⟩
          · exact absurd hk c1
          · rw [belowF, belowF, if_neg c, if_neg c, H.nd_self hx]
            simp only []
            rw [← (nd_mem hy).2]
            exact belowF_more H ht k y (n + 1) (m + 1) (nd_mem hy).1 hk (by omega) (by omega)
theorem ndB_dir {x : Nod} (h : ndB x = true) (hd : x.dir = true) : inB x.schema 0 3 = true ∧ (0 ≤ x.quota ∧ x.quota ≤ 1000) ∧ x.len = 0 ∧ x.pieces = [] ∧ x.writer = 0 := by
  simp only [ndB, hd, if_true, dirB, Bool.and_eq_true, decide_eq_true_eq, inB_iff] at h
  exact ⟨inB_iff.2 h.1.1.1.1, h.1.1.1.2, h.1.1.2, List.length_eq_zero_iff.1 h.1.2, h.2⟩
theorem psum_nonneg {g : Int} : ∀ {q : List Pc}, q.all (pcB g) = true → 0 ≤ psum q
  | [], _ => by simp [psum]
  | p :: r, h => by
    simp only [List.all_cons, Bool.and_eq_true, pcB, inB_iff] at h
    have := psum_nonneg (g := g) (q := r) (by simpa [pcB, inB] using h.2)
    simp only [psum]; omega
theorem ndB_file {x : Nod} (h : ndB x = true) (hd : x.dir = false) : (1 ≤ x.schema ∧ x.schema ≤ 3) ∧ x.quota = 0 ∧ x.pieces.length ≤ 40 ∧ (0 ≤ x.writer ∧ x.writer ≤ 9) ∧ x.pieces.all (pcB (gs x.schema)) = true ∧ psum x.pieces = x.len ∧ 0 ≤ x.len ∧ x.len ≤ 1000 := by
  simp only [ndB, hd, Bool.false_eq_true, if_false, fileB, Bool.and_eq_true, decide_eq_true_eq, inB_iff] at h
  obtain ⟨⟨⟨⟨⟨⟨a, b⟩, c⟩, d⟩, e⟩, f⟩, g⟩ := h
  have := psum_nonneg e
  exact ⟨a, b, c, d, e, f, by omega, by omega⟩
theorem ndB_len {x : Nod} (h : ndB x = true) : 0 ≤ x.len ∧ x.len ≤ 1000 := by
  cases hd : x.dir with
  | true => have := (ndB_dir h hd).2.2.1; omega
  | false => have := (ndB_file h hd).2.2.2.2.2.2; exact this
end
theorem belowOf_len (t : Tree) (id : Int) : (belowOf t id).length ≤ t.nodes.length := by
  unfold belowOf belows
  split
  · rw [List.length_map]; exact List.length_filter_le _ _
  · simp
end Go.Tm

/- Rows that are turned element by element; texts' equality. -/
namespace Go.Tm
open Go Go.Abs
set_option linter.unusedVariables false
section
variable {α : Type}
/-- The first i elements of a, then those of b. -/
def mix (a b : List α) (i : Nat) : List α := a.take i ++ b.drop i
theorem mix_zero (a b : List α) : mix a b 0 = b := by simp [mix]
theorem mix_all {a b : List α} {i : Nat} (hl : a.length = b.length) (h : a.length ≤ i) : mix a b i = a := by
  simp [mix, List.take_of_length_le h, List.drop_eq_nil_of_le (hl ▸ h)]
theorem mix_len {a b : List α} (hl : a.length = b.length) (i : Nat) : (mix a b i).length = b.length := by
  simp [mix]; omega
theorem mix_at {a b : List α} {i : Nat} (hl : a.length = b.length) : (mix a b i)[i]? = b[i]? := by
  unfold mix
  by_cases h : i ≤ a.length
  · rw [List.getElem?_append_right (by simp; omega)]
    simp [Nat.min_eq_left h]
  · rw [List.getElem?_eq_none (by simp; omega), List.getElem?_eq_none (by omega)]
theorem mix_step {a b : List α} {i : Nat} {f : α → α} (hl : a.length = b.length) (h : a[i]? = (b[i]?).map f) : (mix a b i).modify i f = mix a b (i + 1) := by
  by_cases hi : i < b.length
  · have ha : i < a.length := by omega
    apply List.ext_getElem?
    intro j
    rw [List.getElem?_modify]
    by_cases hj : i = j
    · subst hj
      simp only [if_true]
      rw [mix_at hl]
      unfold mix
      rw [List.getElem?_append_left (by simp; omega), List.getElem?_take_of_lt (by omega), h]
      rfl
    · simp only [hj, if_false]
      have hid : (mix a b i)[j]? = (mix a b (i + 1))[j]? := by
        unfold mix
        rcases Nat.lt_or_gt_of_ne hj with c | c
        · rw [List.getElem?_append_right (by simp; omega), List.getElem?_append_right (by simp; omega)]
          simp only [List.length_take, Nat.min_eq_left (Nat.le_of_lt ha), Nat.min_eq_left (show i + 1 ≤ a.length by omega), List.getElem?_drop]
          congr 1; omega
        · rw [List.getElem?_append_left (by simp; omega), List.getElem?_append_left (by simp; omega), List.getElem?_take_of_lt c, List.getElem?_take_of_lt (by omega)]
      rw [hid]; simp
  · have hm : mix a b i = mix a b (i + 1) := by
      rw [mix_all hl (by omega), mix_all hl (by omega)]
    rw [← hm]
    apply List.ext_getElem?
    intro j
    rw [List.getElem?_modify]
    by_cases hj : i = j
    · subst hj
      rw [List.getElem?_eq_none (by rw [mix_len hl]; omega)]; rfl
    · simp [hj]
end
@[simp] theorem maxLen_eq : maxLen = 9223372036854775807 := rfl
@[simp] theorem size_mk (a : Array UInt8) : (ByteArray.mk a).size = a.size := rfl
@[simp] theorem take_map_len {α β : Type} (f : α → β) (p : List α) : (p.map f).take p.length = p.map f := List.take_of_length_le (by simp)
@[simp] theorem bytes_eq (s t : ByteArray) : (s.toList == t.toList) = decide (s = t) := by
  rw [Bool.eq_iff_iff, beq_iff_eq, decide_eq_true_eq]
  constructor
  · intro h
    rw [ByteArray.toList_eq, ByteArray.toList_eq] at h
    cases s; cases t
    congr 1
    exact Array.toList_inj.1 h
  · rintro rfl; rfl
@[simp] theorem bytes_isEmpty (s : ByteArray) : s.toList.isEmpty = decide (s = ⟨#[]⟩) := by
  rw [Bool.eq_iff_iff, List.isEmpty_iff, decide_eq_true_eq, ByteArray.toList_eq]
  constructor
  · intro h
    cases s with | mk d => cases d with | mk l => simp at h; subst h; rfl
  · rintro rfl; rfl
theorem bool_beq (a b : Bool) : (a == b) = decide (a = b) := by cases a <;> cases b <;> rfl
end Go.Tm

/- Marks that are laid into rows one behind the other, and looked for again. -/
namespace Go.Tm
open Go Go.Abs
set_option linter.unusedVariables false
section
variable {α : Type}
def scan (f : Int → α → α × Int) : Int → List α → List α × Int
  | k, [] => ([], k)
  | k, x :: r => ((f k x).1 :: (scan f (f k x).2 r).1, (scan f (f k x).2 r).2)
theorem scan_len (f : Int → α → α × Int) : ∀ (l : List α) (k : Int), (scan f k l).1.length = l.length
  | [], _ => rfl
  | x :: r, k => by simp [scan, scan_len f r]
theorem scan_at (f : Int → α → α × Int) : ∀ (l : List α) (k : Int) (i : Nat), (scan f k l).1[i]? = (l[i]?).map fun x => (f (scan f k (l.take i)).2 x).1
  | [], k, i => by simp [scan]
  | x :: r, k, 0 => by simp [scan]
  | x :: r, k, i + 1 => by simp [scan, scan_at f r]
theorem scan_take (f : Int → α → α × Int) : ∀ (l : List α) (k : Int) (i : Nat) (x : α), l[i]? = some x → (scan f k (l.take (i + 1))).2 = (f (scan f k (l.take i)).2 x).2
  | [], k, i, x, h => by simp at h
  | y :: r, k, 0, x, h => by simp at h; subst h; simp [scan]
  | y :: r, k, i + 1, x, h => by
    have := scan_take f r (f k y).2 i x (by simpa using h)
    simpa [scan] using this
def hscan (g : Int → α → Option Int) : Int → List α → Int
  | k, [] => k
  | k, x :: r => match g k x with
    | none => -1
    | some k' => hscan g k' r
/-- What was laid is found. -/
theorem hscan_scan (f : Int → α → α × Int) (g : Int → α → Option Int) (P : Int → Nat → Prop) : ∀ (l : List α) (k : Int) (n : Nat), (∀ k n x, x ∈ l → P k (n + 1) → g k (f k x).1 = some (f k x).2 ∧ P (f k x).2 n) → P k (l.length + n) → hscan g k (scan f k l).1 = (scan f k l).2 ∧ P (scan f k l).2 n
  | [], k, n, h, hp => ⟨rfl, by simpa [scan] using hp⟩
  | x :: r, k, n, h, hp => by
    have h1 := h k (r.length + n) x (by simp) (by simpa [Nat.add_right_comm] using hp)
    have h2 := hscan_scan f g P r (f k x).2 n (fun k n y hy hk => h k n y (by simp [hy]) hk) h1.2
    simp only [scan, hscan, h1.1]
    exact h2
end
theorem w64_eq {n : Int} (h : -9223372036854775808 ≤ n ∧ n ≤ 9223372036854775807) : w64 n = n := wrap_i64 h
def mkInt (k : Int) (_ : Int) : Int × Int := (k, w64 (k + 1))
def hdInt (k : Int) (x : Int) : Option Int := if x = k then some (w64 (k + 1)) else none
def mkPc (k : Int) (_ : Pc) : Pc × Int := (⟨k, w64 (k + 1)⟩, w64 (w64 (k + 1) + 1))
def hdPc (k : Int) (p : Pc) : Option Int := if p.group = k then (if p.len = w64 (k + 1) then some (w64 (w64 (k + 1) + 1)) else none) else none
/-- Room for so many more marks, each of at most c steps. -/
def Rm (c : Nat) (k : Int) (n : Nat) : Prop := 0 ≤ k ∧ k + n * c ≤ 9223372036854775807
theorem marks_int (l : List Int) (k : Int) (h : 0 ≤ k ∧ k + l.length ≤ 9223372036854775807) : hscan hdInt k (scan mkInt k l).1 = (scan mkInt k l).2 ∧ 0 ≤ (scan mkInt k l).2 := by
  have := hscan_scan mkInt hdInt (Rm 1) l k 0 (fun k n x _ hp => by
    obtain ⟨h1, h2⟩ := hp
    refine ⟨by simp [mkInt, hdInt], ?_⟩
    simp only [mkInt, Rm]
    rw [w64_eq (by omega)]
    omega) ⟨h.1, by omega⟩
  exact ⟨this.1, this.2.1⟩
theorem marks_pc (l : List Pc) (k : Int) (h : 0 ≤ k ∧ k + l.length * 2 ≤ 9223372036854775807) : hscan hdPc k (scan mkPc k l).1 = (scan mkPc k l).2 ∧ 0 ≤ (scan mkPc k l).2 ∧ (scan mkPc k l).2 = k + l.length * 2 := by
  have := hscan_scan mkPc hdPc (fun j n => 0 ≤ j ∧ j + n * 2 = k + l.length * 2) l k 0 (fun k n x _ hp => by
    obtain ⟨h1, h2⟩ := hp
    refine ⟨by simp [mkPc, hdPc], ?_⟩
    simp only [mkPc]
    rw [w64_eq (n := k + 1) (by omega), w64_eq (by omega)]
    omega) ⟨h.1, by omega⟩
  obtain ⟨h1, h2, h3⟩ := this
  exact ⟨h1, h2, by omega⟩
def mkDig : Nat → Int → ByteArray → ByteArray
  | 0, _, o => o
  | n + 1, k, o => if 0 < k then mkDig n (k.tdiv 10) (bytesText [IntKind.u8.wrap (w64 (48 + k.tmod 10))] ++ o) else o
/-- The text of a mark's number. -/
def mkText (k : Int) : ByteArray := if k ≤ 0 then ⟨#[109, 48]⟩ else ⟨#[109]⟩ ++ mkDig k.toNat k ⟨#[]⟩
theorem w64_le (n : Int) : w64 n ≤ 9223372036854775807 := by
  unfold w64 IntKind.wrap
  simp [IntKind.bits, IntKind.signed]
  omega
def dirBit (k : Int) : Bool := decide (k.tmod 3 = 0)
@[simp] theorem dirBit_eq (k : Int) [inst : Decidable (k.tmod 3 = 0)] : decide (k.tmod 3 = 0) = dirBit k := by unfold dirBit; congr
def mkNod (k : Int) (x : Nod) : Nod × Int :=
  let k2 := w64 (w64 (k + 1) + 1)
  let k7 := w64 (w64 (w64 (w64 (w64 (k2 + 1) + 1) + 1) + 1) + 1)
  let q := scan mkPc k7 x.pieces
  (⟨k, w64 (k + 1), mkText k2, dirBit (w64 (k2 + 1)), w64 (w64 (k2 + 1) + 1), w64 (w64 (w64 (k2 + 1) + 1) + 1), w64 (w64 (w64 (w64 (k2 + 1) + 1) + 1) + 1), q.1, q.2⟩, w64 (q.2 + 1))
def hdNod (k : Int) (x : Nod) : Option Int :=
  let k2 := w64 (w64 (k + 1) + 1)
  let k3 := w64 (k2 + 1)
  let k4 := w64 (k3 + 1)
  let k5 := w64 (k4 + 1)
  let k6 := w64 (k5 + 1)
  let k7 := w64 (k6 + 1)
  let q := hscan hdPc k7 x.pieces
  if x.id = k then if x.parent = w64 (k + 1) then if x.name = mkText k2 then if x.dir = dirBit k3 then if x.schema = k4 then if x.quota = k5 then if x.len = k6 then if q < 0 then none else if x.writer = q then some (w64 (q + 1)) else none else none else none else none else none else none else none else none
theorem marks_nod (l : List Nod) (k : Int) (h : 0 ≤ k ∧ k + l.length * 2097160 ≤ 9223372036854775807) (hp : ∀ x ∈ l, x.pieces.length ≤ 1048576) : hscan hdNod k (scan mkNod k l).1 = (scan mkNod k l).2 ∧ 0 ≤ (scan mkNod k l).2 := by
  have := hscan_scan mkNod hdNod (Rm 2097160) l k 0 (fun k n x hx hk => by
    obtain ⟨h1, h2⟩ := hk
    have hl := hp x hx
    have e1 : w64 (k + 1) = k + 1 := w64_eq (by omega)
    have e2 : w64 (k + 1 + 1) = k + 1 + 1 := w64_eq (by omega)
    have e3 : w64 (k + 1 + 1 + 1) = k + 1 + 1 + 1 := w64_eq (by omega)
    have e4 : w64 (k + 1 + 1 + 1 + 1) = k + 1 + 1 + 1 + 1 := w64_eq (by omega)
    have e5 : w64 (k + 1 + 1 + 1 + 1 + 1) = k + 1 + 1 + 1 + 1 + 1 := w64_eq (by omega)
    have e6 : w64 (k + 1 + 1 + 1 + 1 + 1 + 1) = k + 1 + 1 + 1 + 1 + 1 + 1 := w64_eq (by omega)
    have e7 : w64 (k + 1 + 1 + 1 + 1 + 1 + 1 + 1) = k + 1 + 1 + 1 + 1 + 1 + 1 + 1 := w64_eq (by omega)
    obtain ⟨p1, p2, p3⟩ := marks_pc x.pieces (k + 1 + 1 + 1 + 1 + 1 + 1 + 1) (by omega)
    have e8 : w64 ((scan mkPc (k + 1 + 1 + 1 + 1 + 1 + 1 + 1) x.pieces).2 + 1) = (scan mkPc (k + 1 + 1 + 1 + 1 + 1 + 1 + 1) x.pieces).2 + 1 := w64_eq (by omega)
    have hn : ¬ (scan mkPc (k + 1 + 1 + 1 + 1 + 1 + 1 + 1) x.pieces).2 < 0 := by omega
    simp only [mkNod, hdNod, e1, e2, e3, e4, e5, e6, e7, p1, e8, if_true, hn, if_false, Rm, true_and]
    omega) ⟨h.1, by omega⟩
  exact ⟨this.1, this.2.1⟩
end Go.Tm

/- Sorted lists: put together one by one, or sorted at once. -/
namespace Go.Tm
open Go Go.Abs
set_option linter.unusedVariables false
section
variable {α : Type}
def insG (le : α → α → Bool) (x : α) (o : List α) : List α := o.filter (fun y => le y x) ++ x :: o.filter (fun y => !le y x)
def insSort (le : α → α → Bool) (l : List α) : List α := l.foldl (fun o x => insG le x o) []
structure LinB (le : α → α → Bool) : Prop where
  tot : ∀ a b, (le a b || le b a) = true
  tr : ∀ a b c, le a b = true → le b c = true → le a c = true
  anti : ∀ a b, le a b = true → le b a = true → a = b
variable {le : α → α → Bool}
theorem insG_perm (x : α) (o : List α) : (insG le x o).Perm (x :: o) := by
  unfold insG
  refine List.perm_middle.trans (List.Perm.cons x ?_)
  exact List.filter_append_perm _ o
theorem insG_sorted (h : LinB le) (x : α) {o : List α} (ho : o.Pairwise fun a b => le a b = true) : (insG le x o).Pairwise fun a b => le a b = true := by
  unfold insG
  rw [List.pairwise_append]
  refine ⟨ho.filter _, ?_, fun a ha b hb => ?_⟩
  · rw [List.pairwise_cons]
    refine ⟨fun b hb => ?_, ho.filter _⟩
    have := (List.mem_filter.1 hb).2
    have := h.tot x b
    simp_all
  · have h1 := (List.mem_filter.1 ha).2
    rcases List.mem_cons.1 hb with rfl | hb
    · exact h1
    · have h2 := (List.mem_filter.1 hb).2
      have h3 := h.tot x b
      exact h.tr a x b h1 (by simp_all)
theorem insSort_ok (h : LinB le) : ∀ (l o : List α), o.Pairwise (fun a b => le a b = true) → (l.foldl (fun o x => insG le x o) o).Pairwise (fun a b => le a b = true) ∧ (l.foldl (fun o x => insG le x o) o).Perm (o ++ l)
  | [], o, ho => ⟨ho, by simp⟩
  | x :: r, o, ho => by
    have h1 := insSort_ok h r (insG le x o) (insG_sorted h x ho)
    refine ⟨h1.1, h1.2.trans ?_⟩
    refine ((insG_perm x o).append_right r).trans ?_
    simpa using (List.perm_middle (a := x) (l₁ := o) (l₂ := r)).symm
theorem insSort_eq (h : LinB le) (l : List α) : insSort le l = l.mergeSort le := by
  have h1 := insSort_ok h l [] .nil
  refine List.Perm.eq_of_pairwise (le := fun a b => le a b = true) (fun a b _ _ => h.anti a b) h1.1 (List.pairwise_mergeSort h.tr h.tot l) ?_
  exact (show (insSort le l).Perm l by simpa [insSort] using h1.2).trans (List.mergeSort_perm l le).symm
end
def leN (s t : ByteArray) : Bool := decide (s.toList ≤ t.toList)
theorem toList_inj {s t : ByteArray} (h : s.toList = t.toList) : s = t := by
  have := bytes_eq s t
  simpa [h] using this
theorem leN_lin : LinB leN := ⟨fun a b => by simpa [leN] using List.le_total a.toList b.toList, fun a b c => by simpa [leN] using List.le_trans, fun a b h1 h2 => toList_inj (by
  simp only [leN, decide_eq_true_eq] at h1 h2
  exact List.le_antisymm h1 h2)⟩
@[simp] theorem le_code (s t : ByteArray) : (Op.bytesLess s.toList t.toList || decide (s = t)) = leN s t := by
  rw [Go.Proofs.bytesLess_eq, Bool.eq_iff_iff]
  simp only [Bool.or_eq_true, decide_eq_true_eq, leN, List.le_iff_lt_or_eq]
  constructor
  · rintro (h | rfl)
    · exact .inl h
    · exact .inr rfl
  · rintro (h | h)
    · exact .inl h
    · exact .inr (toList_inj h)
theorem sort_names (l : List ByteArray) : (l.map ByteArray.toList).mergeSort (fun x y => decide (x ≤ y)) = (l.mergeSort leN).map ByteArray.toList := by
  have h1 := List.pairwise_mergeSort (le := fun x y : List UInt8 => decide (x ≤ y)) (fun a b c => by simpa using List.le_trans) (fun a b => by simpa using List.le_total a b) (l.map ByteArray.toList)
  have h2 := List.pairwise_mergeSort (le := leN) leN_lin.tr leN_lin.tot l
  refine List.Perm.eq_of_pairwise (le := fun a b => decide (a ≤ b) = true) (fun a b _ _ h3 h4 => by simp only [decide_eq_true_eq] at h3 h4; exact List.le_antisymm h3 h4) h1 (List.pairwise_map.2 (h2.imp fun h => h)) ?_
  exact (List.mergeSort_perm _ _).trans ((List.mergeSort_perm l leN).symm.map _)
def kidNames (l : List Nod) (id : Int) : List ByteArray := (l.filter fun x => decide (x.parent = id)).map (·.name)
def kidsOf (t : Tree) (id : Int) : List ByteArray := if okT t.nodes t.next = true then insSort leN (kidNames t.nodes id) else []
theorem insG_len {α : Type} {le : α → α → Bool} (x : α) (o : List α) : (insG le x o).length = o.length + 1 := (insG_perm x o).length_eq
theorem filter_take' {α : Type} {p : α → Bool} {l : List α} {i : Nat} {x : α} (hx : l[i]? = some x) : (l.take (i + 1)).filter p = (l.take i).filter p ++ (if p x = true then [x] else []) := by
  rw [List.take_add_one, List.filter_append, hx]
  cases h : p x <;> simp [h]
theorem kidNames_take {l : List Nod} {i : Nat} {x : Nod} (hx : l[i]? = some x) (id : Int) : kidNames (l.take (i + 1)) id = kidNames (l.take i) id ++ (if x.parent = id then [x.name] else []) := by
  unfold kidNames
  rw [filter_take' hx, List.map_append]
  by_cases h : x.parent = id <;> simp [h]
theorem insSort_snoc {α : Type} (le : α → α → Bool) (l : List α) (x : α) : insSort le (l ++ [x]) = insG le x (insSort le l) := by simp [insSort]
theorem kidsOf_len (t : Tree) (id : Int) : (kidsOf t id).length ≤ t.nodes.length := by
  unfold kidsOf
  split
  · rw [insSort_eq leN_lin, List.length_mergeSort]
    unfold kidNames
    rw [List.length_map]; exact List.length_filter_le _ _
  · simp
end Go.Tm

/- Groups of files: numbers put together ascending, each once. -/
namespace Go.Tm
open Go Go.Abs
set_option linter.unusedVariables false
/-- Strictly ascending lists with the same members are one. -/
theorem asc_ext : ∀ (a b : List Int), a.Pairwise (· < ·) → b.Pairwise (· < ·) → (∀ x, x ∈ a ↔ x ∈ b) → a = b
  | [], [], _, _, _ => rfl
  | [], y :: b, _, _, h => absurd ((h y).2 (by simp)) (by simp)
  | x :: a, [], _, _, h => absurd ((h x).1 (by simp)) (by simp)
  | x :: a, y :: b, ha, hb, h => by
    rw [List.pairwise_cons] at ha hb
    have e : x = y := by
      have h1 := (h x).1 (by simp)
      have h2 := (h y).2 (by simp)
      rcases List.mem_cons.1 h1 with h1 | h1
      · exact h1
      · rcases List.mem_cons.1 h2 with h2 | h2
        · exact h2.symm
        · have := ha.1 y h2; have := hb.1 x h1; omega
    subst e
    congr 1
    refine asc_ext a b ha.2 hb.2 fun z => ⟨fun hz => ?_, fun hz => ?_⟩
    · rcases List.mem_cons.1 ((h z).1 (by simp [hz])) with rfl | h3
      · exact absurd (ha.1 z hz) (by omega)
      · exact h3
    · rcases List.mem_cons.1 ((h z).2 (by simp [hz])) with rfl | h3
      · exact absurd (hb.1 z hz) (by omega)
      · exact h3
def insI (x : Int) (o : List Int) : List Int := o.filter (fun y => decide (y < x)) ++ x :: o.filter (fun y => decide (x < y))
def gSet (l : List Int) : List Int := l.foldl (fun o x => insI x o) []
theorem insI_mem (x z : Int) (o : List Int) : z ∈ insI x o ↔ z = x ∨ z ∈ o := by
  unfold insI
  simp only [List.mem_append, List.mem_cons, List.mem_filter, decide_eq_true_eq]
  constructor
  · rintro (⟨h, _⟩ | h | ⟨h, _⟩)
    · exact .inr h
    · exact .inl h
    · exact .inr h
  · rintro (h | h)
    · exact .inr (.inl h)
    · rcases Int.lt_trichotomy z x with c | c | c
      · exact .inl ⟨h, c⟩
      · exact .inr (.inl c)
      · exact .inr (.inr ⟨h, c⟩)
theorem insI_asc (x : Int) {o : List Int} (h : o.Pairwise (· < ·)) : (insI x o).Pairwise (· < ·) := by
  unfold insI
  rw [List.pairwise_append]
  refine ⟨h.filter _, ?_, fun a ha b hb => ?_⟩
  · rw [List.pairwise_cons]
    exact ⟨fun b hb => by simpa using (List.mem_filter.1 hb).2, h.filter _⟩
  · have h1 : a < x := by simpa using (List.mem_filter.1 ha).2
    rcases List.mem_cons.1 hb with rfl | hb
    · exact h1
    · have h2 : x < b := by simpa using (List.mem_filter.1 hb).2
      omega
theorem gSet_spec : ∀ (l o : List Int), o.Pairwise (· < ·) → (l.foldl (fun o x => insI x o) o).Pairwise (· < ·) ∧ ∀ z, z ∈ l.foldl (fun o x => insI x o) o ↔ z ∈ o ∨ z ∈ l
  | [], o, ho => ⟨ho, by simp⟩
  | x :: r, o, ho => by
    have h := gSet_spec r (insI x o) (insI_asc x ho)
    refine ⟨h.1, fun z => ?_⟩
    rw [List.foldl_cons, h.2 z, insI_mem]
    simp only [List.mem_cons]
    constructor
    · rintro ((h | h) | h)
      · exact .inr (.inl h)
      · exact .inl h
      · exact .inr (.inr h)
    · rintro (h | h | h)
      · exact .inl (.inr h)
      · exact .inl (.inl h)
      · exact .inr h
theorem compact_spec (d : Array Int) (hd : ∀ j, j + 1 < d.size → d[j]! ≤ d[j + 1]!) : ∀ m, m ≤ d.size → (Lib.compactUpTo d m).Pairwise (· < ·) ∧ (∀ x, x ∈ Lib.compactUpTo d m ↔ ∃ j, j < m ∧ d[j]! = x) ∧ ∀ x ∈ Lib.compactUpTo d m, x ≤ d[m - 1]!
  | 0, _ => by simp [Lib.compactUpTo]
  | m + 1, hm => by
    obtain ⟨h1, h2, h3⟩ := compact_spec d hd m (by omega)
    rw [Lib.compactUpTo_succ]
    by_cases hk : Lib.keeps d m = true
    · rw [if_pos hk]
      have hlt : ∀ x ∈ Lib.compactUpTo d m, x < d[m]! := fun x hx => by
        obtain ⟨j, hj, _⟩ := (h2 x).1 hx
        have := h3 x hx
        have h4 := hd (m - 1) (by omega)
        rw [show m - 1 + 1 = m by omega] at h4
        simp only [Lib.keeps, decide_eq_true_eq] at hk
        rcases hk with hk | hk <;> omega
      refine ⟨?_, fun x => ?_, fun x hx => ?_⟩
      · rw [List.pairwise_append]
        exact ⟨h1, by simp, fun a ha b hb => by simp at hb; subst hb; exact hlt a ha⟩
      · rw [List.mem_append, h2]
        constructor
        · rintro (⟨j, hj, e⟩ | hx)
          · exact ⟨j, by omega, e⟩
          · simp at hx; exact ⟨m, by omega, hx.symm⟩
        · rintro ⟨j, hj, e⟩
          by_cases c : j = m
          · subst c; right; simp [e]
          · left; exact ⟨j, by omega, e⟩
      · rw [show m + 1 - 1 = m by omega]
        rcases List.mem_append.1 hx with hx | hx
        · exact Int.le_of_lt (hlt x hx)
        · simp at hx; omega
    · rw [if_neg hk, List.append_nil]
      simp only [Lib.keeps, decide_eq_true_eq, not_or, ne_eq, Decidable.not_not] at hk
      refine ⟨h1, fun x => ?_, fun x hx => ?_⟩
      · rw [h2]
        constructor
        · rintro ⟨j, hj, e⟩; exact ⟨j, by omega, e⟩
        · rintro ⟨j, hj, e⟩
          by_cases c : j = m
          · subst c; exact ⟨j - 1, by omega, by rw [← hk.2]; exact e⟩
          · exact ⟨j, by omega, e⟩
      · rw [show m + 1 - 1 = m by omega, hk.2]; exact h3 x hx
theorem compact_sort (l : List Int) : Lib.compact (l.mergeSort fun x y => decide (x ≤ y)) = gSet l := by
  have hs := List.pairwise_mergeSort (le := fun x y : Int => decide (x ≤ y)) (fun a b c => by simp; omega) (fun a b => by simp; omega) l
  generalize hq : l.mergeSort (fun x y => decide (x ≤ y)) = q at hs
  have hd : ∀ j, j + 1 < q.toArray.size → q.toArray[j]! ≤ q.toArray[j + 1]! := fun j hj => by
    have hj2 : j + 1 < q.length := by simpa using hj
    have := List.pairwise_iff_getElem.1 hs j (j + 1) (by omega) hj2 (by omega)
    simp only [decide_eq_true_eq] at this
    rw [getElem!_pos _ _ (by simpa using (show j < q.length by omega)), getElem!_pos _ _ (by simpa using hj2)]
    simpa using this
  obtain ⟨h1, h2, _⟩ := compact_spec q.toArray hd q.length (by simp)
  have h3 := gSet_spec l [] .nil
  refine asc_ext _ _ h1 h3.1 fun x => ?_
  rw [show Lib.compact q = Lib.compactUpTo q.toArray q.length from rfl, show gSet l = l.foldl (fun o x => insI x o) [] from rfl, h2, h3.2]
  have hp : ∀ x, x ∈ q ↔ x ∈ l := fun x => by rw [← hq]; exact (List.mergeSort_perm l _).mem_iff
  simp only [List.not_mem_nil, false_or]
  rw [← hp x]
  constructor
  · rintro ⟨j, hj, e⟩
    rw [getElem!_pos _ _ (by simpa using hj)] at e
    rw [← e]; simp
  · intro hx
    obtain ⟨j, hj, e⟩ := List.getElem_of_mem hx
    exact ⟨j, hj, by rw [getElem!_pos _ _ (by simpa using hj)]; simpa using e⟩
def grpAt (l : List Nod) (k : Int) : List Int := match nd l k with | some x => x.pieces.map (·.group) | none => []
def groupsL (l : List Nod) (ks : List Int) : List Int := ks.flatMap (grpAt l)
def groupsOf (t : Tree) (id : Int) : List Int := gSet (groupsL t.nodes (belowOf t id))
theorem mem_belowOf {t : Tree} {id k : Int} (h : k ∈ belowOf t id) : okT t.nodes t.next = true ∧ ∃ x ∈ t.nodes, x.id = k := by
  unfold belowOf at h
  split at h
  · rename_i hc
    unfold belows at h
    obtain ⟨x, hx, rfl⟩ := List.mem_map.1 h
    exact ⟨hc.1, x, (List.mem_filter.1 hx).1, rfl⟩
  · simp at h
theorem ndB_pieces {x : Nod} (h : ndB x = true) : x.pieces.length ≤ 40 := by
  cases hd : x.dir with
  | true => have := (ndB_dir h hd).2.2.2.1; simp [this]
  | false => exact (ndB_file h hd).2.2.1
theorem insI_len (x : Int) (o : List Int) : (insI x o).length ≤ o.length + 1 := by
  unfold insI
  have h : ∀ o : List Int, (o.filter (fun y => decide (y < x))).length + (o.filter (fun y => decide (x < y))).length ≤ o.length := by
    intro o
    induction o with
    | nil => simp
    | cons y r ih =>
      simp only [List.filter_cons, List.length_cons]
      by_cases h1 : y < x <;> by_cases h2 : x < y <;> simp [h1, h2] <;> omega
  have := h o
  simp; omega
theorem gSet_app (a b : List Int) : gSet (a ++ b) = b.foldl (fun o x => insI x o) (gSet a) := by simp [gSet]
theorem groupsL_take {l : List Nod} {ks : List Int} {i : Nat} {k : Int} (hk : ks[i]? = some k) : groupsL l (ks.take (i + 1)) = groupsL l (ks.take i) ++ grpAt l k := by
  unfold groupsL
  rw [List.take_add_one, hk]; simp
theorem groupsL_len {l : List Nod} (h : ∀ x ∈ l, ndB x = true) : ∀ (ks : List Int), (groupsL l ks).length ≤ 40 * ks.length
  | [] => by simp [groupsL]
  | k :: r => by
    have := groupsL_len h r
    unfold groupsL at this ⊢
    simp only [List.flatMap_cons, List.length_append, List.length_cons]
    have h2 : (grpAt l k).length ≤ 40 := by
      unfold grpAt
      cases hn : nd l k with
      | none => simp
      | some x => simpa using ndB_pieces (h x (nd_mem hn).1)
    omega
theorem gSet_len (l : List Int) : ∀ (o : List Int), (l.foldl (fun o x => insI x o) o).length ≤ o.length + l.length := by
  induction l with
  | nil => simp
  | cons x r ih => intro o; have := ih (insI x o); have := insI_len x o; simp only [List.foldl_cons, List.length_cons]; omega
theorem groupsOf_len (t : Tree) (id : Int) : (groupsOf t id).length ≤ 40 * t.nodes.length := by
  unfold groupsOf
  cases hb : belowOf t id with
  | nil => simp [groupsL, gSet]
  | cons k r =>
    have h1 := (mem_belowOf (t := t) (id := id) (k := k) (by rw [hb]; simp)).1
    have h2 := groupsL_len (okT_iff.1 h1).nds (k :: r)
    have h3 := gSet_len (groupsL t.nodes (k :: r)) []
    have h4 := belowOf_len t id
    rw [hb] at h4
    simp only [gSet]
    simp only [List.length_nil] at h3
    omega
end Go.Tm

