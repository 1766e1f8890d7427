/- Abstract states of Go's memory: what frames hold, and rules for code over them (part 1). -/
import Derived.Orders
import Derived.LoopN
import Derived.Laws.OwnMore
import Derived.Below
import Derived.Laws.Slices
import Derived.Laws.BytesString
import Derived.Laws.Closers25b
import Derived.Laws.StructEq
import Derived.Laws.IdiomCopy
import Derived.ProofKit
import Derived.Deep.Slices
import Derived.Sort.Row
import Derived.Sort.Grow
import Derived.Lib.AppendZerosOnto
import Derived.ArgAppend
import Derived.Lib.Overlaps
import Derived.Lib.Walk
import Derived.Lib.ConvBytes
/- Abstract states: Go's values as trees; a slice that a call made is owned, every other one is only read. What a tree says of a value in memory (RC), and how that stays when memory turns elsewhere. -/
namespace Go.Abs
open Go
set_option linter.unusedVariables false
set_option linter.unusedSimpArgs false
variable {Z : TypeId → Nat}
/-- The content of one cell: a scalar; a slice (owned or only read) with its element type and its elements, each a list of cells; or nothing known. -/
inductive Cell where
  | sc (v : Value)
  | row (own : Bool) (e : TypeId) (es : List (List Cell))
  | hole
def isSc : Value → Bool
  | .bool _ => true
  | .int _ _ => true
  | .string s => decide (s.size ≤ maxLen)
  | .pointer none => true
  | .nilFunc => true
  | _ => false
abbrev Rows := List (List Cell)
def cellAt (es : Rows) (i c : Nat) : Option Cell := es[i]?.bind (·[c]?)
/-- A slice that is only read: its block is one of S. -/
def shrRow (w : World) (S : Nat → Prop) (sz : Nat) (v : Value) (n : Nat) (xs : List Value) : Prop :=
  xs.length = n * sz ∧ ((v = .slice none 0 0 ∧ n = 0) ∨
    (∃ b off cap cur ty fz, v = .slice (some ⟨b, off, none⟩) n cap ∧ S b ∧ w.heap[b]? = some (.cells cur ty fz) ∧ n ≤ cap ∧ cap ≤ maxLen ∧ (cur.toList.drop off).take (n * sz) = xs) ∨ ∃ a cap, v = .slice (some a) 0 cap ∧ n = 0 ∧ cap ≤ maxLen)
def lv (xs : List Value) (sz : Nat) (i c : Nat) : Value := xs.getD (i * sz + c) undef
/-- 'c' is what cell value 'v' stands for; its own blocks are 'fp'; what is only read lies in blocks of S. -/
inductive RC (Z : TypeId → Nat) (w : World) (S : Nat → Prop) : Cell → Value → (Nat → Prop) → Prop
  | sc {v} (h : isSc v = true) : RC Z w S (.sc v) v (fun _ => False)
  | hole {v} (h : v.oneCell' = true) : RC Z w S .hole v (fun _ => False)
  | own {e es v} (sz : Nat) (hz : Z e = sz) (xs : List Value) (fps : Nat → Nat → Nat → Prop) (ho : w.ownsRow 0 e sz v es.length xs) (hsz : ∀ x ∈ es, x.length = sz)
      (hr : ∀ i c cell, cellAt es i c = some cell → RC Z w S cell (lv xs sz i c) (fps i c))
      (hout : ∀ i c, cellAt es i c = none → ∀ k, ¬ fps i c k)
      (hd : ∀ i c i' c' k, fps i c k → fps i' c' k → i = i' ∧ c = c')
      (hg : ∀ g, v.ownBlock = some g → ¬ S g ∧ ∀ i c, ¬ fps i c g) :
      RC Z w S (.row true e es) v (fun k => v.ownBlock = some k ∨ ∃ i c, fps i c k)
  | shr {e es v} (sz : Nat) (hz : Z e = sz) (xs : List Value) (hs : shrRow w S sz v es.length xs) (hsz : ∀ x ∈ es, x.length = sz)
      (hr : ∀ i c cell, cellAt es i c = some cell → RC Z w S cell (lv xs sz i c) (fun _ => False)) :
      RC Z w S (.row false e es) v (fun _ => False)
theorem cellAt_lt {es : Rows} {i c : Nat} {cell : Cell} (h : cellAt es i c = some cell) : i < es.length ∧ ∃ x, es[i]? = some x ∧ x[c]? = some cell := by
  unfold cellAt at h
  cases hx : es[i]? with
  | none => rw [hx] at h; cases h
  | some x =>
    rw [hx] at h
    exact ⟨(List.getElem?_eq_some_iff.1 hx).1, x, rfl, h⟩
theorem isSc_one {v : Value} (h : isSc v = true) : v.oneCell' = true := by
  cases v <;> simp_all [isSc, Value.oneCell']
theorem owns_one {w : World} {e : TypeId} {sz n : Nat} {v : Value} {xs : List Value} (h : w.ownsRow 0 e sz v n xs) : v.oneCell' = true := by
  rcases h.2 with ⟨rfl, _⟩ | ⟨_, _, _, rfl, _⟩ <;> rfl
theorem shr_one {w : World} {S : Nat → Prop} {sz n : Nat} {v : Value} {xs : List Value} (h : shrRow w S sz v n xs) : v.oneCell' = true := by
  rcases h.2 with ⟨rfl, _⟩ | ⟨_, _, _, _, _, _, rfl, _⟩ | ⟨_, _, rfl, _⟩ <;> rfl
theorem RC.one {w : World} {S : Nat → Prop} {c : Cell} {v : Value} {fp : Nat → Prop} (h : RC Z w S c v fp) : v.oneCell' = true := by
  cases h with
  | sc h => exact isSc_one h
  | hole h => exact h
  | own sz hz xs fps ho => exact owns_one ho
  | shr sz hz xs hs => exact shr_one hs
theorem owns_frame {w w' : World} {e : TypeId} {sz n : Nat} {v : Value} {xs : List Value} (h : w.ownsRow 0 e sz v n xs) (hk : ∀ k, v.ownBlock = some k → w'.heap[k]? = w.heap[k]?) : w'.ownsRow 0 e sz v n xs := by
  refine ⟨h.1, ?_⟩
  rcases h.2 with hn | ⟨g, cap, cur, rfl, hb, hg, rest⟩
  · exact .inl hn
  · exact .inr ⟨g, cap, cur, rfl, hb, by rw [hk g rfl]; exact hg, rest⟩
theorem shr_frame {w w' : World} {S S' : Nat → Prop} {sz n : Nat} {v : Value} {xs : List Value} (h : shrRow w S sz v n xs) (hk : ∀ k, S k → w'.heap[k]? = w.heap[k]?) (hS : ∀ k, S k → S' k) : shrRow w' S' sz v n xs := by
  refine ⟨h.1, ?_⟩
  rcases h.2 with hn | ⟨b, off, cap, cur, ty, fz, rfl, hb, hg, rest⟩ | hz
  · exact .inl hn
  · exact .inr (.inl ⟨b, off, cap, cur, ty, fz, rfl, hS b hb, by rw [hk b hb]; exact hg, rest⟩)
  · exact .inr (.inr hz)
/-- Memory turns elsewhere; more blocks are only read. -/
theorem RC.frame {w w' : World} {S S' : Nat → Prop} {c : Cell} {v : Value} {fp : Nat → Prop} (h : RC Z w S c v fp)
    (hS : ∀ k, S k → w'.heap[k]? = w.heap[k]?) (hfp : ∀ k, fp k → w'.heap[k]? = w.heap[k]?) (hSS : ∀ k, S k → S' k) (hn : ∀ k, fp k → ¬ S' k) : RC Z w' S' c v fp := by
  induction h with
  | sc h => exact .sc h
  | hole h => exact .hole h
  | own sz hz xs fps ho hsz hr hout hd hg ih =>
    refine .own sz hz xs fps (owns_frame ho fun k hk => hfp k (.inl hk)) hsz (fun i c cell hc => ih i c cell hc (fun k hk => hfp k (.inr ⟨i, c, hk⟩)) (fun k hk => hn k (.inr ⟨i, c, hk⟩))) hout hd
      fun g hgg => ⟨hn g (.inl hgg), (hg g hgg).2⟩
  | shr sz hz xs hs hsz hr ih =>
    exact .shr sz hz xs (shr_frame hs hS hSS) hsz fun i c cell hc => ih i c cell hc (fun _ h => h.elim) (fun _ h => h.elim)
theorem RC.lt {w : World} {S : Nat → Prop} {c : Cell} {v : Value} {fp : Nat → Prop} (h : RC Z w S c v fp) : ∀ k, fp k → k < w.heap.size := by
  induction h with
  | sc => exact fun _ h => h.elim
  | hole => exact fun _ h => h.elim
  | own sz hz xs fps ho hsz hr hout hd hg ih =>
    rintro k (hk | ⟨i, c, hk⟩)
    · exact (ho.lt k hk).2
    · cases hc : cellAt _ i c with
      | none => exact absurd hk (hout i c hc k)
      | some cell => exact ih i c cell hc k hk
  | shr => exact fun _ h => h.elim
theorem RC.notS {w : World} {S : Nat → Prop} {c : Cell} {v : Value} {fp : Nat → Prop} (h : RC Z w S c v fp) : ∀ k, fp k → ¬ S k := by
  induction h with
  | sc => exact fun _ h => h.elim
  | hole => exact fun _ h => h.elim
  | own sz hz xs fps ho hsz hr hout hd hg ih =>
    rintro k (hk | ⟨i, c, hk⟩)
    · exact (hg k hk).1
    · cases hc : cellAt _ i c with
      | none => exact absurd hk (hout i c hc k)
      | some cell => exact ih i c cell hc k hk
  | shr => exact fun _ h => h.elim
/-! ### Giving up what is owned: it is only read from now on -/
mutual
def share : Cell → Cell
  | .sc v => .sc v
  | .row _ e es => .row false e (shareLL es)
  | .hole => .hole
def shareL : List Cell → List Cell
  | [] => []
  | c :: r => share c :: shareL r
def shareLL : List (List Cell) → List (List Cell)
  | [] => []
  | x :: r => shareL x :: shareLL r
end
theorem shareL_eq : ∀ l, shareL l = l.map share
  | [] => rfl
  | c :: r => by simp [shareL, shareL_eq r]
theorem shareLL_eq : ∀ l, shareLL l = l.map (·.map share)
  | [] => rfl
  | x :: r => by simp [shareLL, shareLL_eq r, shareL_eq]
theorem cellAt_share {es : Rows} {i c : Nat} {cell : Cell} (h : cellAt (es.map (·.map share)) i c = some cell) : ∃ c0, cellAt es i c = some c0 ∧ cell = share c0 := by
  unfold cellAt at *
  rw [List.getElem?_map] at h
  cases hx : es[i]? with
  | none => rw [hx] at h; cases h
  | some x =>
    rw [hx] at h
    simp only [Option.map_some, Option.bind_some, List.getElem?_map] at h
    cases hc : x[c]? with
    | none => rw [hc] at h; cases h
    | some c0 => rw [hc] at h; simp only [Option.map_some, Option.some.injEq] at h; exact ⟨c0, by simpa using hc, h.symm⟩
theorem RC.share {w : World} {S S' : Nat → Prop} {c : Cell} {v : Value} {fp : Nat → Prop} (h : RC Z w S c v fp) (hS : ∀ k, S k → S' k) (hf : ∀ k, fp k → S' k) : RC Z w S' (share c) v (fun _ => False) := by
  induction h with
  | sc h => exact .sc h
  | hole h => exact .hole h
  | @own e es v sz hz xs fps ho hsz hr hout hd hg ih =>
    simp only [Abs.share, shareLL_eq]
    refine .shr sz hz xs ⟨by simpa using ho.1, ?_⟩ (fun x hx => ?_) fun i c cell hc => ?_
    · rcases ho.2 with ⟨rfl, hn⟩ | ⟨g, cap, cur, rfl, hb, hgg, hnc, hcm, hcs, htake⟩
      · exact .inl ⟨rfl, by simpa using hn⟩
      · exact .inr (.inl ⟨g, 0, cap, cur, e, (0, 0), by simp, hf g (.inl rfl), hgg, by simpa using hnc, hcm, by simpa using htake⟩)
    · obtain ⟨y, hy, rfl⟩ := List.mem_map.1 hx
      simpa using hsz y hy
    · obtain ⟨c0, h0, rfl⟩ := cellAt_share hc
      exact ih i c c0 h0 fun k hk => hf k (.inr ⟨i, c, hk⟩)
  | @shr e es v sz hz xs hs hsz hr ih =>
    simp only [Abs.share, shareLL_eq]
    refine .shr sz hz xs (by simpa using shr_frame (w' := w) hs (fun _ _ => rfl) hS) (fun x hx => ?_) fun i c cell hc => ?_
    · obtain ⟨y, hy, rfl⟩ := List.mem_map.1 hx
      simpa using hsz y hy
    · obtain ⟨c0, h0, rfl⟩ := cellAt_share hc
      exact ih i c c0 h0 fun k hk => hk.elim
end Go.Abs

/- Places in a tree of owned rows (a path of cells), their contents, their values and addresses in memory, and what one change at a place leaves as it was. -/
namespace Go.Abs
open Go
set_option linter.unusedVariables false
set_option linter.unusedSimpArgs false
variable {Z : TypeId → Nat}
abbrev Path := List (Nat × Nat)
def put1 (es : Rows) (i c : Nat) (x : Cell) : Rows := es.modify i (·.set c x)
def look : Rows → Path → Option Cell
  | _, [] => none
  | es, (i, c) :: p => match p with
    | [] => cellAt es i c
    | _ :: _ => match cellAt es i c with
      | some (.row true _ es') => look es' p
      | _ => none
def setc : Rows → Path → Cell → Rows
  | es, [], _ => es
  | es, (i, c) :: p, x => match p with
    | [] => put1 es i c x
    | _ :: _ => match cellAt es i c with
      | some (.row true e es') => put1 es i c (.row true e (setc es' p x))
      | _ => es
def width (es : Rows) : Nat := (es.headD []).length
def rowVals (w : World) (v : Value) (sz : Nat) (i c : Nat) : Value :=
  match v.ownBlock with
  | some g => match w.heap[g]? with
    | some (.cells cur _ _) => cur.getD (i * sz + c) undef
    | _ => undef
  | none => undef
def rowAd (v : Value) (sz : Nat) (i c : Nat) : Option Addr := v.ownBlock.map fun g => ⟨g, i * sz + c, none⟩
/-- A place's value and address. -/
def plc (w : World) : Rows → (Nat → Nat → Value) → (Nat → Nat → Option Addr) → Path → Value × Option Addr
  | _, _, _, [] => (undef, none)
  | es, vals, ad, (i, c) :: p => match p with
    | [] => (vals i c, ad i c)
    | _ :: _ => match cellAt es i c with
      | some (.row true _ es') => plc w es' (rowVals w (vals i c) (width es')) (rowAd (vals i c) (width es')) p
      | _ => (undef, none)
theorem look_one (es : Rows) (i c : Nat) : look es [(i, c)] = cellAt es i c := rfl
theorem look_inv {es : Rows} {i c : Nat} {q : Nat × Nat} {p : Path} {cell : Cell} (h : look es ((i, c) :: q :: p) = some cell) : ∃ e es', cellAt es i c = some (.row true e es') ∧ look es' (q :: p) = some cell := by
  rw [look] at h
  cases hc : cellAt es i c with
  | none => rw [hc] at h; cases h
  | some cl =>
    rw [hc] at h
    cases cl with
    | sc v => cases h
    | hole => cases h
    | row o e es' =>
      cases o with
      | false => cases h
      | true => exact ⟨e, es', rfl, h⟩
theorem look_own {es es' : Rows} {i c e : Nat} (q : Nat × Nat) (p : Path) (h : cellAt es i c = some (.row true e es')) : look es ((i, c) :: q :: p) = look es' (q :: p) := by
  rw [look]; simp only [h]
theorem setc_one (es : Rows) (i c : Nat) (x : Cell) : setc es [(i, c)] x = put1 es i c x := rfl
theorem setc_own {es es' : Rows} {i c e : Nat} (q : Nat × Nat) (p : Path) (x : Cell) (h : cellAt es i c = some (.row true e es')) : setc es ((i, c) :: q :: p) x = put1 es i c (.row true e (setc es' (q :: p) x)) := by
  rw [setc]; simp only [h]
theorem plc_one (w : World) (es : Rows) (vals : Nat → Nat → Value) (ad : Nat → Nat → Option Addr) (i c : Nat) : plc w es vals ad [(i, c)] = (vals i c, ad i c) := rfl
theorem plc_own {w : World} {es es' : Rows} (vals : Nat → Nat → Value) (ad : Nat → Nat → Option Addr) {i c e : Nat} (q : Nat × Nat) (p : Path) (h : cellAt es i c = some (.row true e es')) :
    plc w es vals ad ((i, c) :: q :: p) = plc w es' (rowVals w (vals i c) (width es')) (rowAd (vals i c) (width es')) (q :: p) := by
  rw [plc]; simp only [h]
structure RR (Z : TypeId → Nat) (w : World) (S : Nat → Prop) (es : Rows) (vals : Nat → Nat → Value) (fps : Nat → Nat → Nat → Prop) : Prop where
  rc : ∀ i c cell, cellAt es i c = some cell → RC Z w S cell (vals i c) (fps i c)
  out : ∀ i c, cellAt es i c = none → ∀ k, ¬ fps i c k
  dj : ∀ i c i' c' k, fps i c k → fps i' c' k → i = i' ∧ c = c'
theorem RR.lt {w S es vals fps} (h : RR Z w S es vals fps) {i c k : Nat} (hk : fps i c k) : k < w.heap.size := by
  cases hc : cellAt es i c with
  | none => exact absurd hk (h.out i c hc k)
  | some cell => exact (h.rc i c cell hc).lt k hk
theorem RR.notS {w S es vals fps} (h : RR Z w S es vals fps) {i c k : Nat} (hk : fps i c k) : ¬ S k := by
  cases hc : cellAt es i c with
  | none => exact absurd hk (h.out i c hc k)
  | some cell => exact (h.rc i c cell hc).notS k hk
theorem width_eq {es : Rows} {sz : Nat} (hsz : ∀ x ∈ es, x.length = sz) (hn : 0 < es.length) : width es = sz := by
  cases es with
  | nil => simp at hn
  | cons x r => exact hsz x (by simp)
theorem cellAt_put {es : Rows} {i c : Nat} {x y : Cell} (h : cellAt es i c = some y) (i' c' : Nat) : cellAt (put1 es i c x) i' c' = if i' = i ∧ c' = c then some x else cellAt es i' c' := by
  obtain ⟨hi, r, hr, hrc⟩ := cellAt_lt h
  unfold cellAt put1
  rw [List.getElem?_modify]
  by_cases hii : i = i'
  · subst hii
    simp only [if_true, hr, Option.map_eq_map, Option.map_some, Option.bind_some, true_and]
    rw [List.getElem?_set]
    by_cases hcc : c = c'
    · subst hcc
      simp [(List.getElem?_eq_some_iff.1 hrc).1]
    · have : c' ≠ c := fun e => hcc e.symm
      simp [hcc, this]
  · have hne : i' ≠ i := fun e => hii e.symm
    simp [hii, hne]
theorem put1_len (es : Rows) (i c : Nat) (x : Cell) : (put1 es i c x).length = es.length := by simp [put1]
theorem put1_rows {es : Rows} {i c : Nat} {x : Cell} {sz : Nat} (h : ∀ r ∈ es, r.length = sz) : ∀ r ∈ put1 es i c x, r.length = sz := by
  intro r hr
  obtain ⟨j, hj, rfl⟩ := List.mem_iff_getElem.1 hr
  unfold put1 at hj ⊢
  rw [List.getElem_modify]
  have hj' : j < es.length := by simpa using hj
  split
  · subst_vars; rw [List.length_set]; exact h _ (List.getElem_mem _)
  · exact h _ (List.getElem_mem _)
theorem put1_width (es : Rows) (i c : Nat) (x : Cell) : width (put1 es i c x) = width es := by
  unfold width put1
  cases es with
  | nil => simp
  | cons r rs => cases i <;> simp
theorem setc_len (es : Rows) (p : Path) (x : Cell) : (setc es p x).length = es.length := by
  cases p with
  | nil => rfl
  | cons ic p =>
    obtain ⟨i, c⟩ := ic
    unfold setc
    split
    · exact put1_len _ _ _ _
    · split
      · exact put1_len _ _ _ _
      · rfl
theorem setc_rows {es : Rows} {p : Path} {x : Cell} {sz : Nat} (h : ∀ r ∈ es, r.length = sz) : ∀ r ∈ setc es p x, r.length = sz := by
  cases p with
  | nil => exact h
  | cons ic p =>
    obtain ⟨i, c⟩ := ic
    unfold setc
    split
    · exact put1_rows h
    · split
      · exact put1_rows h
      · exact h
theorem setc_width (es : Rows) (p : Path) (x : Cell) : width (setc es p x) = width es := by
  cases p with
  | nil => rfl
  | cons ic p =>
    obtain ⟨i, c⟩ := ic
    unfold setc
    split
    · exact put1_width _ _ _ _
    · split
      · exact put1_width _ _ _ _
      · rfl
/-- What an owned row's cells hold, by its block. -/
theorem lv_rowVals {w : World} {e : TypeId} {sz n : Nat} {v : Value} {xs : List Value} (ho : w.ownsRow 0 e sz v n xs) {i c : Nat} (hi : i < n) (hc : c < sz) : lv xs sz i c = rowVals w v sz i c := by
  rcases ho.2 with ⟨rfl, h0⟩ | ⟨g, cap, cur, rfl, hb, hg, hnc, hcm, hcs, htake⟩
  · omega
  · have hj : i * sz + c < n * sz := by
      have : (i + 1) * sz ≤ n * sz := Nat.mul_le_mul_right _ hi
      rw [Nat.add_mul, Nat.one_mul] at this
      omega
    have hj2 : i * sz + c < cur.size := by
      rw [hcs]; exact Nat.lt_of_lt_of_le hj (Nat.mul_le_mul_right _ hnc)
    simp only [lv, rowVals, Value.ownBlock, hg, ← htake]
    rw [List.getD_eq_getElem?_getD, List.getElem?_take, if_pos hj]
    simp [Array.getD_eq_getD_getElem?]
theorem own_inner {w : World} {S : Nat → Prop} {e : TypeId} {es : Rows} {v : Value} {fp : Nat → Prop} (h : RC Z w S (.row true e es) v fp) :
    ∃ (sz : Nat) (xs : List Value) (fps : Nat → Nat → Nat → Prop), w.ownsRow 0 e sz v es.length xs ∧ (∀ x ∈ es, x.length = sz) ∧ RR Z w S es (rowVals w v (width es)) fps ∧
      (∀ g, v.ownBlock = some g → ¬ S g ∧ ∀ i c, ¬ fps i c g) ∧ fp = (fun k => v.ownBlock = some k ∨ ∃ i c, fps i c k) ∧ Z e = sz := by
  cases h with
  | own sz hz xs fps ho hsz hr hout hd hg =>
    refine ⟨sz, xs, fps, ho, hsz, ⟨fun i c cell hc => ?_, hout, hd⟩, hg, rfl, hz⟩
    obtain ⟨hi, r, hr1, hr2⟩ := cellAt_lt hc
    have hw : width es = sz := width_eq hsz (by omega)
    have hcs : c < sz := by
      have h1 := hsz r (List.mem_of_getElem? hr1)
      have h2 := (List.getElem?_eq_some_iff.1 hr2).1
      omega
    rw [hw, ← lv_rowVals ho hi hcs]
    exact hr i c cell hc
theorem own_block {w : World} {e : TypeId} {sz n : Nat} {v : Value} {xs : List Value} (ho : w.ownsRow 0 e sz v n xs) (hn : 0 < n) : ∃ g cap, v = .slice (some ⟨g, 0, none⟩) n cap ∧ v.ownBlock = some g := by
  rcases ho.2 with ⟨rfl, h0⟩ | ⟨g, cap, cur, rfl, _⟩
  · omega
  · exact ⟨g, cap, rfl, rfl⟩
/-- Rebuilt of its parts. -/
theorem own_outer {w : World} {S : Nat → Prop} {e : TypeId} {es : Rows} {v : Value} {sz : Nat} {xs : List Value} {fps : Nat → Nat → Nat → Prop} (ho : w.ownsRow 0 e sz v es.length xs)
    (hsz : ∀ x ∈ es, x.length = sz) (hrr : RR Z w S es (rowVals w v sz) fps) (hg : ∀ g, v.ownBlock = some g → ¬ S g ∧ ∀ i c, ¬ fps i c g) (hz : Z e = sz) :
    RC Z w S (.row true e es) v (fun k => v.ownBlock = some k ∨ ∃ i c, fps i c k) := by
  refine .own sz hz xs fps ho hsz (fun i c cell hc => ?_) hrr.out hrr.dj hg
  obtain ⟨hi, r, hr1, hr2⟩ := cellAt_lt hc
  have hcs : c < sz := by
    have h1 := hsz r (List.mem_of_getElem? hr1)
    have h2 := (List.getElem?_eq_some_iff.1 hr2).1
    omega
  rw [lv_rowVals ho hi hcs]
  exact hrr.rc i c cell hc
/-- What stands at a place is what its value stands for. -/
theorem focus {w : World} {S : Nat → Prop} : ∀ (p : Path) (es : Rows) (vals : Nat → Nat → Value) (ad : Nat → Nat → Option Addr) (fps : Nat → Nat → Nat → Prop) (cell : Cell),
    RR Z w S es vals fps → look es p = some cell → ∃ fpc, RC Z w S cell (plc w es vals ad p).1 fpc ∧ (∀ ic rest, p = ic :: rest → ∀ k, fpc k → fps ic.1 ic.2 k)
  | [], _, _, _, _, _, _, hl => by simp [look] at hl
  | (i, c) :: [], es, vals, ad, fps, cell, hr, hl => by
    simp only [look] at hl
    exact ⟨fps i c, hr.rc i c cell hl, fun ic rest h k hk => by cases h; exact hk⟩
  | (i, c) :: q :: p, es, vals, ad, fps, cell, hr, hl => by
    obtain ⟨e, es', hc, hl⟩ := look_inv hl
    obtain ⟨sz, xs, fps', ho, hsz, hrr, hg, hfp, hze⟩ := own_inner (hr.rc i c _ hc)
    obtain ⟨fpc, h1, h2⟩ := focus (q :: p) es' (rowVals w (vals i c) (width es')) (rowAd (vals i c) (width es')) fps' cell hrr hl
    refine ⟨fpc, ?_, fun ic rest h k hk => ?_⟩
    · rw [plc_own vals ad q p hc]; exact h1
    · cases h; rw [hfp]; exact .inr ⟨q.1, q.2, h2 q p rfl k hk⟩
/-- An address of a place lies in the root's own block, or in a block that the first cell of its path owns. -/
theorem plc_addr {w : World} {S : Nat → Prop} : ∀ (p : Path) (es : Rows) (vals : Nat → Nat → Value) (ad : Nat → Nat → Option Addr) (fps : Nat → Nat → Nat → Prop) (cell : Cell) (a : Addr),
    RR Z w S es vals fps → look es p = some cell → (plc w es vals ad p).2 = some a → (∃ i c, p = [(i, c)] ∧ ad i c = some a) ∨ (∃ i c q r, p = (i, c) :: q :: r ∧ fps i c a.block)
  | [], _, _, _, _, _, _, _, hl, _ => by simp [look] at hl
  | (i, c) :: [], es, vals, ad, fps, cell, a, hr, hl, ha => .inl ⟨i, c, rfl, by simpa [plc] using ha⟩
  | (i, c) :: q :: p, es, vals, ad, fps, cell, a, hr, hl, ha => by
    right
    refine ⟨i, c, q, p, rfl, ?_⟩
    obtain ⟨e, es', hc, hl⟩ := look_inv hl
    rw [plc_own vals ad q p hc] at ha
    obtain ⟨sz, xs, fps', ho, hsz, hrr, hg, hfp, hze⟩ := own_inner (hr.rc i c _ hc)
    rw [hfp]
    rcases plc_addr (q :: p) es' _ _ fps' cell a hrr hl ha with ⟨i', c', hp, had⟩ | ⟨i', c', q', r', hp, hk⟩
    · left
      simp only [rowAd, Option.map_eq_some_iff] at had
      obtain ⟨g, hg1, rfl⟩ := had
      exact hg1
    · exact .inr ⟨i', c', hk⟩
end Go.Abs

/- One change at a place of a tree of owned rows: what stands then, and what stays as it was. -/
namespace Go.Abs
open Go
set_option linter.unusedVariables false
set_option linter.unusedSimpArgs false
variable {Z : TypeId → Nat}
/-- Memory turns at one cell at most, as far as it is kept. -/
structure Chg (w w' : World) (keep : Nat → Prop) (a : Option Addr) (v' : Value) : Prop where
  same : ∀ k, keep k → (∀ x, a = some x → k ≠ x.block) → w'.heap[k]? = w.heap[k]?
  cell : ∀ x, a = some x → ∀ cur ty, w.heap[x.block]? = some (.cells cur ty (0, 0)) → w'.heap[x.block]? = some (.cells (cur.setIfInBounds x.off v') ty (0, 0))
def upd (vals : Nat → Nat → Value) (p : Path) (v' : Value) (i c : Nat) : Value := if p = [(i, c)] then v' else vals i c
theorem RR.congr {w S es vals vals' fps} (h : RR Z w S es vals fps) (hv : ∀ i c cell, cellAt es i c = some cell → vals' i c = vals i c) : RR Z w S es vals' fps :=
  ⟨fun i c cell hc => by rw [hv i c cell hc]; exact h.rc i c cell hc, h.out, h.dj⟩
theorem idx_inj {sz i c i' c' : Nat} (hc : c < sz) (hc' : c' < sz) (h : i * sz + c = i' * sz + c') : i = i' ∧ c = c' := by
  have h1 : (i * sz + c) / sz = i := by rw [Nat.mul_comm, Nat.mul_add_div (by omega), Nat.div_eq_of_lt hc, Nat.add_zero]
  have h2 : (i' * sz + c') / sz = i' := by rw [Nat.mul_comm, Nat.mul_add_div (by omega), Nat.div_eq_of_lt hc', Nat.add_zero]
  have h3 : i = i' := by rw [← h1, ← h2, h]
  subst h3
  exact ⟨rfl, by omega⟩
theorem cellAt_col {es : Rows} {sz i c : Nat} {cell : Cell} (hsz : ∀ x ∈ es, x.length = sz) (h : cellAt es i c = some cell) : i < es.length ∧ c < sz := by
  obtain ⟨hi, r, hr1, hr2⟩ := cellAt_lt h
  refine ⟨hi, ?_⟩
  have h1 := hsz r (List.mem_of_getElem? hr1)
  have h2 := (List.getElem?_eq_some_iff.1 hr2).1
  omega
/-- A row of which one cell turns. -/
theorem owns_set {w w' : World} {e : TypeId} {sz n g : Nat} {v v' : Value} {xs : List Value} (ho : w.ownsRow 0 e sz v n xs) (hg : v.ownBlock = some g) (j : Nat)
    (hc : ∀ cur ty, w.heap[g]? = some (.cells cur ty (0, 0)) → w'.heap[g]? = some (.cells (cur.setIfInBounds j v') ty (0, 0))) : w'.ownsRow 0 e sz v n (xs.set j v') := by
  refine ⟨by simpa using ho.1, ?_⟩
  rcases ho.2 with ⟨rfl, _⟩ | ⟨g', cap, cur, rfl, hb, hgg, hnc, hcm, hcs, htake⟩
  · simp [Value.ownBlock] at hg
  · simp only [Value.ownBlock, Option.some.injEq] at hg
    subst hg
    refine .inr ⟨g', cap, _, rfl, hb, hc cur e hgg, hnc, hcm, by simpa using hcs, ?_⟩
    rw [Array.toList_setIfInBounds, ← htake, List.take_set]
theorem rowVals_set {w w' : World} {e : TypeId} {sz n g : Nat} {v v' : Value} {xs : List Value} (ho : w.ownsRow 0 e sz v n xs) (hg : v.ownBlock = some g) (i c : Nat) (hi : i < n) (hcs : c < sz)
    (hc : ∀ cur ty, w.heap[g]? = some (.cells cur ty (0, 0)) → w'.heap[g]? = some (.cells (cur.setIfInBounds (i * sz + c) v') ty (0, 0))) (i' c' : Nat) (hc' : c' < sz) :
    rowVals w' v sz i' c' = if i' = i ∧ c' = c then v' else rowVals w v sz i' c' := by
  rcases ho.2 with ⟨rfl, _⟩ | ⟨g', cap, cur, rfl, hb, hgg, hnc, hcm, hsz, htake⟩
  · simp [Value.ownBlock] at hg
  · simp only [Value.ownBlock, Option.some.injEq] at hg
    subst hg
    have hw := hc cur e hgg
    simp only [rowVals, Value.ownBlock, hw, hgg, Array.getD_eq_getD_getElem?, Array.getElem?_setIfInBounds]
    have hlt : i * sz + c < cur.size := by
      rw [hsz]
      have h1 : (i + 1) * sz ≤ cap * sz := Nat.mul_le_mul_right _ (by omega)
      rw [Nat.add_mul, Nat.one_mul] at h1
      omega
    by_cases h : i' = i ∧ c' = c
    · obtain ⟨rfl, rfl⟩ := h
      simp [hlt]
    · rw [if_neg h, if_neg (fun e => h ((idx_inj hcs hc' e).imp Eq.symm Eq.symm))]
theorem rowVals_same {w w' : World} {v : Value} (h : ∀ g, v.ownBlock = some g → w'.heap[g]? = w.heap[g]?) (sz : Nat) : rowVals w' v sz = rowVals w v sz := by
  funext i c
  unfold rowVals
  cases hv : v.ownBlock with
  | none => rfl
  | some g => simp only [h g hv]
/-- Memory that turns elsewhere leaves a place's value and address. -/
theorem plc_frame {w w' : World} {S : Nat → Prop} : ∀ (p : Path) (es : Rows) (vals : Nat → Nat → Value) (ad : Nat → Nat → Option Addr) (fps : Nat → Nat → Nat → Prop) (cell : Cell),
    RR Z w S es vals fps → look es p = some cell → (∀ ic rest, p = ic :: rest → ∀ k, fps ic.1 ic.2 k → w'.heap[k]? = w.heap[k]?) → plc w' es vals ad p = plc w es vals ad p
  | [], _, _, _, _, _, _, hl, _ => by simp [look] at hl
  | (i, c) :: [], es, vals, ad, fps, cell, hr, hl, _ => rfl
  | (i, c) :: q :: p, es, vals, ad, fps, cell, hr, hl, hk => by
    obtain ⟨e, es', hc, hl⟩ := look_inv hl
    rw [plc_own vals ad q p hc, plc_own vals ad q p hc]
    obtain ⟨sz, xs, fps', ho, hsz, hrr, hg, hfp, hze⟩ := own_inner (hr.rc i c _ hc)
    have hk' : ∀ k, fps i c k → w'.heap[k]? = w.heap[k]? := hk (i, c) (q :: p) rfl
    rw [rowVals_same (w := w) (w' := w') (fun g hgg => hk' g (by rw [hfp]; exact .inl hgg))]
    exact plc_frame (q :: p) es' _ _ fps' cell hrr hl fun ic rest h k hkk => hk' k (by rw [hfp]; exact .inr ⟨ic.1, ic.2, hkk⟩)
theorem plc_congr (w : World) (es : Rows) (vals vals' : Nat → Nat → Value) (ad : Nat → Nat → Option Addr) (p : Path) (h : ∀ i c rest, p = (i, c) :: rest → vals' i c = vals i c) : plc w es vals' ad p = plc w es vals ad p := by
  cases p with
  | nil => rfl
  | cons ic p =>
    obtain ⟨i, c⟩ := ic
    cases p with
    | nil => simp only [plc, h i c [] rfl]
    | cons q p => simp only [plc, h i c (q :: p) rfl]
/-- One path goes on behind another one. -/
def PP (p q : Path) : Prop := ∃ x r, q = p ++ x :: r
theorem plc_head (w : World) {es1 es2 : Rows} {vals1 vals2 : Nat → Nat → Value} (ad : Nat → Nat → Option Addr) {i c : Nat} (r : Path) (hc : cellAt es1 i c = cellAt es2 i c) (hv : vals1 i c = vals2 i c) :
    plc w es1 vals1 ad ((i, c) :: r) = plc w es2 vals2 ad ((i, c) :: r) := by
  cases r with
  | nil => simp only [plc_one, hv]
  | cons q r => rw [plc, plc]; simp only [hc, hv]
theorem look_setc_head {es : Rows} {p : Path} {x : Cell} {i c : Nat} {cell : Cell} (hl : look es p = some cell) (h : ∀ r, p ≠ (i, c) :: r) : cellAt (setc es p x) i c = cellAt es i c := by
  cases p with
  | nil => simp [look] at hl
  | cons ic r =>
    obtain ⟨i', c'⟩ := ic
    have hne : ¬ (i = i' ∧ c = c') := fun e => h r (by rw [e.1, e.2])
    cases r with
    | nil => rw [look_one] at hl; rw [setc_one, cellAt_put hl, if_neg hne]
    | cons q r =>
      obtain ⟨e, es', hc, _⟩ := look_inv hl
      rw [setc_own q r x hc, cellAt_put hc, if_neg hne]
/-- What stands at another place behind a change. -/
theorem look_setc : ∀ (p q : Path) (es : Rows) (x cp cq : Cell), look es p = some cp → look es q = some cq → ¬ PP p q →
    (q = p ∧ look (setc es p x) q = some x) ∨ (q ≠ p ∧ ¬ PP q p ∧ look (setc es p x) q = some cq) ∨ (∃ e es1 y r, p = q ++ y :: r ∧ cq = .row true e es1 ∧ look es1 (y :: r) = some cp ∧ look (setc es p x) q = some (.row true e (setc es1 (y :: r) x)))
  | [], _, _, _, _, _, hp, _, _ => by simp [look] at hp
  | _, [], _, _, _, _, _, hq, _ => by simp [look] at hq
  | (i, c) :: p, (i', c') :: q, es, x, cp, cq, hp, hq, hn => by
    by_cases hic : i' = i ∧ c' = c
    · obtain ⟨rfl, rfl⟩ := hic
      cases p with
      | nil =>
        cases q with
        | nil =>
          rw [look_one] at hp hq
          left
          refine ⟨rfl, ?_⟩
          rw [setc_one, look_one, cellAt_put hp, if_pos ⟨rfl, rfl⟩]
        | cons y r => exact absurd ⟨y, r, rfl⟩ hn
      | cons p0 pr =>
        obtain ⟨e, es', hc, hl⟩ := look_inv hp
        cases q with
        | nil =>
          rw [look_one] at hq
          rw [hc] at hq
          cases hq
          right; right
          refine ⟨e, es', p0, pr, rfl, rfl, hl, ?_⟩
          rw [setc_own p0 pr x hc, look_one, cellAt_put hc, if_pos ⟨rfl, rfl⟩]
        | cons q0 qr =>
          rw [look_own q0 qr hc] at hq
          have hnew : cellAt (setc es ((i', c') :: p0 :: pr) x) i' c' = some (.row true e (setc es' (p0 :: pr) x)) := by rw [setc_own p0 pr x hc, cellAt_put hc, if_pos ⟨rfl, rfl⟩]
          rcases look_setc (p0 :: pr) (q0 :: qr) es' x cp cq hl hq (fun ⟨y, r, h⟩ => hn ⟨y, r, by rw [h]; rfl⟩) with ⟨h1, h2⟩ | ⟨h1, h3, h2⟩ | ⟨e2, es1, y, r, h1, h2, h3, h4⟩
          · left; exact ⟨by rw [h1], by rw [look_own q0 qr hnew]; exact h2⟩
          · right; left
            refine ⟨fun h => h1 (List.cons.inj h).2, fun ⟨y, r, h⟩ => h3 ⟨y, r, (List.cons.inj h).2⟩, by rw [look_own q0 qr hnew]; exact h2⟩
          · right; right; exact ⟨e2, es1, y, r, by rw [h1]; rfl, h2, h3, by rw [look_own q0 qr hnew]; exact h4⟩
    · right; left
      have hh : cellAt (setc es ((i, c) :: p) x) i' c' = cellAt es i' c' := look_setc_head hp fun r h => hic (by cases h; exact ⟨rfl, rfl⟩)
      refine ⟨fun h => hic (by cases h; exact ⟨rfl, rfl⟩), fun ⟨y, r, h⟩ => hic (by cases h; exact ⟨rfl, rfl⟩), ?_⟩
      rw [← hq]
      cases q with
      | nil => exact hh
      | cons q0 qr => rw [look, look]; simp only [hh]
/-- What is asked of a change at a place: its footprint goes, another one comes. -/
structure Fits (Z : TypeId → Nat) (w w' : World) (S S' : Nat → Prop) (fps : Nat → Nat → Nat → Prop) (fpc fpc' : Nat → Prop) (a : Option Addr) (cell' : Cell) (v' : Value) : Prop where
  chg : Chg w w' (fun k => S k ∨ ∃ i c, fps i c k ∧ ¬ fpc k) a v'
  rc : RC Z w' S' cell' v' fpc'
  SS : ∀ k, S k → S' k
  nS : ∀ k i c, fps i c k → ¬ fpc k → ¬ S' k
  dj : ∀ k i c, fpc' k → fps i c k → fpc k
/-- THE CHANGE. -/
theorem change {w : World} {S : Nat → Prop} : ∀ (p : Path) (es : Rows) (vals : Nat → Nat → Value) (ad : Nat → Nat → Option Addr) (fps : Nat → Nat → Nat → Prop) (cell : Cell),
    RR Z w S es vals fps → look es p = some cell → (∀ i c x, ad i c = some x → ¬ S x.block ∧ ∀ i' c', ¬ fps i' c' x.block) →
    ∃ fpc, RC Z w S cell (plc w es vals ad p).1 fpc ∧ (∀ ic rest, p = ic :: rest → ∀ k, fpc k → fps ic.1 ic.2 k) ∧
      ∀ w' S' cell' v' fpc', Fits Z w w' S S' fps fpc fpc' (plc w es vals ad p).2 cell' v' →
        ∃ fps', RR Z w' S' (setc es p cell') (upd vals p v') fps' ∧ (∀ i c k, fps' i c k → (fps i c k ∧ ¬ fpc k) ∨ (fpc' k ∧ ∃ rest, p = (i, c) :: rest)) ∧
          (∀ q cq, look es q = some cq → ¬ PP p q → (plc w' (setc es p cell') (upd vals p v') ad q).2 = (plc w es vals ad q).2 ∧ (q ≠ p → (plc w' (setc es p cell') (upd vals p v') ad q).1 = (plc w es vals ad q).1))
  | [], _, _, _, _, _, _, hl, _ => by simp [look] at hl
  | (i, c) :: [], es, vals, ad, fps, cell, hr, hl, had => by
    simp only [look] at hl
    refine ⟨fps i c, hr.rc i c cell hl, fun ic rest h k hk => by cases h; exact hk, fun w' S' cell' v' fpc' F => ?_⟩
    simp only [plc] at F
    refine ⟨fun i' c' k => if i' = i ∧ c' = c then fpc' k else fps i' c' k, ⟨fun i' c' cl hc => ?_, fun i' c' hc k => ?_, fun i1 c1 i2 c2 k h1 h2 => ?_⟩, fun i' c' k h => ?_, fun q cq hq hpp => ?_⟩
    · simp only [setc] at hc
      rw [cellAt_put hl] at hc
      by_cases h : i' = i ∧ c' = c
      · rw [if_pos h] at hc
        obtain ⟨rfl, rfl⟩ := h
        cases hc
        simp only [upd, and_self, if_true]
        exact F.rc
      · rw [if_neg h] at hc
        have hne : ¬ (((i, c) :: [] : Path) = [(i', c')]) := fun e => h (by cases e; exact ⟨rfl, rfl⟩)
        simp only [upd, if_neg hne, if_neg h]
        have hnf : ∀ k, fps i' c' k → ¬ fps i c k := fun k h1 h2 => h (hr.dj _ _ _ _ k h1 h2)
        refine (hr.rc i' c' cl hc).frame (fun k hk => F.chg.same k (.inl hk) fun x hx e => ?_) (fun k hk => F.chg.same k (.inr ⟨i', c', hk, hnf k hk⟩) fun x hx e => ?_) F.SS fun k hk => F.nS k i' c' hk (hnf k hk)
        · exact (had i c x hx).1 (e ▸ hk)
        · exact (had i c x hx).2 i' c' (e ▸ hk)
    · simp only [setc] at hc
      rw [cellAt_put hl] at hc
      by_cases h : i' = i ∧ c' = c
      · rw [if_pos h] at hc; cases hc
      · rw [if_neg h] at hc
        rw [if_neg h]
        exact hr.out i' c' hc k
    · by_cases e1 : i1 = i ∧ c1 = c
      · by_cases e2 : i2 = i ∧ c2 = c
        · exact ⟨e1.1.trans e2.1.symm, e1.2.trans e2.2.symm⟩
        · rw [if_pos e1] at h1
          rw [if_neg e2] at h2
          exact absurd (hr.dj _ _ _ _ k h2 (F.dj k i2 c2 h1 h2)) e2
      · by_cases e2 : i2 = i ∧ c2 = c
        · rw [if_neg e1] at h1
          rw [if_pos e2] at h2
          exact absurd (hr.dj _ _ _ _ k h1 (F.dj k i1 c1 h2 h1)) e1
        · rw [if_neg e1] at h1
          rw [if_neg e2] at h2
          exact hr.dj _ _ _ _ k h1 h2
    · by_cases e : i' = i ∧ c' = c
      · simp only [if_pos e] at h
        exact .inr ⟨h, [], by obtain ⟨rfl, rfl⟩ := e; rfl⟩
      · simp only [if_neg e] at h
        exact .inl ⟨h, fun h2 => e (hr.dj _ _ _ _ k h h2)⟩
    · cases q with
      | nil => simp [look] at hq
      | cons ic' r =>
        obtain ⟨i', c'⟩ := ic'
        by_cases h : i' = i ∧ c' = c
        · obtain ⟨rfl, rfl⟩ := h
          cases r with
          | nil => exact ⟨rfl, fun hne => absurd rfl hne⟩
          | cons y r => exact absurd ⟨y, r, rfl⟩ hpp
        · have h1 : plc w' (setc es [(i, c)] cell') (upd vals [(i, c)] v') ad ((i', c') :: r) = plc w' es vals ad ((i', c') :: r) :=
            plc_head w' ad r (look_setc_head (es := es) (cell := cell) (by rw [look_one]; exact hl) fun r h2 => h (by cases h2; exact ⟨rfl, rfl⟩)) (by unfold upd; rw [if_neg (fun e => h (by cases e; exact ⟨rfl, rfl⟩))])
          have h2 : plc w' es vals ad ((i', c') :: r) = plc w es vals ad ((i', c') :: r) := plc_frame _ es vals ad fps cq hr hq fun ic rest he k hk => by
            cases he
            have hnf : ¬ fps i c k := fun h3 => h (hr.dj _ _ _ _ k hk h3)
            exact F.chg.same k (.inr ⟨i', c', hk, hnf⟩) fun x hx e => (had i c x hx).2 i' c' (e ▸ hk)
          rw [h1, h2]
          exact ⟨rfl, fun _ => rfl⟩
  | (i, c) :: q :: p, es, vals, ad, fps, cell, hr, hl, had => by
    obtain ⟨e, es', hc0, hin⟩ := look_inv hl
    obtain ⟨sz, xs, fps', ho, hsz, hrr, hg, hfp, hze⟩ := own_inner (hr.rc i c _ hc0)
    have had' : ∀ i' c' x, rowAd (vals i c) (width es') i' c' = some x → ¬ S x.block ∧ ∀ i2 c2, ¬ fps' i2 c2 x.block := by
      intro i' c' x hx
      simp only [rowAd, Option.map_eq_some_iff] at hx
      obtain ⟨g, hg1, rfl⟩ := hx
      exact hg g hg1
    obtain ⟨fpc, h1, h2, h3⟩ := change (q :: p) es' (rowVals w (vals i c) (width es')) (rowAd (vals i c) (width es')) fps' cell hrr hin had'
    have hsub : ∀ k, fpc k → fps i c k := fun k hk => by rw [hfp]; exact .inr ⟨q.1, q.2, h2 q p rfl k hk⟩
    refine ⟨fpc, by rw [plc_own vals ad q p hc0]; exact h1, fun ic rest h k hk => by cases h; exact hsub k hk, fun w' S' cell' v' fpc' F => ?_⟩
    rw [plc_own vals ad q p hc0] at F
    -- the inner change
    have hinner : ∀ i2 c2 k, fps' i2 c2 k → fps i c k := fun i2 c2 k hk => by rw [hfp]; exact .inr ⟨i2, c2, hk⟩
    have F' : Fits Z w w' S S' fps' fpc fpc' (plc w es' (rowVals w (vals i c) (width es')) (rowAd (vals i c) (width es')) (q :: p)).2 cell' v' :=
      ⟨⟨fun k hk hx => F.chg.same k (hk.imp id fun ⟨i2, c2, ha, hb⟩ => ⟨i, c, hinner i2 c2 k ha, hb⟩) hx, F.chg.cell⟩, F.rc, F.SS, fun k i2 c2 ha hb => F.nS k i c (hinner i2 c2 k ha) hb, fun k i2 c2 ha hb => F.dj k i c ha (hinner i2 c2 k hb)⟩
    obtain ⟨fps2, hrr2, hsub2, hoth⟩ := h3 w' S' cell' v' fpc' F'
    -- the outer row
    have hpos : 0 < es'.length := by
      obtain ⟨i', c'⟩ := q
      cases p with
      | nil => rw [look_one] at hin; have := (cellAt_lt hin).1; omega
      | cons q2 p2 =>
        obtain ⟨_, _, hq, _⟩ := look_inv hin
        have := (cellAt_lt hq).1; omega
    obtain ⟨g, cap, hv, hgb⟩ := own_block ho hpos
    have hw : width es' = sz := width_eq hsz hpos
    have hgS := hg g hgb
    have hgc : ¬ fpc g := fun hk => hgS.2 q.1 q.2 (h2 q p rfl g hk)
    have hgf : fps i c g := by rw [hfp]; exact .inl hgb
    have hlen : (setc es' (q :: p) cell').length = es'.length := setc_len _ _ _
    -- its memory
    have hmem : (∃ xs', w'.ownsRow 0 e sz (vals i c) es'.length xs') ∧ ∀ i2 c2 cl2, cellAt (setc es' (q :: p) cell') i2 c2 = some cl2 → rowVals w' (vals i c) sz i2 c2 = upd (rowVals w (vals i c) (width es')) (q :: p) v' i2 c2 := by
      rw [hw] at F ⊢
      obtain ⟨i', c'⟩ := q
      cases p with
      | nil =>
        rw [look_one] at hin
        obtain ⟨hi', hc'⟩ := cellAt_col hsz hin
        have hj : i' * sz + c' < es'.length * sz := by
          have h1 : (i' + 1) * sz ≤ es'.length * sz := Nat.mul_le_mul_right _ hi'
          rw [Nat.add_mul, Nat.one_mul] at h1
          omega
        have hch : ∀ cur ty, w.heap[g]? = some (.cells cur ty (0, 0)) → w'.heap[g]? = some (.cells (cur.setIfInBounds (i' * sz + c') v') ty (0, 0)) := by
          intro cur ty hh
          exact F.chg.cell ⟨g, i' * sz + c', none⟩ (by simp only [plc_one, rowAd, hgb, Option.map_some]) cur ty hh
        refine ⟨⟨_, owns_set ho hgb _ hch⟩, fun i2 c2 cl2 hcl => ?_⟩
        obtain ⟨_, hc2⟩ := cellAt_col (setc_rows hsz) hcl
        rw [rowVals_set ho hgb i' c' hi' hc' hch i2 c2 hc2]
        unfold upd
        by_cases h : i2 = i' ∧ c2 = c'
        · rw [if_pos h, if_pos (by obtain ⟨rfl, rfl⟩ := h; rfl)]
        · rw [if_neg h, if_neg (fun e => h (by cases e; exact ⟨rfl, rfl⟩))]
      | cons q2 p2 =>
        have hsame : w'.heap[g]? = w.heap[g]? := by
          refine F.chg.same g (.inr ⟨i, c, hgf, hgc⟩) fun x hx hgx => ?_
          rw [← hw] at hx
          rcases plc_addr _ es' _ _ fps' cell x hrr hin hx with ⟨_, _, hp, _⟩ | ⟨i4, c4, _, _, hp, hk⟩
          · cases hp
          · exact hgS.2 i4 c4 (hgx ▸ hk)
        refine ⟨⟨xs, owns_frame ho fun k hk => ?_⟩, fun i2 c2 cl2 hcl => ?_⟩
        · rw [hgb] at hk; cases hk; exact hsame
        · rw [rowVals_same (w := w) (w' := w') (fun k hk => by rw [hgb] at hk; cases hk; exact hsame)]
          unfold upd
          rw [if_neg (by simp)]
    obtain ⟨⟨xs', ho'⟩, hvals⟩ := hmem
    have hgS' : ¬ S' g := F.nS g i c hgf hgc
    have hrc' : RC Z w' S' (.row true e (setc es' (q :: p) cell')) (vals i c) (fun k => (vals i c).ownBlock = some k ∨ ∃ i c, fps2 i c k) := by
      refine own_outer (sz := sz) (by rw [hlen]; exact ho') (setc_rows hsz) (hrr2.congr hvals) (fun g2 hg2 => ?_) hze
      rw [hgb] at hg2
      cases hg2
      refine ⟨hgS', fun i2 c2 hk => ?_⟩
      rcases hsub2 i2 c2 g hk with ⟨ha, _⟩ | ⟨ha, _⟩
      · exact hgS.2 i2 c2 ha
      · exact hgc (F.dj g i c ha hgf)
    -- the whole
    have hnew : ∀ k, ((vals i c).ownBlock = some k ∨ ∃ i c, fps2 i c k) → (fps i c k ∧ ¬ fpc k) ∨ fpc' k := by
      rintro k (hk | ⟨i2, c2, hk⟩)
      · rw [hgb] at hk; cases hk; exact .inl ⟨hgf, hgc⟩
      · rcases hsub2 i2 c2 k hk with ⟨ha, hb⟩ | ⟨ha, _⟩
        · exact .inl ⟨hinner i2 c2 k ha, hb⟩
        · exact .inr ha
    refine ⟨fun i' c' k => if i' = i ∧ c' = c then ((vals i c).ownBlock = some k ∨ ∃ i c, fps2 i c k) else fps i' c' k, ⟨fun i' c' cl hc => ?_, fun i' c' hc k => ?_, fun i1 c1 i2 c2 k h1 h2 => ?_⟩, fun i' c' k h => ?_, fun q2 cq hq hpp => ?_⟩
    · rw [setc_own q p cell' hc0] at hc
      rw [cellAt_put hc0] at hc
      have hu : upd vals ((i, c) :: q :: p) v' i' c' = vals i' c' := by unfold upd; rw [if_neg (by simp)]
      rw [hu]
      by_cases h : i' = i ∧ c' = c
      · rw [if_pos h] at hc
        obtain ⟨rfl, rfl⟩ := h
        cases hc
        simp only [and_self, if_true]
        exact hrc'
      · rw [if_neg h] at hc
        simp only [if_neg h]
        have hnf : ∀ k, fps i' c' k → ¬ fps i c k := fun k h1 h2 => h (hr.dj _ _ _ _ k h1 h2)
        have hblk : ∀ x, (plc w es' (rowVals w (vals i c) (width es')) (rowAd (vals i c) (width es')) (q :: p)).2 = some x → fps i c x.block := by
          intro x hx
          rcases plc_addr _ es' _ _ fps' cell x hrr hin hx with ⟨i4, c4, hp, hx4⟩ | ⟨i4, c4, _, _, hp, hk⟩
          · simp only [rowAd, hgb, Option.map_some, Option.some.injEq] at hx4
            subst hx4; exact hgf
          · exact hinner i4 c4 _ hk
        refine (hr.rc i' c' cl hc).frame (fun k hk => F.chg.same k (.inl hk) fun x hx e => ?_) (fun k hk => F.chg.same k (.inr ⟨i', c', hk, fun hf => hnf k hk (hsub k hf)⟩) fun x hx e => ?_) F.SS fun k hk => F.nS k i' c' hk fun hf => hnf k hk (hsub k hf)
        · exact hr.notS (hblk x hx) (e ▸ hk)
        · exact hnf k hk (e ▸ hblk x hx)
    · rw [setc_own q p cell' hc0] at hc
      rw [cellAt_put hc0] at hc
      by_cases h : i' = i ∧ c' = c
      · rw [if_pos h] at hc; cases hc
      · rw [if_neg h] at hc
        rw [if_neg h]
        exact hr.out i' c' hc k
    · by_cases e1 : i1 = i ∧ c1 = c
      · by_cases e2 : i2 = i ∧ c2 = c
        · exact ⟨e1.1.trans e2.1.symm, e1.2.trans e2.2.symm⟩
        · rw [if_pos e1] at h1
          rw [if_neg e2] at h2
          rcases hnew k h1 with ⟨ha, _⟩ | ha
          · exact absurd (hr.dj _ _ _ _ k h2 ha) e2
          · exact absurd (hr.dj _ _ _ _ k h2 (hsub k (F.dj k i2 c2 ha h2))) e2
      · by_cases e2 : i2 = i ∧ c2 = c
        · rw [if_neg e1] at h1
          rw [if_pos e2] at h2
          rcases hnew k h2 with ⟨ha, _⟩ | ha
          · exact absurd (hr.dj _ _ _ _ k h1 ha) e1
          · exact absurd (hr.dj _ _ _ _ k h1 (hsub k (F.dj k i1 c1 ha h1))) e1
        · rw [if_neg e1] at h1
          rw [if_neg e2] at h2
          exact hr.dj _ _ _ _ k h1 h2
    · by_cases e : i' = i ∧ c' = c
      · simp only [if_pos e] at h
        obtain ⟨rfl, rfl⟩ := e
        exact (hnew k h).imp id fun hf => ⟨hf, _, rfl⟩
      · simp only [if_neg e] at h
        exact .inl ⟨h, fun h2 => e (hr.dj _ _ _ _ k h (hsub k h2))⟩
    · cases q2 with
      | nil => simp [look] at hq
      | cons ic' r =>
        obtain ⟨i', c'⟩ := ic'
        have hu : ∀ i' c', upd vals ((i, c) :: q :: p) v' i' c' = vals i' c' := fun i' c' => by unfold upd; rw [if_neg (by simp)]
        by_cases h : i' = i ∧ c' = c
        · obtain ⟨rfl, rfl⟩ := h
          cases r with
          | nil => rw [plc_one, plc_one, hu]; exact ⟨rfl, fun _ => rfl⟩
          | cons q1 r =>
            rw [look_own q1 r hc0] at hq
            have hcn : cellAt (setc es ((i', c') :: q :: p) cell') i' c' = some (.row true e (setc es' (q :: p) cell')) := by rw [setc_own q p cell' hc0, cellAt_put hc0, if_pos ⟨rfl, rfl⟩]
            have hpp' : ¬ PP (q :: p) (q1 :: r) := fun ⟨y, s, he⟩ => hpp ⟨y, s, by rw [he]; rfl⟩
            obtain ⟨ho1, ho2⟩ := hoth (q1 :: r) cq hq hpp'
            rw [plc_own _ _ q1 r hcn, plc_own _ _ q1 r hc0, hu, setc_width]
            have hcg : plc w' (setc es' (q :: p) cell') (rowVals w' (vals i' c') (width es')) (rowAd (vals i' c') (width es')) (q1 :: r) = plc w' (setc es' (q :: p) cell') (upd (rowVals w (vals i' c') (width es')) (q :: p) v') (rowAd (vals i' c') (width es')) (q1 :: r) := by
              refine plc_congr _ _ _ _ _ _ fun i2 c2 rest he => ?_
              rw [hw]
              have hex : ∃ cl2, cellAt (setc es' (q :: p) cell') i2 c2 = some cl2 := by
                have hlk : ∃ z, look (setc es' (q :: p) cell') (q1 :: r) = some z := by
                  rcases look_setc (q :: p) (q1 :: r) es' cell' cell cq hin hq hpp' with ⟨_, h2⟩ | ⟨_, _, h2⟩ | ⟨_, _, _, _, _, _, _, h2⟩ <;> exact ⟨_, h2⟩
                obtain ⟨z, hz⟩ := hlk
                cases he
                cases r with
                | nil => exact ⟨z, hz⟩
                | cons y s => obtain ⟨_, _, hh, _⟩ := look_inv hz; exact ⟨_, hh⟩
              obtain ⟨cl2, hcl2⟩ := hex
              rw [hvals i2 c2 cl2 hcl2, hw]
            rw [hcg]
            exact ⟨ho1, fun hne => ho2 fun he => hne (by rw [he])⟩
        · have h1 : plc w' (setc es ((i, c) :: q :: p) cell') (upd vals ((i, c) :: q :: p) v') ad ((i', c') :: r) = plc w' es vals ad ((i', c') :: r) :=
            plc_head w' ad r (look_setc_head (es := es) (cell := cell) hl fun r h2 => h (by cases h2; exact ⟨rfl, rfl⟩)) (hu i' c')
          have h2 : plc w' es vals ad ((i', c') :: r) = plc w es vals ad ((i', c') :: r) := plc_frame _ es vals ad fps cq hr hq fun ic rest he k hk => by
            cases he
            have hnf : ¬ fps i c k := fun h3 => h (hr.dj _ _ _ _ k hk h3)
            refine F.chg.same k (.inr ⟨i', c', hk, fun hf => hnf (hsub k hf)⟩) fun x hx e => ?_
            have hblk : fps i c x.block := by
              rcases plc_addr _ es' _ _ fps' cell x hrr hin hx with ⟨i4, c4, hp, hx4⟩ | ⟨i4, c4, _, _, hp, hk⟩
              · simp only [rowAd, hgb, Option.map_some, Option.some.injEq] at hx4
                subst hx4; exact hgf
              · exact hinner i4 c4 _ hk
            exact hnf (e ▸ hblk)
          rw [h1, h2]
          exact ⟨rfl, fun _ => rfl⟩
end Go.Abs

/- Abstract states of a frame: what its slots hold, its roots of memory; and the moves that keep such a state true. -/
namespace Go.Abs
open Go
set_option linter.unusedVariables false
set_option linter.unusedSimpArgs false
variable {Z : TypeId → Nat}
inductive AV where
  | c (c : Cell)
  | nils
  | ptr (p : Path)
  | sptr (cells : List Cell) (off : Nat)
  | bor (p : Path) (lo len : Nat)
  | agg (xs : List AV)
  | tup (xs : List AV)
  | fn (f : FuncId) (first caps : List AV)
  | nb (cells : List Cell)   -- a pointer to a new block: in a call's result alone
  | dead
structure St where
  nt : Nat
  sl : List (Nat × AV)
  rt : Rows
  bx : List Bool
def getA : List (Nat × AV) → Nat → AV
  | [], _ => .dead
  | (k, v) :: r, t => if k = t then v else getA r t
def adr (bx : List Bool) (cb : Nat → Nat) (r c : Nat) : Option Addr := if bx.getD r false then some ⟨cb r, c, none⟩ else none
def cols : Path → Path → Bool
  | [], _ => true
  | _ :: _, [] => false
  | (_, c) :: p, (_, c') :: q => c == c' && cols p q
def clash : Path → Path → Bool
  | (r, c) :: p, (r', c') :: q => r == r' && c == c' && cols p q
  | _, _ => false
theorem cols_append : ∀ (p q : Path), cols p (p ++ q) = true
  | [], _ => rfl
  | (_, _) :: p, q => by simp [cols, cols_append p q]
theorem clash_pp {p q : Path} (hp : p ≠ []) (h : PP p q) : clash p q = true := by
  obtain ⟨x, r, rfl⟩ := h
  cases p with
  | nil => exact absurd rfl hp
  | cons ic p => obtain ⟨i, c⟩ := ic; simp [clash, cols_append]
theorem clash_self {p : Path} (hp : p ≠ []) : clash p p = true := by
  cases p with
  | nil => exact absurd rfl hp
  | cons ic p => obtain ⟨i, c⟩ := ic; have := cols_append p []; simp at this; simp [clash, this]
mutual
def kill (p : Path) : AV → AV
  | .ptr q => if clash p q && decide (p.length < q.length) then .dead else .ptr q
  | .bor q lo len => if clash p q then .dead else .bor q lo len
  | .agg xs => .agg (killL p xs)
  | .tup xs => .tup (killL p xs)
  | .fn f a b => .fn f (killL p a) (killL p b)
  | .c c => .c c
  | .nils => .nils
  | .sptr cs o => .sptr cs o
  | .nb cs => .nb cs
  | .dead => .dead
def killL (p : Path) : List AV → List AV
  | [] => []
  | x :: r => kill p x :: killL p r
end
theorem killL_eq (p : Path) : ∀ l, killL p l = l.map (kill p)
  | [] => rfl
  | x :: r => by simp [killL, killL_eq p r]
def killS (p : Path) (sl : List (Nat × AV)) : List (Nat × AV) := sl.map fun x => (x.1, kill p x.2)
theorem getA_kill (p : Path) (t : Nat) : ∀ sl, getA (killS p sl) t = kill p (getA sl t)
  | [] => rfl
  | (k, v) :: r => by
    have ih := getA_kill p t r
    simp only [killS, List.map_cons, getA] at ih ⊢
    split
    · rfl
    · exact ih
/-- A header of a part of an owned row. -/
def subH (sz : Nat) (val : Value) (lo len : Nat) (v : Value) : Prop :=
  (val = .slice none 0 0 ∧ v = .slice none 0 0 ∧ lo = 0 ∧ len = 0) ∨
  ∃ g n cap, val = .slice (some ⟨g, 0, none⟩) n cap ∧ lo + len ≤ n ∧ ((lo = 0 ∧ v = .slice (some ⟨g, 0, none⟩) len cap) ∨
    (0 < lo ∧ ∃ off cap', v = .slice (some ⟨g, off, none⟩) len cap' ∧ len ≤ cap' ∧ cap' ≤ cap ∧ (len = 0 ∨ off = lo * sz)))
inductive RA (Z : TypeId → Nat) (w : World) (S : Nat → Prop) (es : Rows) (vals : Nat → Nat → Value) (ad : Nat → Nat → Option Addr) : AV → Value → Prop
  | c {c v} (h : RC Z w S c v (fun _ => False)) : RA Z w S es vals ad (.c c) v
  | nils : RA Z w S es vals ad .nils (.slice none 0 0)
  | ptr {p cell a} (hl : look es p = some cell) (h : (plc w es vals ad p).2 = some a) : RA Z w S es vals ad (.ptr p) (.pointer (some a))
  | sptr {cells : List Cell} {off b o : Nat} {cur : Array Value} {ty : TypeId} {fz : Nat × Nat} (hS : S b) (hb : w.heap[b]? = some (.cells cur ty fz))
      (hr : ∀ (j : Nat) cell, cells[j]? = some cell → ∃ v, cur[o + j]? = some v ∧ RC Z w S cell v (fun _ => False)) (ho : off < cells.length) : RA Z w S es vals ad (.sptr cells off) (.pointer (some ⟨b, o + off, none⟩))
  | bor {p : Path} {e : TypeId} {es' : Rows} {sz lo len : Nat} {v : Value} (hl : look es p = some (.row true e es')) (hsz : ∀ x ∈ es', x.length = sz) (hlen : lo + len ≤ es'.length)
      (hs : subH sz (plc w es vals ad p).1 lo len v) : RA Z w S es vals ad (.bor p lo len) v
  | agg {xs : List AV} {vs : List Value} (hl : xs.length = vs.length) (h1 : ∀ v ∈ vs, v.oneCell' = true) (h : ∀ (i : Nat) x v, xs[i]? = some x → vs[i]? = some v → RA Z w S es vals ad x v) : RA Z w S es vals ad (.agg xs) (.agg vs.toArray)
  | tup {xs : List AV} {vs : List Value} (hl : xs.length = vs.length) (h : ∀ (i : Nat) x v, xs[i]? = some x → vs[i]? = some v → RA Z w S es vals ad x v) : RA Z w S es vals ad (.tup xs) (.tuple vs.toArray)
  | fn {f : FuncId} {xs ys : List AV} {vs us : List Value} (hl : xs.length = vs.length) (hl2 : ys.length = us.length) (h : ∀ (i : Nat) x v, xs[i]? = some x → vs[i]? = some v → RA Z w S es vals ad x v)
      (h2 : ∀ (i : Nat) x v, ys[i]? = some x → us[i]? = some v → RA Z w S es vals ad x v) : RA Z w S es vals ad (.fn f xs ys) (.func (.func f) vs.toArray us.toArray)
  | dead {v} : RA Z w S es vals ad .dead v
theorem RC.frame0 {w w' : World} {S S' : Nat → Prop} {c : Cell} {v : Value} (h : RC Z w S c v (fun _ => False)) (hS : ∀ k, S k → w'.heap[k]? = w.heap[k]?) (hSS : ∀ k, S k → S' k) : RC Z w' S' c v (fun _ => False) :=
  h.frame hS (fun _ h => h.elim) hSS (fun _ h => h.elim)
/-- A frame's relation to its beginning. -/
structure Fr (lf : Nat → Prop) (w w' : World) : Prop where
  os : w'.os = w.os
  tape : w'.tape = w.tape
  output : w'.output = w.output
  size : w.heap.size ≤ w'.heap.size
  block : ∀ k, k < w.heap.size → ¬ lf k → w'.heap[k]? = w.heap[k]?
theorem Fr.trans {lf X : Nat → Prop} {a b c : World} (h : Fr lf a b) (k : Fr X b c) (hX : ∀ k, k < a.heap.size → X k → lf k) : Fr lf a c :=
  ⟨k.os.trans h.os, k.tape.trans h.tape, k.output.trans h.output, Nat.le_trans h.size k.size, fun i hi hl => (k.block i (Nat.lt_of_lt_of_le hi h.size) fun hx => hl (hX i hi hx)).trans (h.block i hi hl)⟩
structure Ent where
  w0 : World
  S0 : Nat → Prop
  nl : Nat
  vals : Nat → Nat → Value
  cb : Nat → Nat
  bx : List Bool
  lf : Nat → Prop
structure Inv (Z : TypeId → Nat) (E : Ent) (st : St) (a : Act) (w : World) (S : Nat → Prop) (vals : Nat → Nat → Value) (fps : Nat → Nat → Nat → Prop) (cb : Nat → Nat) : Prop where
  dfr : a.defers = []
  nt : a.tmps.size = st.nt
  fr : Fr E.lf E.w0 w
  s0 : ∀ k, E.S0 k → S k
  slt : ∀ k, S k → k < w.heap.size
  slf : ∀ k, S k → ¬ E.lf k
  sn : ∀ k, S k → E.S0 k ∨ E.w0.heap.size ≤ k
  rr : RR Z w S st.rt vals fps
  own : ∀ r c k, fps r c k → E.lf k ∨ E.w0.heap.size ≤ k
  box : ∀ r cells, st.bx.getD r false = true → st.rt[r]? = some cells → ∃ cur ty, w.heap[cb r]? = some (.cells cur ty (0, 0)) ∧ cur.size = cells.length ∧ ∀ c v, cur[c]? = some v → vals r c = v
  bxl : ∀ r, st.bx.getD r false = true → r < st.rt.length
  bxn : st.bx.length = st.rt.length
  bxS : ∀ r, st.bx.getD r false = true → ¬ S (cb r) ∧ (∀ r' c, ¬ fps r' c (cb r)) ∧ (E.lf (cb r) ∨ E.w0.heap.size ≤ cb r)
  bxd : ∀ r r', st.bx.getD r false = true → st.bx.getD r' false = true → cb r = cb r' → r = r'
  sl : ∀ t, RA Z w S st.rt vals (adr st.bx cb) (getA st.sl t) (a.tmps.getD t undef)
  lnl : E.nl ≤ st.rt.length
  lent : ∀ r, r < E.nl → st.bx.getD r false = E.bx.getD r false ∧ (st.bx.getD r false = true → cb r = E.cb r) ∧ (st.bx.getD r false = false → ∀ c, vals r c = E.vals r c)
/-- What is held in hand: owned by no root. -/
structure Flt (E : Ent) (st : St) (fps : Nat → Nat → Nat → Prop) (cb : Nat → Nat) (fp : Nat → Prop) : Prop where
  no : ∀ k, fp k → ∀ r c, ¬ fps r c k
  nb : ∀ k, fp k → ∀ r, st.bx.getD r false = true → cb r ≠ k
  own : ∀ k, fp k → E.lf k ∨ E.w0.heap.size ≤ k
section
variable {E : Ent} {st : St} {a : Act} {w w' : World} {S : Nat → Prop} {vals : Nat → Nat → Value} {fps : Nat → Nat → Nat → Prop} {cb : Nat → Nat}
theorem Inv.box_lt (h : Inv Z E st a w S vals fps cb) {r : Nat} (hr : st.bx.getD r false = true) : cb r < w.heap.size := by
  have hl := h.bxl r hr
  obtain ⟨cur, ty, h1, _⟩ := h.box r _ hr (List.getElem?_eq_getElem hl)
  exact (Array.getElem?_eq_some_iff.1 h1).1
theorem Inv.adS (h : Inv Z E st a w S vals fps cb) : ∀ i c x, adr st.bx cb i c = some x → ¬ S x.block ∧ ∀ i' c', ¬ fps i' c' x.block := by
  intro i c x hx
  unfold adr at hx
  split at hx
  · rename_i hb
    cases hx
    exact ⟨(h.bxS i hb).1, (h.bxS i hb).2.1⟩
  · cases hx
/-- Memory turns in what is held in hand alone, and grows. -/
theorem RA.world {X : Nat → Prop} {av : AV} {v : Value} {ad : Nat → Nat → Option Addr} (h : RA Z w S st.rt vals ad av v) (hrr : RR Z w S st.rt vals fps) (hw : ∀ k, k < w.heap.size → ¬ X k → w'.heap[k]? = w.heap[k]?)
    (hlt : ∀ k, S k → k < w.heap.size) (hXS : ∀ k, S k → ¬ X k) (hXf : ∀ k r c, fps r c k → ¬ X k) : RA Z w' S st.rt vals ad av v := by
  have hS : ∀ k, S k → w'.heap[k]? = w.heap[k]? := fun k hk => hw k (hlt k hk) (hXS k hk)
  have hpl : ∀ p cell, look st.rt p = some cell → plc w' st.rt vals ad p = plc w st.rt vals ad p := fun p cell hl =>
    plc_frame p st.rt vals ad fps cell hrr hl fun ic rest _ k hk => hw k (hrr.lt hk) (hXf k ic.1 ic.2 hk)
  induction h with
  | c h => exact .c (h.frame0 hS fun _ => id)
  | nils => exact .nils
  | ptr hl h => exact .ptr hl (by rw [hpl _ _ hl]; exact h)
  | sptr hSb hb hr ho => exact .sptr hSb (by rw [hS _ hSb]; exact hb) (fun j cell hj => let ⟨v, h1, h2⟩ := hr j cell hj; ⟨v, h1, h2.frame0 hS fun _ => id⟩) ho
  | bor hl hsz hlen hs => exact .bor hl hsz hlen (by rw [hpl _ _ hl]; exact hs)
  | agg hl h1 h ih => exact .agg hl h1 ih
  | tup hl h ih => exact .tup hl ih
  | fn hl hl2 h h2 ih ih2 => exact .fn hl hl2 ih ih2
  | dead => exact .dead
theorem Inv.world {X : Nat → Prop} (h : Inv Z E st a w S vals fps cb) (hf : Fr X w w') (hX : Flt E st fps cb X) (hXS : ∀ k, X k → ¬ S k) : Inv Z E st a w' S vals fps cb := by
  have hS : ∀ k, S k → w'.heap[k]? = w.heap[k]? := fun k hk => hf.block k (h.slt k hk) fun hx => hXS k hx hk
  have hfp : ∀ k r c, fps r c k → w'.heap[k]? = w.heap[k]? := fun k r c hk => hf.block k (h.rr.lt hk) fun hx => hX.no k hx r c hk
  refine ⟨h.dfr, h.nt, h.fr.trans hf fun k hk hx => (hX.own k hx).resolve_right (by omega), h.s0, fun k hk => Nat.lt_of_lt_of_le (h.slt k hk) hf.size, h.slf, h.sn, ⟨fun i c cell hc => (h.rr.rc i c cell hc).frame hS (fun k hk => hfp k i c hk) (fun _ => id) fun k hk => h.rr.notS hk, h.rr.out, h.rr.dj⟩,
    h.own, fun r cells hb hr => ?_, h.bxl, h.bxn, h.bxS, h.bxd, fun t => (h.sl t).world h.rr hf.block h.slt (fun k hk hx => hXS k hx hk) (fun k r c hk hx => hX.no k hx r c hk), h.lnl, h.lent⟩
  obtain ⟨cur, ty, h1, h2, h3⟩ := h.box r cells hb hr
  exact ⟨cur, ty, by rw [hf.block _ (h.box_lt hb) fun hx => hX.nb _ hx r hb rfl]; exact h1, h2, h3⟩
/-- The same, where memory only grows. -/
theorem Inv.grow (h : Inv Z E st a w S vals fps cb) (hf : Fr (fun _ => False) w w') : Inv Z E st a w' S vals fps cb :=
  h.world hf ⟨fun _ h => h.elim, fun _ h => h.elim, fun _ h => h.elim⟩ fun _ h => h.elim
theorem RC.world {X : Nat → Prop} {c : Cell} {v : Value} {fp : Nat → Prop} (h : RC Z w S c v fp) (hf : Fr X w w') (hlt : ∀ k, S k → k < w.heap.size) (hXS : ∀ k, X k → ¬ S k) (hXf : ∀ k, fp k → ¬ X k) : RC Z w' S c v fp :=
  h.frame (fun k hk => hf.block k (hlt k hk) fun hx => hXS k hx hk) (fun k hk => hf.block k (h.lt k hk) (hXf k hk)) (fun _ => id) fun k hk => h.notS k hk
end
end Go.Abs

/- The moves that keep an abstract state true: a cell set, a cell taken, a new root. -/
namespace Go.Abs
open Go
set_option linter.unusedVariables false
set_option linter.unusedSimpArgs false
variable {Z : TypeId → Nat}
theorem look_pp : ∀ (p : Path) (es : Rows) (x : Nat × Nat) (r : Path) (cq cp : Cell), look es (p ++ x :: r) = some cq → look es p = some cp → ∃ e es', cp = .row true e es'
  | [], _, _, _, _, _, _, hp => by simp [look] at hp
  | [(i, c)], es, x, r, cq, cp, h, hp => by
    obtain ⟨e, es', hc, _⟩ := look_inv (q := x) (p := r) h
    rw [look_one, hc] at hp
    cases hp
    exact ⟨e, es', rfl⟩
  | (i, c) :: q :: p, es, x, r, cq, cp, h, hp => by
    obtain ⟨e, es', hc, hl⟩ := look_inv (q := q) (p := p ++ x :: r) h
    rw [look_own q p hc] at hp
    exact look_pp (q :: p) es' x r cq cp hl hp
def Cell.isOwn : Cell → Bool
  | .row true _ _ => true
  | _ => false
section
variable {w w' : World} {S : Nat → Prop} {es : Rows} {vals vals' : Nat → Nat → Value} {ad : Nat → Nat → Option Addr} {p : Path} {cell cell' : Cell}
theorem look_ne {q : Path} {cq : Cell} (h : look es q = some cq) : q ≠ [] := by rintro rfl; simp [look] at h
theorem RA.keepAt {av : AV} {v : Value} (h : RA Z w S es vals ad av v) (hS : ∀ k, S k → w'.heap[k]? = w.heap[k]?) (hl : look es p = some cell)
    (hoth : ∀ q cq, look es q = some cq → ¬ PP p q → (plc w' (setc es p cell') vals' ad q).2 = (plc w es vals ad q).2 ∧ (q ≠ p → (plc w' (setc es p cell') vals' ad q).1 = (plc w es vals ad q).1)) :
    RA Z w' S (setc es p cell') vals' ad (kill p av) v ∧ (cell.isOwn = false → RA Z w' S (setc es p cell') vals' ad av v) := by
  have hp : p ≠ [] := look_ne hl
  have key : ∀ (q : Path) (cq : Cell) (a : Addr), look es q = some cq → (plc w es vals ad q).2 = some a → ¬ PP p q → RA Z w' S (setc es p cell') vals' ad (.ptr q) (.pointer (some a)) := by
    intro q cq a hq ha hn
    rcases look_setc p q es cell' cell cq hl hq hn with ⟨_, h2⟩ | ⟨_, _, h2⟩ | ⟨_, _, _, _, _, _, _, h2⟩ <;> exact .ptr h2 (by rw [(hoth q cq hq hn).1]; exact ha)
  have keyb : ∀ (q : Path) (e : TypeId) (es' : Rows) (sz lo len : Nat) (v : Value), look es q = some (.row true e es') → (∀ x ∈ es', x.length = sz) → lo + len ≤ es'.length → subH sz (plc w es vals ad q).1 lo len v → ¬ PP p q → q ≠ p →
      RA Z w' S (setc es p cell') vals' ad (.bor q lo len) v := by
    intro q e es' sz lo len v hq hsz hlen hs hn hne
    have hv := (hoth q _ hq hn).2 hne
    rcases look_setc p q es cell' cell _ hl hq hn with ⟨h1, _⟩ | ⟨_, _, h2⟩ | ⟨e1, es1, y, r, _, h1, _, h2⟩
    · exact absurd h1 hne
    · exact .bor h2 hsz hlen (by rw [hv]; exact hs)
    · cases h1
      exact .bor h2 (setc_rows hsz) (by rw [setc_len]; exact hlen) (by rw [hv]; exact hs)
  induction h with
  | c h => exact ⟨by simp only [kill]; exact .c (h.frame0 hS fun _ => id), fun _ => .c (h.frame0 hS fun _ => id)⟩
  | nils => exact ⟨by simp only [kill]; exact .nils, fun _ => .nils⟩
  | @ptr q cq a hq ha =>
    constructor
    · simp only [kill]
      split
      · exact .dead
      · rename_i hk
        refine key q cq a hq ha fun hpp => hk ?_
        rw [clash_pp hp hpp]
        obtain ⟨x, r, rfl⟩ := hpp
        simp
    · intro hno
      refine key q cq a hq ha fun ⟨x, r, he⟩ => ?_
      subst he
      obtain ⟨e, es', h1⟩ := look_pp p es x r cq cell hq hl
      rw [h1] at hno; cases hno
  | sptr hSb hb hr ho =>
    have h0 : RA Z w' S (setc es p cell') vals' ad _ _ := .sptr hSb (by rw [hS _ hSb]; exact hb) (fun j cell hj => let ⟨v, h1, h2⟩ := hr j cell hj; ⟨v, h1, h2.frame0 hS fun _ => id⟩) ho
    exact ⟨by simp only [kill]; exact h0, fun _ => h0⟩
  | @bor q e es' sz lo len v hq hsz hlen hs =>
    constructor
    · simp only [kill]
      split
      · exact .dead
      · rename_i hk
        refine keyb q e es' sz lo len v hq hsz hlen hs (fun hpp => hk (clash_pp hp hpp)) fun he => hk ?_
        subst he
        exact clash_self hp
    · intro hno
      refine keyb q e es' sz lo len v hq hsz hlen hs (fun ⟨x, r, he⟩ => ?_) fun he => ?_
      · subst he
        obtain ⟨_, _, h1⟩ := look_pp p es x r _ cell hq hl
        rw [h1] at hno; cases hno
      · subst he
        rw [hl] at hq; cases hq; cases hno
  | @agg xs vs hln h1 h ih =>
    constructor
    · simp only [kill, killL_eq]
      refine .agg (by simpa using hln) h1 fun i x v hx hv => ?_
      rw [List.getElem?_map] at hx
      cases hx0 : xs[i]? with
      | none => rw [hx0] at hx; cases hx
      | some x0 => rw [hx0] at hx; cases hx; exact (ih i x0 v hx0 hv).1
    · exact fun hno => .agg hln h1 fun i x v hx hv => (ih i x v hx hv).2 hno
  | @tup xs vs hln h ih =>
    constructor
    · simp only [kill, killL_eq]
      refine .tup (by simpa using hln) fun i x v hx hv => ?_
      rw [List.getElem?_map] at hx
      cases hx0 : xs[i]? with
      | none => rw [hx0] at hx; cases hx
      | some x0 => rw [hx0] at hx; cases hx; exact (ih i x0 v hx0 hv).1
    · exact fun hno => .tup hln fun i x v hx hv => (ih i x v hx hv).2 hno
  | @fn f xs ys vs us hln hln2 h h2 ih ih2 =>
    constructor
    · simp only [kill, killL_eq]
      refine .fn (by simpa using hln) (by simpa using hln2) (fun i x v hx hv => ?_) fun i x v hx hv => ?_
      · rw [List.getElem?_map] at hx
        cases hx0 : xs[i]? with
        | none => rw [hx0] at hx; cases hx
        | some x0 => rw [hx0] at hx; cases hx; exact (ih i x0 v hx0 hv).1
      · rw [List.getElem?_map] at hx
        cases hx0 : ys[i]? with
        | none => rw [hx0] at hx; cases hx
        | some x0 => rw [hx0] at hx; cases hx; exact (ih2 i x0 v hx0 hv).1
    · exact fun hno => .fn hln hln2 (fun i x v hx hv => (ih i x v hx hv).2 hno) fun i x v hx hv => (ih2 i x v hx hv).2 hno
  | dead => exact ⟨by simp only [kill]; exact .dead, fun _ => .dead⟩
end
/-- A cell set behind its old content's leaving. -/
def St.setAt (st : St) (p : Path) (x : Cell) : St := { st with rt := setc st.rt p x, sl := killS p st.sl }
def St.setSc (st : St) (p : Path) (x : Cell) : St := { st with rt := setc st.rt p x }
section
variable {E : Ent} {st : St} {a : Act} {w w' : World} {S : Nat → Prop} {vals : Nat → Nat → Value} {fps : Nat → Nat → Nat → Prop} {cb : Nat → Nat}
structure SetOk (Z : TypeId → Nat) (E : Ent) (st : St) (w w' : World) (S : Nat → Prop) (vals : Nat → Nat → Value) (fps : Nat → Nat → Nat → Prop) (cb : Nat → Nat) (p : Path) (fpc fpc' : Nat → Prop) (cell' : Cell) (v' : Value) : Prop where
  rc : RC Z w' S cell' v' fpc'
  fl : ∀ k, fpc' k → (∀ r c, fps r c k → fpc k) ∧ (∀ r, st.bx.getD r false = true → cb r ≠ k) ∧ (E.lf k ∨ E.w0.heap.size ≤ k)
  os : w'.os = w.os
  tape : w'.tape = w.tape
  output : w'.output = w.output
  size : w.heap.size ≤ w'.heap.size
  same : ∀ k, k < w.heap.size → ¬ fpc k → (∀ x, (plc w st.rt vals (adr st.bx cb) p).2 = some x → k ≠ x.block) → w'.heap[k]? = w.heap[k]?
  cell : ∀ x, (plc w st.rt vals (adr st.bx cb) p).2 = some x → ∀ cur ty, w.heap[x.block]? = some (.cells cur ty (0, 0)) → w'.heap[x.block]? = some (.cells (cur.setIfInBounds x.off v') ty (0, 0))
  lent : ∀ r c, p = [(r, c)] → r < E.nl → st.bx.getD r false = false → v' = vals r c
theorem Inv.setAt (h : Inv Z E st a w S vals fps cb) {p : Path} {cell : Cell} (hl : look st.rt p = some cell) :
    ∃ fpc, RC Z w S cell (plc w st.rt vals (adr st.bx cb) p).1 fpc ∧ (∀ k, fpc k → ∃ r c, fps r c k) ∧
      ∀ w' cell' v' fpc', SetOk Z E st w w' S vals fps cb p fpc fpc' cell' v' →
        ∃ fps', Inv Z E (st.setAt p cell') a w' S (upd vals p v') fps' cb ∧ (cell.isOwn = false → Inv Z E (st.setSc p cell') a w' S (upd vals p v') fps' cb) ∧ (∀ r c k, fps' r c k → (fps r c k ∧ ¬ fpc k) ∨ fpc' k) ∧
          ∀ av v, RA Z w S st.rt vals (adr st.bx cb) av v → RA Z w' S (setc st.rt p cell') (upd vals p v') (adr st.bx cb) (kill p av) v ∧ (cell.isOwn = false → RA Z w' S (setc st.rt p cell') (upd vals p v') (adr st.bx cb) av v) := by
  obtain ⟨fpc, h1, h2, h3⟩ := change p st.rt vals (adr st.bx cb) fps cell h.rr hl h.adS
  obtain ⟨⟨i0, c0⟩, pr, rfl⟩ : ∃ ic r, p = ic :: r := by cases p with | nil => simp [look] at hl | cons x r => exact ⟨x, r, rfl⟩
  have hsub : ∀ k, fpc k → fps i0 c0 k := fun k hk => h2 _ _ rfl k hk
  refine ⟨fpc, h1, fun k hk => ⟨i0, c0, hsub k hk⟩, fun w' cell' v' fpc' O => ?_⟩
  have haddr : ∀ x, (plc w st.rt vals (adr st.bx cb) ((i0, c0) :: pr)).2 = some x → (∃ r c, ((i0, c0) :: pr) = [(r, c)] ∧ st.bx.getD r false = true ∧ x = ⟨cb r, c, none⟩) ∨ fps i0 c0 x.block := by
    intro x hx
    rcases plc_addr _ st.rt vals _ fps cell x h.rr hl hx with ⟨r, c, hp, hx2⟩ | ⟨r, c, _, _, hp, hk⟩
    · left
      unfold adr at hx2
      split at hx2
      · rename_i hb; cases hx2; exact ⟨r, c, hp, hb, rfl⟩
      · cases hx2
    · right; cases hp; exact hk
  have hxS : ∀ x, (plc w st.rt vals (adr st.bx cb) ((i0, c0) :: pr)).2 = some x → ¬ S x.block ∧ x.block < w.heap.size ∧ (E.lf x.block ∨ E.w0.heap.size ≤ x.block) := by
    intro x hx
    rcases haddr x hx with ⟨r, c, _, hb, rfl⟩ | hk
    · exact ⟨(h.bxS r hb).1, h.box_lt hb, (h.bxS r hb).2.2⟩
    · exact ⟨h.rr.notS hk, h.rr.lt hk, h.own _ _ _ hk⟩
  have hF : Fits Z w w' S S fps fpc fpc' (plc w st.rt vals (adr st.bx cb) ((i0, c0) :: pr)).2 cell' v' := by
    refine ⟨⟨fun k hk hx => ?_, O.cell⟩, O.rc, fun _ => id, fun k i c hk _ => h.rr.notS hk, fun k i c hk hk2 => (O.fl k hk).1 i c hk2⟩
    rcases hk with hk | ⟨r, c, hk, hn⟩
    · exact O.same k (h.slt k hk) (fun hf => h.rr.notS (hsub k hf) hk) hx
    · exact O.same k (h.rr.lt hk) hn hx
  obtain ⟨fps', hrr, hs2, hoth⟩ := h3 w' S cell' v' fpc' hF
  have hS : ∀ k, S k → w'.heap[k]? = w.heap[k]? := fun k hk => O.same k (h.slt k hk) (fun hf => h.rr.notS (hsub k hf) hk) fun x hx e => (hxS x hx).1 (e ▸ hk)
  have hfps : ∀ r c k, fps' r c k → (fps r c k ∧ ¬ fpc k) ∨ fpc' k := fun r c k hk => (hs2 r c k hk).imp id fun h => h.1
  have hfr : Fr E.lf E.w0 w' := by
    refine ⟨O.os.trans h.fr.os, O.tape.trans h.fr.tape, O.output.trans h.fr.output, Nat.le_trans h.fr.size O.size, fun k hk hn => ?_⟩
    rw [← h.fr.block k hk hn]
    refine O.same k (Nat.lt_of_lt_of_le hk h.fr.size) (fun hf => ?_) fun x hx e => ?_
    · rcases h.own _ _ _ (hsub k hf) with h4 | h4
      · exact hn h4
      · omega
    · rcases (hxS x hx).2.2 with h4 | h4
      · exact hn (e ▸ h4)
      · omega
  have hbox : ∀ r cells, st.bx.getD r false = true → (setc st.rt ((i0, c0) :: pr) cell')[r]? = some cells → ∃ cur ty, w'.heap[cb r]? = some (.cells cur ty (0, 0)) ∧ cur.size = cells.length ∧ ∀ c v, cur[c]? = some v → upd vals ((i0, c0) :: pr) v' r c = v := by
    intro r cells hb hr
    have hlt := h.bxl r hb
    obtain ⟨cur, ty, g1, g2, g3⟩ := h.box r _ hb (List.getElem?_eq_getElem hlt)
    have hlen : cells.length = (st.rt[r]).length := by
      have hset : ∀ (es : Rows) (i c : Nat) (x : Cell) (y : List Cell), (put1 es i c x)[r]? = some y → ∀ (hlt : r < es.length), y.length = (es[r]).length := by
        intro es i c x y hy hlt
        unfold put1 at hy
        rw [List.getElem?_modify, List.getElem?_eq_getElem hlt] at hy
        simp only [Option.map_eq_map, Option.map_some, Option.some.injEq] at hy
        rw [← hy]; split <;> simp
      cases pr with
      | nil => rw [setc_one] at hr; exact hset _ _ _ _ _ hr hlt
      | cons q pr => obtain ⟨e, es', hc0, _⟩ := look_inv hl; rw [setc_own q pr cell' hc0] at hr; exact hset _ _ _ _ _ hr hlt
    have hnfc : ¬ fpc (cb r) := fun hf => (h.bxS r hb).2.1 i0 c0 (hsub _ hf)
    by_cases hp : ∃ c, ((i0, c0) :: pr) = [(r, c)]
    · obtain ⟨c, hp⟩ := hp
      cases hp
      have hx : (plc w st.rt vals (adr st.bx cb) [(i0, c0)]).2 = some ⟨cb i0, c0, none⟩ := by simp only [plc_one, adr, hb, if_true]
      refine ⟨_, ty, O.cell _ hx cur ty g1, by simpa using g2.trans hlen.symm, fun c' v hv => ?_⟩
      rw [Array.getElem?_setIfInBounds] at hv
      unfold upd
      split at hv
      · split at hv
        · rename_i he _; subst he; cases hv; simp
        · cases hv
      · rename_i hne
        rw [if_neg (fun e => hne (by cases e; rfl))]
        exact g3 c' v hv
    · refine ⟨cur, ty, ?_, g2.trans hlen.symm, fun c v hv => ?_⟩
      · rw [O.same (cb r) (h.box_lt hb) hnfc fun x hx e => ?_]
        · exact g1
        · rcases haddr x hx with ⟨r2, c2, hp2, hb2, rfl⟩ | hk
          · have := h.bxd r r2 hb hb2 e
            subst this
            exact hp ⟨c2, hp2⟩
          · exact (h.bxS r hb).2.1 _ _ (e ▸ hk)
      · unfold upd
        rw [if_neg (fun e => hp ⟨c, e⟩)]
        exact g3 c v hv
  have hbxS : ∀ r, st.bx.getD r false = true → ¬ S (cb r) ∧ (∀ r' c, ¬ fps' r' c (cb r)) ∧ (E.lf (cb r) ∨ E.w0.heap.size ≤ cb r) := by
    intro r hb
    refine ⟨(h.bxS r hb).1, fun r' c hk => ?_, (h.bxS r hb).2.2⟩
    rcases hfps r' c _ hk with ⟨h4, _⟩ | h4
    · exact (h.bxS r hb).2.1 r' c h4
    · exact (O.fl _ h4).2.1 r hb rfl
  have hown : ∀ r c k, fps' r c k → E.lf k ∨ E.w0.heap.size ≤ k := fun r c k hk => (hfps r c k hk).elim (fun h4 => h.own r c k h4.1) fun h4 => (O.fl k h4).2.2
  have hlent : ∀ r, r < E.nl → st.bx.getD r false = E.bx.getD r false ∧ (st.bx.getD r false = true → cb r = E.cb r) ∧ (st.bx.getD r false = false → ∀ c, upd vals ((i0, c0) :: pr) v' r c = E.vals r c) := by
    intro r hr
    obtain ⟨e1, e2, e3⟩ := h.lent r hr
    refine ⟨e1, e2, fun hb c => ?_⟩
    unfold upd
    split
    · rename_i hp; rw [O.lent r c hp hr hb]; exact e3 hb c
    · exact e3 hb c
  have hlnl : E.nl ≤ (setc st.rt ((i0, c0) :: pr) cell').length := by rw [setc_len]; exact h.lnl
  have hbxl : ∀ r, st.bx.getD r false = true → r < (setc st.rt ((i0, c0) :: pr) cell').length := fun r hb => by rw [setc_len]; exact h.bxl r hb
  have hbxn : st.bx.length = (setc st.rt ((i0, c0) :: pr) cell').length := by rw [setc_len]; exact h.bxn
  have hslt : ∀ k, S k → k < w'.heap.size := fun k hk => Nat.lt_of_lt_of_le (h.slt k hk) O.size
  refine ⟨fps', ⟨h.dfr, h.nt, hfr, h.s0, hslt, h.slf, h.sn, hrr, hown, hbox, hbxl, hbxn, hbxS, h.bxd, fun t => ?_, hlnl, hlent⟩, fun hno => ⟨h.dfr, h.nt, hfr, h.s0, hslt, h.slf, h.sn, hrr, hown, hbox, hbxl, hbxn, hbxS, h.bxd, fun t => ?_, hlnl, hlent⟩, hfps, fun av v hav => hav.keepAt hS hl hoth⟩
  · simp only [St.setAt, getA_kill]
    exact ((h.sl t).keepAt hS hl hoth).1
  · exact ((h.sl t).keepAt hS hl hoth).2 hno
theorem upd_self (w : World) (es : Rows) (vals : Nat → Nat → Value) (ad : Nat → Nat → Option Addr) (p : Path) : upd vals p (plc w es vals ad p).1 = vals := by
  funext i c
  unfold upd
  split
  · rename_i h; subst h; simp only [plc_one]
  · rfl
/-- The memory at a place's address holds the place's value. -/
theorem plc_cell {w : World} {S : Nat → Prop} : ∀ (p : Path) (es : Rows) (vals : Nat → Nat → Value) (ad : Nat → Nat → Option Addr) (fps : Nat → Nat → Nat → Prop) (cell : Cell) (x : Addr),
    RR Z w S es vals fps → look es p = some cell → (plc w es vals ad p).2 = some x → (∃ i c, p = [(i, c)]) ∨ ∃ cur ty, w.heap[x.block]? = some (.cells cur ty (0, 0)) ∧ cur[x.off]? = some (plc w es vals ad p).1 ∧ x.spot = none
  | [], _, _, _, _, _, _, _, hl, _ => by simp [look] at hl
  | [(i, c)], _, _, _, _, _, _, _, _, _ => .inl ⟨i, c, rfl⟩
  | (i, c) :: q :: p, es, vals, ad, fps, cell, x, hr, hl, hx => by
    right
    obtain ⟨e, es', hc, hin⟩ := look_inv hl
    obtain ⟨sz, xs, fps', ho, hsz, hrr, hg, hfp, hze⟩ := own_inner (hr.rc i c _ hc)
    rw [plc_own vals ad q p hc] at hx ⊢
    rcases plc_cell (q :: p) es' _ _ fps' cell x hrr hin hx with ⟨i', c', hp⟩ | h
    · cases hp
      rw [look_one] at hin
      obtain ⟨hi, hcs⟩ := cellAt_col hsz hin
      have hw : width es' = sz := width_eq hsz (by omega)
      rw [hw] at hx ⊢
      rcases ho.2 with ⟨_, h0⟩ | ⟨g, cap, cur, hv, hb, hgg, hnc, hcm, hcsz, htake⟩
      · omega
      · simp only [plc_one, rowAd, hv, Value.ownBlock, Option.map_some, Option.some.injEq] at hx
        subst hx
        refine ⟨cur, e, hgg, ?_, rfl⟩
        have hlt : i' * sz + c' < cur.size := by
          rw [hcsz]
          have h1 : (i' + 1) * sz ≤ cap * sz := Nat.mul_le_mul_right _ (by omega)
          rw [Nat.add_mul, Nat.one_mul] at h1
          omega
        simp only [plc_one, rowVals, hv, Value.ownBlock, hgg, Array.getD_eq_getD_getElem?]
        rw [Array.getElem?_eq_getElem hlt]
        rfl
    · exact h
theorem Inv.cellAt (h : Inv Z E st a w S vals fps cb) {p : Path} {cell : Cell} {x : Addr} (hl : look st.rt p = some cell) (hx : (plc w st.rt vals (adr st.bx cb) p).2 = some x) :
    ∃ cur ty, w.heap[x.block]? = some (.cells cur ty (0, 0)) ∧ cur[x.off]? = some (plc w st.rt vals (adr st.bx cb) p).1 ∧ x.spot = none := by
  rcases plc_cell p st.rt vals (adr st.bx cb) fps cell x h.rr hl hx with ⟨r, c, rfl⟩ | h2
  · simp only [plc_one, adr] at hx ⊢
    split at hx
    · rename_i hb
      cases hx
      obtain ⟨hlt, cells, hc1, hc2⟩ := cellAt_lt hl
      obtain ⟨cur, ty, g1, g2, g3⟩ := h.box r _ hb hc1
      have hlt2 : c < cur.size := by rw [g2]; exact (List.getElem?_eq_some_iff.1 hc2).1
      exact ⟨cur, ty, g1, by rw [Array.getElem?_eq_getElem hlt2]; rw [g3 c _ (Array.getElem?_eq_getElem hlt2)], rfl⟩
    · cases hx
  · exact h2
/-- A cell's content comes into hand; memory stays. -/
theorem Inv.take (h : Inv Z E st a w S vals fps cb) {p : Path} {cell : Cell} (hl : look st.rt p = some cell) :
    ∃ fps' fpc, Inv Z E (st.setAt p .hole) a w S vals fps' cb ∧ RC Z w S cell (plc w st.rt vals (adr st.bx cb) p).1 fpc ∧ Flt E st fps' cb fpc ∧ (∀ r c k, fps' r c k → fps r c k) ∧ (∀ k, fpc k → ∃ r c, fps r c k) ∧
      ∀ av v, RA Z w S st.rt vals (adr st.bx cb) av v → RA Z w S (st.setAt p .hole).rt vals (adr st.bx cb) (kill p av) v := by
  obtain ⟨fpc, h1, h2, h3⟩ := h.setAt hl
  have hO : SetOk Z E st w w S vals fps cb p fpc (fun _ => False) .hole (plc w st.rt vals (adr st.bx cb) p).1 := by
    refine ⟨.hole h1.one, fun _ h => h.elim, rfl, rfl, rfl, Nat.le_refl _, fun _ _ _ _ => rfl, fun x hx cur ty hh => ?_, fun r c hp _ _ => by rw [hp, plc_one]⟩
    -- the same value: memory as it was
    have hsame : ∀ (cur : Array Value) (o : Nat) (v : Value), cur[o]? = some v → cur.setIfInBounds o v = cur := by
      intro cur o v hv
      apply Array.ext_getElem?
      intro j
      rw [Array.getElem?_setIfInBounds]
      split
      · rename_i he; subst he; split
        · exact hv.symm
        · rename_i hlt; rw [Array.getElem?_eq_none (by omega)] at hv; cases hv
      · rfl
    rw [hh]
    congr 1
    refine congrArg (fun c => Obj.cells c ty (0, 0)) (hsame cur x.off _ ?_).symm
    obtain ⟨cur2, ty2, k1, k2, _⟩ := h.cellAt hl hx
    rw [hh] at k1
    cases k1
    exact k2
  obtain ⟨fps', hI, _, hs, htr⟩ := h3 w .hole _ _ hO
  rw [upd_self] at hI htr
  refine ⟨fps', fpc, hI, h1, ⟨fun k hk r c hk2 => ?_, fun k hk r hb e => ?_, fun k hk => ?_⟩, fun r c k hk => ?_, h2, fun av v hav => (htr av v hav).1⟩
  · rcases hs r c k hk2 with ⟨_, hn⟩ | hn
    · exact hn hk
    · exact hn
  · obtain ⟨r', c', hk'⟩ := h2 k hk
    exact (h.bxS r hb).2.1 r' c' (e ▸ hk')
  · obtain ⟨r', c', hk'⟩ := h2 k hk
    exact h.own r' c' k hk'
  · rcases hs r c k hk with ⟨h4, _⟩ | h4
    · exact h4
    · exact h4.elim
end
end Go.Abs

/- New roots (a value in hand; a block of one's own), a store at a place. -/
namespace Go.Abs
open Go
set_option linter.unusedVariables false
set_option linter.unusedSimpArgs false
variable {Z : TypeId → Nat}
set_option linter.unusedSimpArgs false
theorem plc_head2 (w : World) {es1 es2 : Rows} {vals1 vals2 : Nat → Nat → Value} {ad1 ad2 : Nat → Nat → Option Addr} {i c : Nat} (r : Path) (hc : cellAt es1 i c = cellAt es2 i c) (hv : vals1 i c = vals2 i c) (ha : ad1 i c = ad2 i c) :
    plc w es1 vals1 ad1 ((i, c) :: r) = plc w es2 vals2 ad2 ((i, c) :: r) := by
  cases r with
  | nil => simp only [plc_one, hv, ha]
  | cons q r => rw [plc, plc]; simp only [hc, hv, ha]
theorem look_head {es1 es2 : Rows} {i c : Nat} (r : Path) (hc : cellAt es1 i c = cellAt es2 i c) : look es1 ((i, c) :: r) = look es2 ((i, c) :: r) := by
  cases r with
  | nil => exact hc
  | cons q r => rw [look, look]; simp only [hc]
theorem look_head_some {es : Rows} {i c : Nat} {r : Path} {cell : Cell} (h : look es ((i, c) :: r) = some cell) : ∃ x, cellAt es i c = some x := by
  cases r with
  | nil => exact ⟨_, h⟩
  | cons q r => obtain ⟨_, _, h, _⟩ := look_inv h; exact ⟨_, h⟩
/-- Roots beside the known ones turn: slots hold what they held. -/
theorem RA.roots {w : World} {S : Nat → Prop} {es es' : Rows} {vals vals' : Nat → Nat → Value} {ad ad' : Nat → Nat → Option Addr} {av : AV} {v : Value} (h : RA Z w S es vals ad av v)
    (hh : ∀ i c x, cellAt es i c = some x → cellAt es' i c = some x ∧ vals' i c = vals i c ∧ ad' i c = ad i c) : RA Z w S es' vals' ad' av v := by
  have hlk : ∀ p cell, look es p = some cell → look es' p = some cell ∧ plc w es' vals' ad' p = plc w es vals ad p := by
    intro p cell hl
    cases p with
    | nil => simp [look] at hl
    | cons ic r =>
      obtain ⟨i, c⟩ := ic
      obtain ⟨x, hx⟩ := look_head_some hl
      obtain ⟨h1, h2, h3⟩ := hh i c x hx
      exact ⟨by rw [look_head (es1 := es') (es2 := es) r (h1.trans hx.symm)]; exact hl, plc_head2 w r (h1.trans hx.symm) h2 h3⟩
  induction h with
  | c h => exact .c h
  | nils => exact .nils
  | ptr hl h => exact .ptr (hlk _ _ hl).1 (by rw [(hlk _ _ hl).2]; exact h)
  | sptr hSb hb hr ho => exact .sptr hSb hb hr ho
  | bor hl hsz hlen hs => exact .bor (hlk _ _ hl).1 hsz hlen (by rw [(hlk _ _ hl).2]; exact hs)
  | agg hl h1 h ih => exact .agg hl h1 ih
  | tup hl h ih => exact .tup hl ih
  | fn hl hl2 h h2 ih ih2 => exact .fn hl hl2 ih ih2
  | dead => exact .dead
theorem cellAt_set (es : Rows) (r : Nat) (cells : List Cell) (hr : r < es.length) (i c : Nat) : cellAt (es.set r cells) i c = if i = r then cells[c]? else cellAt es i c := by
  unfold cellAt
  rw [List.getElem?_set]
  by_cases h : r = i
  · subst h; simp [hr]
  · have : i ≠ r := fun e => h e.symm
    simp [h, this]
def St.fill (st : St) (r : Nat) (cells : List Cell) (b : Bool) : St := { st with rt := st.rt.set r cells, bx := st.bx.set r b }
def St.ext (st : St) (k : Nat) : St := { st with rt := st.rt ++ List.replicate k [], bx := st.bx ++ List.replicate k false }
section
variable {E : Ent} {st : St} {a : Act} {w w' : World} {S : Nat → Prop} {vals : Nat → Nat → Value} {fps : Nat → Nat → Nat → Prop} {cb : Nat → Nat}
/-- A placeholder. -/
def St.free (st : St) (r : Nat) : Prop := st.rt[r]? = some [] ∧ st.bx.getD r false = false
theorem cellAt_free {r : Nat} (h : st.free r) (c : Nat) : Abs.cellAt st.rt r c = none := by
  unfold Abs.cellAt; rw [h.1]; rfl
theorem getD_set_bx {l : List Bool} {r : Nat} {b : Bool} (hr : r < l.length) (i : Nat) : (l.set r b).getD i false = if i = r then b else l.getD i false := by
  rw [List.getD_eq_getElem?_getD, List.getD_eq_getElem?_getD, List.getElem?_set]
  by_cases h : r = i
  · subst h; simp [hr]
  · have : i ≠ r := fun e => h e.symm
    simp [h, this]
theorem Inv.fill (h : Inv Z E st a w S vals fps cb) {r : Nat} (hfree : st.free r) (hnl : E.nl ≤ r) (cells : List Cell) (vs : Nat → Value) (fp : Nat → Nat → Prop)
    (hrc : ∀ (c : Nat) cell, cells[c]? = some cell → RC Z w S cell (vs c) (fp c)) (hout : ∀ c, cells.length ≤ c → ∀ k, ¬ fp c k) (hdj : ∀ c c' k, fp c k → fp c' k → c = c')
    (hflt : ∀ c, Flt E st fps cb (fp c)) :
    Inv Z E (st.fill r cells false) a w S (fun i c => if i = r then vs c else vals i c) (fun i c k => if i = r then fp c k else fps i c k) cb := by
  have hr : r < st.rt.length := (List.getElem?_eq_some_iff.1 hfree.1).1
  have hrb : r < st.bx.length := by rw [h.bxn]; exact hr
  have hne : ∀ i c x, Abs.cellAt st.rt i c = some x → i ≠ r := by rintro i c x hx rfl; rw [cellAt_free hfree] at hx; cases hx
  have hbx : ∀ i, (st.bx.set r false).getD i false = true → st.bx.getD i false = true ∧ i ≠ r := by
    intro i hb
    rw [getD_set_bx hrb] at hb
    split at hb
    · cases hb
    · rename_i hi; exact ⟨hb, hi⟩
  have hbx2 : ∀ i, (st.bx.set r false).getD i false = st.bx.getD i false := by
    intro i; rw [getD_set_bx hrb]; split
    · rename_i hi; rw [hi, hfree.2]
    · rfl
  refine ⟨h.dfr, h.nt, h.fr, h.s0, h.slt, h.slf, h.sn, ⟨fun i c cell hc => ?_, fun i c hc k => ?_, fun i c i' c' k h1 h2 => ?_⟩, fun i c k hk => ?_, fun i cs hb hi => ?_, fun i hb => ?_, by simp [St.fill, h.bxn], fun i hb => ?_, fun i i' hb hb' e => ?_, fun t => ?_, by simp [St.fill, h.lnl], fun i hi => ?_⟩
  · simp only [St.fill] at hc
    rw [cellAt_set _ _ _ hr] at hc
    split at hc
    · rename_i hi; simp only [hi, if_true]; exact hrc c cell hc
    · rename_i hi; simp only [hi, if_false]; exact h.rr.rc i c cell hc
  · simp only [St.fill] at hc
    rw [cellAt_set _ _ _ hr] at hc
    split at hc
    · rename_i hi; simp only [hi, if_true]; exact hout c (List.getElem?_eq_none_iff.1 hc) k
    · rename_i hi; simp only [hi, if_false]; exact h.rr.out i c hc k
  · by_cases e1 : i = r
    · by_cases e2 : i' = r
      · simp only [e1, if_true] at h1
        simp only [e2, if_true] at h2
        exact ⟨e1.trans e2.symm, hdj _ _ _ h1 h2⟩
      · simp only [e1, if_true] at h1
        simp only [e2, if_false] at h2
        exact absurd h2 ((hflt c).no k h1 i' c')
    · by_cases e2 : i' = r
      · simp only [e1, if_false] at h1
        simp only [e2, if_true] at h2
        exact absurd h1 ((hflt c').no k h2 i c)
      · simp only [e1, if_false] at h1
        simp only [e2, if_false] at h2
        exact h.rr.dj _ _ _ _ _ h1 h2
  · split at hk
    · exact (hflt c).own k hk
    · exact h.own i c k hk
  · obtain ⟨hb1, hi1⟩ := hbx i hb
    simp only [St.fill] at hi
    rw [List.getElem?_set, if_neg (fun e => hi1 e.symm)] at hi
    obtain ⟨cur, ty, g1, g2, g3⟩ := h.box i cs hb1 hi
    exact ⟨cur, ty, g1, g2, fun c v hv => by simp only [hi1, if_false]; exact g3 c v hv⟩
  · simp only [St.fill, List.length_set]; exact h.bxl i (hbx i hb).1
  · obtain ⟨hb1, hi1⟩ := hbx i hb
    obtain ⟨g1, g2, g3⟩ := h.bxS i hb1
    refine ⟨g1, fun r' c hk => ?_, g3⟩
    split at hk
    · exact (hflt c).nb _ hk i hb1 rfl
    · exact g2 r' c hk
  · exact h.bxd i i' (hbx i hb).1 (hbx i' hb').1 e
  · refine (h.sl t).roots fun i c x hx => ?_
    have hi := hne i c x hx
    simp only [St.fill]
    refine ⟨by rw [cellAt_set _ _ _ hr, if_neg hi]; exact hx, by simp only [hi, if_false], ?_⟩
    unfold adr; rw [hbx2]
  · have hir : i ≠ r := by omega
    obtain ⟨e1, e2, e3⟩ := h.lent i hi
    simp only [St.fill, hbx2, hir, if_false]
    exact ⟨e1, e2, e3⟩
/-- A new block of memory becomes a root. -/
theorem Inv.fillBox (h : Inv Z E st a w S vals fps cb) {r : Nat} (hfree : st.free r) (hnl : E.nl ≤ r) (cells : List Cell) (arr : Array Value) (ty : TypeId) (fp : Nat → Nat → Prop)
    (hsz : arr.size = cells.length) (hrc : ∀ (c : Nat) cell v, cells[c]? = some cell → arr[c]? = some v → RC Z w S cell v (fp c)) (hout : ∀ c, cells.length ≤ c → ∀ k, ¬ fp c k) (hdj : ∀ c c' k, fp c k → fp c' k → c = c')
    (hflt : ∀ c, Flt E st fps cb (fp c)) :
    Inv Z E (st.fill r cells true) a (w.alloc (.cells arr ty)) S (fun i c => if i = r then arr.getD c undef else vals i c) (fun i c k => if i = r then fp c k else fps i c k) (fun i => if i = r then w.heap.size else cb i) := by
  have hgr : Fr (fun _ => False) w (w.alloc (.cells arr ty)) := ⟨rfl, rfl, rfl, by simp, fun k hk _ => heap_alloc_old w _ k hk⟩
  have h2 := h.grow hgr
  have hnew : (w.alloc (.cells arr ty)).heap[w.heap.size]? = some (.cells arr ty (0, 0)) := heap_alloc_new w _
  have hrc2 : ∀ (c : Nat) cell, cells[c]? = some cell → RC Z (w.alloc (.cells arr ty)) S cell (arr.getD c undef) (fp c) := by
    intro c cell hc
    have hlt : c < arr.size := by rw [hsz]; exact (List.getElem?_eq_some_iff.1 hc).1
    have hv : arr[c]? = some (arr.getD c undef) := by simp [hlt]
    exact (hrc c cell _ hc hv).world hgr h.slt (fun _ h => h.elim) (fun _ _ h => h)
  have h3 := h2.fill hfree hnl cells (fun c => arr.getD c undef) fp hrc2 hout hdj hflt
  have hr : r < st.rt.length := (List.getElem?_eq_some_iff.1 hfree.1).1
  have hrb : r < st.bx.length := by rw [h.bxn]; exact hr
  have hfpl : ∀ c k, fp c k → k < w.heap.size := by
    intro c k hk
    by_cases hc : c < cells.length
    · have hlt : c < arr.size := by rw [hsz]; exact hc
      exact (hrc c _ _ (List.getElem?_eq_getElem hc) (Array.getElem?_eq_getElem hlt)).lt k hk
    · exact absurd hk (hout c (by omega) k)
  have hw0 : E.w0.heap.size ≤ w.heap.size := h.fr.size
  have hcbl : ∀ i, st.bx.getD i false = true → cb i < w.heap.size := fun i hb => h.box_lt hb
  have hbx3 : ∀ i, i ≠ r → (st.bx.set r true).getD i false = st.bx.getD i false := fun i hi => by rw [getD_set_bx hrb, if_neg hi]
  have hbx4 : ∀ i, i ≠ r → (st.bx.set r false).getD i false = st.bx.getD i false := fun i hi => by rw [getD_set_bx hrb, if_neg hi]
  refine ⟨h3.dfr, h3.nt, h3.fr, h3.s0, h3.slt, h3.slf, h3.sn, h3.rr, h3.own, fun i cs hb hi => ?_, fun i hb => ?_, by simp [St.fill, h.bxn], fun i hb => ?_, fun i i' hb hb' e => ?_, fun t => ?_, h3.lnl, fun i hi => ?_⟩
  · by_cases hir : i = r
    · subst hir
      simp only [St.fill, List.getElem?_set, hr, if_true, Option.some.injEq] at hi
      subst hi
      refine ⟨arr, ty, by simp only [if_true]; exact hnew, hsz, fun c v hv => ?_⟩
      simp [hv]
    · simp only [St.fill] at hb
      rw [hbx3 i hir] at hb
      simp only [hir, if_false]
      have := h3.box i cs (by simp only [St.fill]; rw [hbx4 i hir]; exact hb) hi
      simpa only [hir, if_false] using this
  · by_cases hir : i = r
    · subst hir; simp only [St.fill, List.length_set]; exact hr
    · simp only [St.fill] at hb; rw [hbx3 i hir] at hb
      simp only [St.fill, List.length_set]; exact h.bxl i hb
  · by_cases hir : i = r
    · subst hir
      simp only [if_true]
      refine ⟨fun hs => ?_, fun r' c hk => ?_, .inr hw0⟩
      · have := h.slt _ hs; omega
      · split at hk
        · have := hfpl c _ hk; omega
        · have := h.rr.lt hk; omega
    · simp only [St.fill] at hb
      rw [hbx3 i hir] at hb
      simp only [hir, if_false]
      exact h3.bxS i (by simp only [St.fill]; rw [hbx4 i hir]; exact hb)
  · simp only [St.fill] at hb hb'
    by_cases hir : i = r
    · by_cases hir' : i' = r
      · exact hir.trans hir'.symm
      · rw [hbx3 i' hir'] at hb'
        simp only [hir, hir', if_true, if_false] at e
        have := hcbl i' hb'; omega
    · rw [hbx3 i hir] at hb
      by_cases hir' : i' = r
      · simp only [hir, hir', if_true, if_false] at e
        have := hcbl i hb; omega
      · rw [hbx3 i' hir'] at hb'
        simp only [hir, hir', if_false] at e
        exact h.bxd i i' hb hb' e
  · refine (h2.sl t).roots fun i c x hx => ?_
    have hi : i ≠ r := by rintro rfl; rw [cellAt_free hfree] at hx; cases hx
    simp only [St.fill]
    refine ⟨by rw [cellAt_set _ _ _ hr, if_neg hi]; exact hx, by simp only [hi, if_false], ?_⟩
    unfold adr; rw [hbx3 i hi]; simp only [hi, if_false]
  · have hir : i ≠ r := by omega
    have := h3.lent i hi
    simp only [St.fill, hbx4 i hir] at this
    simp only [St.fill, hbx3 i hir, hir, if_false] at this ⊢
    exact this
/-- Placeholders behind the roots. -/
theorem Inv.ext (h : Inv Z E st a w S vals fps cb) (k : Nat) : Inv Z E (st.ext k) a w S vals fps cb := by
  have hca : ∀ i c, Abs.cellAt (st.rt ++ List.replicate k []) i c = Abs.cellAt st.rt i c := by
    intro i c
    unfold Abs.cellAt
    by_cases hi : i < st.rt.length
    · rw [List.getElem?_append_left hi]
    · rw [List.getElem?_append_right (by omega), List.getElem?_eq_none (l := st.rt) (by omega), List.getElem?_replicate]
      split <;> simp
  have hbx : ∀ i, (st.bx ++ List.replicate k false).getD i false = st.bx.getD i false := by
    intro i
    rw [List.getD_eq_getElem?_getD, List.getD_eq_getElem?_getD]
    by_cases hi : i < st.bx.length
    · rw [List.getElem?_append_left hi]
    · rw [List.getElem?_append_right (by omega), List.getElem?_eq_none (l := st.bx) (by omega), List.getElem?_replicate]
      split <;> simp
  have had : adr (st.bx ++ List.replicate k false) cb = adr st.bx cb := by funext r c; unfold adr; rw [hbx]
  refine ⟨h.dfr, h.nt, h.fr, h.s0, h.slt, h.slf, h.sn, ⟨fun i c cell hc => h.rr.rc i c cell (by rw [← hca]; exact hc), fun i c hc => h.rr.out i c (by rw [← hca]; exact hc), h.rr.dj⟩, h.own, fun i cs hb hi => ?_, fun i hb => ?_, by simp [St.ext, h.bxn], fun i hb => ?_, fun i i' hb hb' => ?_, fun t => ?_, by simp only [St.ext, List.length_append]; have := h.lnl; omega, fun i hi => ?_⟩
  · simp only [St.ext, hbx] at hb
    have hlt := h.bxl i hb
    simp only [St.ext] at hi
    rw [List.getElem?_append_left hlt] at hi
    exact h.box i cs hb hi
  · simp only [St.ext, hbx] at hb; simp only [St.ext, List.length_append]; have := h.bxl i hb; omega
  · simp only [St.ext, hbx] at hb; exact h.bxS i hb
  · simp only [St.ext, hbx] at hb hb'; exact h.bxd i i' hb hb'
  · refine (h.sl t).roots fun i c x hx => ?_
    simp only [St.ext]
    exact ⟨by rw [hca]; exact hx, trivial, by rw [had]⟩
  · simp only [St.ext, hbx]; exact h.lent i hi
theorem setCell_heap (w : World) (x : Addr) (v : Value) (cur : Array Value) (ty : TypeId) (hs : x.spot = none) (h : w.heap[x.block]? = some (.cells cur ty (0, 0))) : (w.setCell x v).heap[x.block]? = some (.cells (cur.setIfInBounds x.off v) ty (0, 0)) := by
  simp only [World.setCell, Array.getElem?_modify, if_true, h, Option.map_some, hs]
  simp
/-- A store: what is in hand goes to a place. -/
theorem Inv.write (h : Inv Z E st a w S vals fps cb) {p : Path} {cell cell' : Cell} {x : Addr} {v' : Value} {fpc' : Nat → Prop} (hl : look st.rt p = some cell) (hx : (plc w st.rt vals (adr st.bx cb) p).2 = some x)
    (hrc : RC Z w S cell' v' fpc') (hfl : Flt E st fps cb fpc') :
    (∃ u, w.cell? x = some u) ∧ w.frozen? x = false ∧ ∃ vals' fps', Inv Z E (st.setAt p cell') a (w.setCell x v') S vals' fps' cb ∧ (cell.isOwn = false → Inv Z E (st.setSc p cell') a (w.setCell x v') S vals' fps' cb) ∧
      (∀ r c k, fps' r c k → fps r c k ∨ fpc' k) ∧
      ∀ av v, RA Z w S st.rt vals (adr st.bx cb) av v → RA Z (w.setCell x v') S (setc st.rt p cell') vals' (adr st.bx cb) (kill p av) v ∧ (cell.isOwn = false → RA Z (w.setCell x v') S (setc st.rt p cell') vals' (adr st.bx cb) av v) := by
  obtain ⟨cur, ty, g1, g2, g3⟩ := h.cellAt hl hx
  obtain ⟨fpc, h1, h2, h3⟩ := h.setAt hl
  have hxb : ∀ k, fpc' k → k ≠ x.block := by
    rintro k hk rfl
    rcases plc_addr p st.rt vals _ fps cell x h.rr hl hx with ⟨r, c, hp, hx2⟩ | ⟨r, c, _, _, hp, hk2⟩
    · unfold adr at hx2
      split at hx2
      · rename_i hb; cases hx2; exact hfl.nb _ hk r hb rfl
      · cases hx2
    · exact hfl.no _ hk r c hk2
  have hxS : ¬ S x.block := by
    rcases plc_addr p st.rt vals _ fps cell x h.rr hl hx with ⟨r, c, hp, hx2⟩ | ⟨r, c, _, _, hp, hk2⟩
    · unfold adr at hx2
      split at hx2
      · rename_i hb; cases hx2; exact (h.bxS r hb).1
      · cases hx2
    · exact h.rr.notS hk2
  have hO : SetOk Z E st w (w.setCell x v') S vals fps cb p fpc fpc' cell' v' := by
    refine ⟨?_, fun k hk => ⟨fun r c hk2 => absurd hk2 (hfl.no k hk r c), fun r hb => hfl.nb k hk r hb, hfl.own k hk⟩, rfl, rfl, rfl, by simp [World.setCell], fun k _ _ hk => Go.RowKit.Below.heap_setCell _ _ _ _ (hk x hx), fun y hy cur2 ty2 hh => ?_, fun r c hp hr hb => ?_⟩
    · exact hrc.frame (fun k hk => Go.RowKit.Below.heap_setCell _ _ _ _ fun e => hxS (e ▸ hk)) (fun k hk => Go.RowKit.Below.heap_setCell _ _ _ _ (hxb k hk)) (fun _ => id) fun k hk => hrc.notS k hk
    · rw [hx] at hy; cases hy; exact setCell_heap w x v' cur2 ty2 g3 hh
    · subst hp; simp only [plc_one, adr, hb] at hx; cases hx
  obtain ⟨fps', k1, k2, k3, k4⟩ := h3 _ _ _ _ hO
  refine ⟨⟨(plc w st.rt vals (adr st.bx cb) p).1, ?_⟩, ?_, _, fps', k1, k2, fun r c k hk => (k3 r c k hk).imp (fun h => h.1) id, k4⟩
  · unfold World.cell?; rw [g1]; simp only [g3]; exact g2
  · unfold World.frozen?; rw [g1]; simp
end
end Go.Abs

/- Slots; loads; what goes from slots into cells. -/
namespace Go.Abs
open Go
set_option linter.unusedVariables false
set_option linter.unusedSimpArgs false
variable {Z : TypeId → Nat}
def isAggD : TypeDesc → Bool
  | .struct _ | .array _ _ => true
  | _ => false
/-- Of a type: is it an aggregate; how many cells. -/
def tinfo (P : Program) (t : TypeId) : Option (Bool × Nat) :=
  match P.underlying t, P.info? t with
  | some d, some i => some (isAggD d, i.size)
  | _, _ => none
theorem tinfo_spec {P : Program} {t : TypeId} {ag : Bool} {n : Nat} (h : tinfo P t = some (ag, n)) : ∃ d i, P.underlying t = some d ∧ P.info? t = some i ∧ isAggD d = ag ∧ i.size = n := by
  unfold tinfo at h
  split at h
  · rename_i d i h1 h2; cases h; exact ⟨d, i, h1, h2, rfl, rfl⟩
  · cases h
theorem run_isAgg {P : Program} {w : World} {t : TypeId} {ag : Bool} {n : Nat} (h : tinfo P t = some (ag, n)) : (isAgg t).run P w = .ok ag w := by
  obtain ⟨d, i, h1, h2, h3, _⟩ := tinfo_spec h
  subst h3
  simp only [isAgg, Sem.run_bind, run_underlying h1, Result.andThen_ok]
  cases d <;> rfl
theorem run_sizeOf {P : Program} {w : World} {t : TypeId} {ag : Bool} {n : Nat} (h : tinfo P t = some (ag, n)) : (sizeOf t).run P w = .ok n w := by
  obtain ⟨d, i, h1, h2, _, h4⟩ := tinfo_spec h
  subst h4
  simp [sizeOf, typeInfo, h2]
section
variable {E : Ent} {st : St} {a : Act} {w w' : World} {S : Nat → Prop} {vals : Nat → Nat → Value} {fps : Nat → Nat → Nat → Prop} {cb : Nat → Nat}
def St.put (st : St) (dst : Option Nat) (av : AV) : St :=
  match dst with
  | some d => { st with sl := (d, av) :: st.sl }
  | none => st
def St.can (st : St) (dst : Option Nat) : Bool :=
  match dst with
  | some d => decide (d < st.nt)
  | none => true
theorem Inv.put (h : Inv Z E st a w S vals fps cb) {dst : Option Nat} {av : AV} {v : Value} (hd : st.can dst = true) (hv : RA Z w S st.rt vals (adr st.bx cb) av v) : Inv Z E (st.put dst av) (a.put dst v) w S vals fps cb := by
  cases dst with
  | none => exact h
  | some d =>
    simp only [St.can, decide_eq_true_eq] at hd
    refine ⟨h.dfr, by simp [St.put, Act.put, h.nt], h.fr, h.s0, h.slt, h.slf, h.sn, h.rr, h.own, h.box, h.bxl, h.bxn, h.bxS, h.bxd, fun t => ?_, h.lnl, h.lent⟩
    simp only [St.put, Act.put, getA]
    by_cases ht : d = t
    · subst ht
      have hlt : d < a.tmps.size := by rw [h.nt]; exact hd
      rw [if_pos rfl]
      simp only [Array.getD_eq_getD_getElem?, Array.getElem?_setIfInBounds, hlt, if_true, Option.getD_some]
      exact hv
    · rw [if_neg ht]
      have := h.sl t
      simp only [Array.getD_eq_getD_getElem?, Array.getElem?_setIfInBounds, ht, if_false] at this ⊢
      exact this
def bump : Path → Nat → Path
  | [], _ => []
  | [(i, c)], j => [(i, c + j)]
  | x :: y :: r, j => x :: bump (y :: r) j
theorem bump_cons (x y : Nat × Nat) (r : Path) (j : Nat) : bump (x :: y :: r) j = x :: bump (y :: r) j := rfl
theorem bump_ne (y : Nat × Nat) (r : Path) (j : Nat) : ∃ z s, bump (y :: r) j = z :: s := by
  cases r with
  | nil => exact ⟨_, _, rfl⟩
  | cons q r => exact ⟨_, _, rfl⟩
theorem plc_bump {w : World} : ∀ (p : Path) (es : Rows) (vals : Nat → Nat → Value) (ad : Nat → Nat → Option Addr) (j : Nat) (cell cell' : Cell) (x : Addr), look es p = some cell → (plc w es vals ad p).2 = some x →
    (∀ i c x, ad i c = some x → x.spot = none ∧ ∀ j, ad i (c + j) = some ⟨x.block, x.off + j, none⟩) → look es (bump p j) = some cell' → (plc w es vals ad (bump p j)).2 = some ⟨x.block, x.off + j, none⟩
  | [], _, _, _, _, _, _, _, hl, _, _, _ => by simp [look] at hl
  | [(i, c)], es, vals, ad, j, cell, cell', x, _, hx, had, _ => by
    simp only [plc_one] at hx
    simp only [bump, plc_one]
    exact (had i c x hx).2 j
  | (i, c) :: q :: p, es, vals, ad, j, cell, cell', x, hl, hx, had, hl2 => by
    obtain ⟨e, es', hc, hin⟩ := look_inv hl
    rw [plc_own vals ad q p hc] at hx
    rw [bump_cons] at hl2 ⊢
    obtain ⟨z, s, hz⟩ := bump_ne q p j
    have ih := plc_bump (q :: p) es' (rowVals w (vals i c) (width es')) (rowAd (vals i c) (width es')) j cell cell' x hin hx (fun i2 c2 x2 h2 => ?_) ?_
    · rw [hz] at ih ⊢; rw [plc_own vals ad z s hc]; exact ih
    · simp only [rowAd, Option.map_eq_some_iff] at h2 ⊢
      obtain ⟨g, hg, rfl⟩ := h2
      exact ⟨rfl, fun j => ⟨g, hg, by rw [Nat.add_assoc]⟩⟩
    · rw [hz] at hl2 ⊢; rw [look_own z s hc] at hl2; exact hl2
theorem adr_bump (bx : List Bool) (cb : Nat → Nat) : ∀ i c x, adr bx cb i c = some x → x.spot = none ∧ ∀ j, adr bx cb i (c + j) = some ⟨x.block, x.off + j, none⟩ := by
  intro i c x hx
  unfold adr at hx ⊢
  split at hx
  · rename_i hb
    cases hx
    exact ⟨rfl, fun j => by rw [if_pos hb]⟩
  · cases hx
theorem addr_add (x : Addr) (h : x.spot = none) (j : Nat) : x.add j = ⟨x.block, x.off + j, none⟩ := by
  unfold Addr.add
  split
  · rename_i hj; subst hj; cases x; simp_all
  · rfl
theorem Inv.cell (h : Inv Z E st a w S vals fps cb) {p : Path} {cell : Cell} {x : Addr} (hl : look st.rt p = some cell) (hx : (plc w st.rt vals (adr st.bx cb) p).2 = some x) : w.cell? x = some (plc w st.rt vals (adr st.bx cb) p).1 := by
  obtain ⟨cur, ty, g1, g2, g3⟩ := h.cellAt hl hx
  unfold World.cell?; rw [g1]; simp only [g3]; exact g2
def cellAV (p : Path) : Cell → AV
  | .sc v => .c (.sc v)
  | .row false e es => .c (.row false e es)
  | .row true _ es => .bor p 0 es.length
  | .hole => .dead
theorem sub_full {w : World} {e : TypeId} {sz n : Nat} {v : Value} {xs : List Value} (h : w.ownsRow 0 e sz v n xs) : subH sz v 0 n v := by
  rcases h.2 with ⟨rfl, rfl⟩ | ⟨g, cap, cur, rfl, _, _, hn, _⟩
  · exact .inl ⟨rfl, rfl, rfl, rfl⟩
  · exact .inr ⟨g, n, cap, rfl, by omega, .inl ⟨rfl, rfl⟩⟩
theorem Inv.cellAV (h : Inv Z E st a w S vals fps cb) {p : Path} {cell : Cell} (hl : look st.rt p = some cell) : RA Z w S st.rt vals (adr st.bx cb) (cellAV p cell) (plc w st.rt vals (adr st.bx cb) p).1 := by
  obtain ⟨fpc, h1, _⟩ := focus p st.rt vals (adr st.bx cb) fps cell h.rr hl
  cases cell with
  | sc v => simp only [Abs.cellAV]; cases h1 with | sc hs => exact .c (.sc hs)
  | hole => exact .dead
  | row o e es =>
    cases o with
    | false => simp only [Abs.cellAV]; cases h1 with | shr sz hz xs hs hsz hr => exact .c (.shr sz hz xs hs hsz hr)
    | true =>
      obtain ⟨sz, xs, fps', ho, hsz, _⟩ := own_inner h1
      exact .bor hl hsz (by omega) (sub_full ho)
def loadL (rt : Rows) (p : Path) : Nat → Nat → Option (List AV)
  | _, 0 => some []
  | j, n + 1 => match look rt (bump p j) with
    | some c => (loadL rt p (j + 1) n).map (cellAV (bump p j) c :: ·)
    | none => none
def loadA (st : St) (ag : Bool) (n : Nat) : AV → Option AV
  | .ptr p => if ag then (loadL st.rt p 0 n).map .agg else (look st.rt p).map (cellAV p)
  | .sptr cells off => if ag then (if off + n ≤ cells.length then some (.agg (((cells.drop off).take n).map .c)) else none) else (cells[off]?).map .c
  | _ => none
theorem loadL_ok (h : Inv Z E st a w S vals fps cb) {p : Path} {cell : Cell} {x : Addr} (hl : look st.rt p = some cell) (hx : (plc w st.rt vals (adr st.bx cb) p).2 = some x) :
    ∀ (n j : Nat) (xs : List AV), loadL st.rt p j n = some xs → ∃ vs : List Value, vs.length = n ∧ xs.length = n ∧ (∀ v ∈ vs, v.oneCell' = true) ∧ (∀ (i : Nat) v, vs[i]? = some v → w.cell? ⟨x.block, x.off + (j + i), none⟩ = some v) ∧
      (∀ (i : Nat) y v, xs[i]? = some y → vs[i]? = some v → RA Z w S st.rt vals (adr st.bx cb) y v)
  | 0, j, xs, hxs => by
    simp only [loadL, Option.some.injEq] at hxs
    subst hxs
    exact ⟨[], rfl, rfl, by simp, by simp, by simp⟩
  | n + 1, j, xs, hxs => by
    simp only [loadL] at hxs
    cases hb : look st.rt (bump p j) with
    | none => rw [hb] at hxs; cases hxs
    | some c =>
      rw [hb] at hxs
      simp only [Option.map_eq_some_iff] at hxs
      obtain ⟨ys, hys, rfl⟩ := hxs
      obtain ⟨vs, e1, e2, e3, e4, e5⟩ := loadL_ok h hl hx n (j + 1) ys hys
      have hxj := plc_bump p st.rt vals (adr st.bx cb) j cell c x hl hx (adr_bump _ _) hb
      obtain ⟨fpc, hrc, _⟩ := focus (bump p j) st.rt vals (adr st.bx cb) fps c h.rr hb
      refine ⟨(plc w st.rt vals (adr st.bx cb) (bump p j)).1 :: vs, by simp [e1], by simp [e2], fun v hv => ?_, fun i v hv => ?_, fun i y v hy hv => ?_⟩
      · rcases List.mem_cons.1 hv with rfl | hv
        · exact hrc.one
        · exact e3 v hv
      · cases i with
        | zero => simp only [List.getElem?_cons_zero, Option.some.injEq] at hv; subst hv; exact h.cell hb hxj
        | succ i =>
          simp only [List.getElem?_cons_succ] at hv
          have := e4 i v hv
          rwa [show j + 1 + i = j + (i + 1) by omega] at this
      · cases i with
        | zero =>
          simp only [List.getElem?_cons_zero, Option.some.injEq] at hy hv
          subst hy; subst hv
          exact h.cellAV hb
        | succ i => simp only [List.getElem?_cons_succ] at hy hv; exact e5 i y v hy hv
theorem spot_of (h : Inv Z E st a w S vals fps cb) {p : Path} {cell : Cell} {x : Addr} (hl : look st.rt p = some cell) (hx : (plc w st.rt vals (adr st.bx cb) p).2 = some x) : x.spot = none := by
  obtain ⟨_, _, _, _, h3⟩ := h.cellAt hl hx; exact h3
theorem load_ok {P : Program} (h : Inv Z E st a w S vals fps cb) {t : TypeId} {ag : Bool} {n : Nat} (ht : tinfo P t = some (ag, n)) {av r : AV} {v : Value} (ha : RA Z w S st.rt vals (adr st.bx cb) av v) (hr : loadA st ag n av = some r) :
    ∃ u, (Instr.loadAt t v).run P w = .ok u w ∧ RA Z w S st.rt vals (adr st.bx cb) r u := by
  have hrun : ∀ x : Addr, (Instr.loadAt t (.pointer (some x))).run P w = if ag then ((do pure (Value.agg (← loadCells x n)) : Sem Value).run P w) else (load x).run P w := by
    intro x
    simp only [Instr.loadAt, Instr.sureAddr, loadVar, Sem.run_bind, Sem.run_pure, Result.andThen_ok, run_isAgg ht]
    cases ag
    · rfl
    · simp [run_sizeOf ht]
  cases ha with
  | @ptr p cell x hl hx =>
    simp only [loadA] at hr
    rw [hrun]
    cases ag with
    | true =>
      simp only [if_true, Option.map_eq_some_iff] at hr ⊢
      obtain ⟨xs, hxs, rfl⟩ := hr
      obtain ⟨vs, e1, e2, e3, e4, e5⟩ := loadL_ok h hl hx n 0 xs hxs
      refine ⟨.agg vs.toArray, ?_, .agg (by omega) e3 e5⟩
      have hld : (loadCells x n).run P w = .ok vs.toArray w := by
        rw [← e1]
        refine run_loadCells_list w x vs fun j v hv => ?_
        rw [addr_add x (spot_of h hl hx)]
        have := e4 j v hv
        simpa using this
      simp [hld]
    | false =>
      simp only [Bool.false_eq_true, if_false, Option.map_eq_some_iff] at hr ⊢
      obtain ⟨c, hc, rfl⟩ := hr
      refine ⟨_, ?_, h.cellAV hc⟩
      have := h.cell hc (x := x) hx
      simp [load, Sem.run, this]
  | @sptr cells off b o cur ty fz hSb hb hrr ho =>
    simp only [loadA] at hr
    rw [hrun]
    have hcell : ∀ (j : Nat) c, cells[off + j]? = some c → ∃ v, w.cell? ⟨b, o + off + j, none⟩ = some v ∧ RC Z w S c v (fun _ => False) := by
      intro j c hc
      obtain ⟨v, h1, h2⟩ := hrr (off + j) c hc
      refine ⟨v, ?_, h2⟩
      unfold World.cell?
      rw [hb]
      simp only [Nat.add_assoc, Option.isSome_none, Bool.false_eq_true, if_false]
      exact h1
    cases ag with
    | true =>
      simp only [if_true] at hr ⊢
      split at hr
      · rename_i hn
        cases hr
        have hvs : ∀ m, off + m ≤ cells.length → ∃ vs : List Value, vs.length = m ∧ (∀ v ∈ vs, v.oneCell' = true) ∧ (∀ (j : Nat) v, vs[j]? = some v → w.cell? ⟨b, o + off + j, none⟩ = some v) ∧
            ∀ (j : Nat) c v, cells[off + j]? = some c → vs[j]? = some v → RC Z w S c v (fun _ => False) := by
          intro m
          induction m with
          | zero => exact fun _ => ⟨[], rfl, by simp, by simp, by simp⟩
          | succ m ih =>
            intro hm
            obtain ⟨vs, e1, e2, e3, e4⟩ := ih (by omega)
            obtain ⟨v, g1, g2⟩ := hcell m _ (List.getElem?_eq_getElem (show off + m < cells.length by omega))
            refine ⟨vs ++ [v], by simp [e1], fun u hu => ?_, fun j u hu => ?_, fun j c u hc hu => ?_⟩
            · rcases List.mem_append.1 hu with hu | hu
              · exact e2 u hu
              · simp only [List.mem_singleton] at hu; subst hu; exact g2.one
            · by_cases hj : j < vs.length
              · rw [List.getElem?_append_left hj] at hu; exact e3 j u hu
              · rw [List.getElem?_append_right (by omega)] at hu
                have : j = m := by
                  by_cases hjm : j - vs.length = 0
                  · omega
                  · rw [List.getElem?_eq_none (by simp; omega)] at hu; cases hu
                subst this
                simp only [e1, Nat.sub_self, List.getElem?_cons_zero, Option.some.injEq] at hu
                subst hu; exact g1
            · by_cases hj : j < vs.length
              · rw [List.getElem?_append_left hj] at hu; exact e4 j c u hc hu
              · rw [List.getElem?_append_right (by omega)] at hu
                have : j = m := by
                  by_cases hjm : j - vs.length = 0
                  · omega
                  · rw [List.getElem?_eq_none (by simp; omega)] at hu; cases hu
                subst this
                simp only [e1, Nat.sub_self, List.getElem?_cons_zero, Option.some.injEq] at hu
                subst hu
                rw [List.getElem?_eq_getElem (show off + j < cells.length by omega)] at hc
                cases hc; exact g2
        obtain ⟨vs, e1, e2, e3, e4⟩ := hvs n hn
        refine ⟨.agg vs.toArray, ?_, .agg (by simp [e1]; omega) e2 fun i y v hy hv => ?_⟩
        · have hld : (loadCells ⟨b, o + off, none⟩ n).run P w = .ok vs.toArray w := by
            rw [← e1]
            refine run_loadCells_list w _ vs fun j v hv => ?_
            rw [addr_add _ rfl]
            exact e3 j v hv
          simp [hld]
        · rw [List.getElem?_map] at hy
          cases hz : ((cells.drop off).take n)[i]? with
          | none => rw [hz] at hy; cases hy
          | some c =>
            rw [hz] at hy; cases hy
            rw [List.getElem?_take] at hz
            split at hz
            · rw [List.getElem?_drop] at hz; exact .c (e4 i c v hz hv)
            · cases hz
      · cases hr
    | false =>
      simp only [Bool.false_eq_true, if_false, Option.map_eq_some_iff] at hr ⊢
      obtain ⟨c, hc, rfl⟩ := hr
      obtain ⟨v, g1, g2⟩ := hcell 0 c hc
      refine ⟨v, ?_, .c g2⟩
      simp only [Nat.add_zero] at g1
      simp [load, Sem.run, g1]
  | c h => simp [loadA] at hr
  | nils => simp [loadA] at hr
  | bor _ _ _ _ => simp [loadA] at hr
  | agg _ _ _ => simp [loadA] at hr
  | tup _ _ => simp [loadA] at hr
  | fn _ _ _ _ => simp [loadA] at hr
  | dead => simp [loadA] at hr
end
end Go.Abs

/- What slots hold goes into cells: into a cell that stands (store), into new roots (box, literals). -/
namespace Go.Abs
open Go
set_option linter.unusedVariables false
set_option linter.unusedSimpArgs false
variable {Z : TypeId → Nat}
section
variable {E : Ent} {st : St} {a : Act} {w w' : World} {S : Nat → Prop} {vals : Nat → Nat → Value} {fps : Nat → Nat → Nat → Prop} {cb : Nat → Nat}
/-- One slot's value as a cell; what it owned is taken from its place (that path). 'e': the element type of a nil slice. -/
def absorb (e : TypeId) (st : St) : AV → Option (St × Cell × Path)
  | .c (.sc v) => some (st, .sc v, [])
  | .c (.row false e' es) => some (st, .row false e' es, [])
  | .nils => some (st, .row true e [], [])
  | .bor q lo len => match look st.rt q with
    | some (.row true e' es) => if lo = 0 then some (st.setAt q .hole, .row true e' (es.take len), q) else none
    | _ => none
  | _ => none
theorem owns_take {w : World} {e : TypeId} {sz n m : Nat} {v v' : Value} {xs : List Value} (ho : w.ownsRow 0 e sz v n xs) (hm : m ≤ n) (hs : subH sz v 0 m v') : w.ownsRow 0 e sz v' m (xs.take (m * sz)) ∧ (∀ g, v'.ownBlock = some g → v.ownBlock = some g) := by
  rcases hs with ⟨rfl, rfl, _, rfl⟩ | ⟨g, n', cap, rfl, hle, hs⟩
  · exact ⟨⟨by simp, .inl ⟨rfl, rfl⟩⟩, fun g hg => hg⟩
  · rcases hs with ⟨_, rfl⟩ | ⟨hlo, _⟩
    · refine ⟨⟨?_, ?_⟩, fun g hg => hg⟩
      · rw [List.length_take, ho.1, Nat.min_eq_left (Nat.mul_le_mul_right _ hm)]
      · rcases ho.2 with ⟨hh, _⟩ | ⟨g2, cap2, cur, hh, hb, hg, hnc, hcm, hcs, htake⟩
        · cases hh
        · cases hh
          refine .inr ⟨g, cap, cur, rfl, hb, hg, by omega, hcm, hcs, ?_⟩
          rw [← htake, List.take_take, Nat.min_eq_left (Nat.mul_le_mul_right _ hm)]
    · omega
theorem cellAt_take {es : Rows} {m i c : Nat} {cell : Cell} (h : cellAt (es.take m) i c = some cell) : cellAt es i c = some cell := by
  unfold cellAt at *
  rw [List.getElem?_take] at h
  split at h
  · exact h
  · cases h
theorem RC.take {w : World} {S : Nat → Prop} {e : TypeId} {es : Rows} {v v' : Value} {fp : Nat → Prop} {sz m : Nat} (h : RC Z w S (.row true e es) v fp) (hm : m ≤ es.length) (hs : subH sz v 0 m v') :
    ∃ fp', RC Z w S (.row true e (es.take m)) v' fp' ∧ ∀ k, fp' k → fp k := by
  cases h with
  | own sz' hz xs fps ho hsz hr hout hd hg =>
    have hs' : subH sz' v 0 m v' := by
      rcases hs with h0 | ⟨g, n', cap, hv, hle, h1 | ⟨h1, _⟩⟩
      · exact .inl h0
      · exact .inr ⟨g, n', cap, hv, hle, .inl h1⟩
      · omega
    obtain ⟨ho', hgs⟩ := owns_take ho hm hs'
    refine ⟨_, .own sz' hz _ (fun i c k => if (cellAt (es.take m) i c).isSome then fps i c k else False) (by rw [List.length_take, Nat.min_eq_left hm]; exact ho') (fun x hx => hsz x (List.mem_of_mem_take hx)) (fun i c cell hc => ?_) (fun i c hc k => ?_) (fun i c i' c' k h1 h2 => ?_) fun g hgg => ⟨(hg g (hgs g hgg)).1, fun i c hk => ?_⟩, fun k hk => ?_⟩
    · have := hr i c cell (cellAt_take hc)
      have heq : (fun k => if (cellAt (es.take m) i c).isSome = true then fps i c k else False) = fps i c := by funext k; simp [hc]
      rw [heq]
      have hlv : lv (xs.take (m * sz')) sz' i c = lv xs sz' i c := by
        obtain ⟨hi, hcs⟩ := cellAt_col (fun x hx => hsz x (List.mem_of_mem_take hx)) hc
        rw [List.length_take, Nat.min_eq_left hm] at hi
        unfold lv
        rw [List.getD_eq_getElem?_getD, List.getD_eq_getElem?_getD, List.getElem?_take, if_pos]
        have h1 : (i + 1) * sz' ≤ m * sz' := Nat.mul_le_mul_right _ hi
        rw [Nat.add_mul, Nat.one_mul] at h1
        omega
      rw [hlv]; exact this
    · simp [hc]
    · split at h1
      · split at h2
        · exact hd _ _ _ _ _ h1 h2
        · exact h2.elim
      · exact h1.elim
    · split at hk
      · exact (hg g (hgs g hgg)).2 i c hk
      · exact hk
    · rcases hk with hk | ⟨i, c, hk⟩
      · exact .inl (hgs k hk)
      · split at hk
        · exact .inr ⟨i, c, hk⟩
        · exact hk.elim
theorem Flt.mono {fp fp' : Nat → Prop} {st' : St} {fps' : Nat → Nat → Nat → Prop} (h : Flt E st fps cb fp) (hf : ∀ k, fp' k → fp k) (hfp : ∀ r c k, fps' r c k → fps r c k) (hb : st'.bx = st.bx) : Flt E st' fps' cb fp' :=
  ⟨fun k hk r c hk2 => h.no k (hf k hk) r c (hfp r c k hk2), fun k hk r hbr => h.nb k (hf k hk) r (by rw [← hb]; exact hbr), fun k hk => h.own k (hf k hk)⟩
/-- What is known behind an absorbed value. -/
structure Abd (Z : TypeId → Nat) (E : Ent) (st st' : St) (a : Act) (w : World) (S : Nat → Prop) (vals : Nat → Nat → Value) (fps fps' : Nat → Nat → Nat → Prop) (cb : Nat → Nat) (tr : AV → AV) : Prop where
  inv : Inv Z E st' a w S vals fps' cb
  sub : ∀ r c k, fps' r c k → fps r c k
  bx : st'.bx = st.bx
  tr : ∀ av v, RA Z w S st.rt vals (adr st.bx cb) av v → RA Z w S st'.rt vals (adr st'.bx cb) (tr av) v
theorem clash_nil (q : Path) : clash [] q = false := by cases q <;> rfl
mutual
theorem kill_nil : ∀ av, kill [] av = av
  | .ptr q => by simp [kill, clash_nil]
  | .bor q lo len => by simp [kill, clash_nil]
  | .agg xs => by simp only [kill, killL_nil xs]
  | .tup xs => by simp only [kill, killL_nil xs]
  | .fn f xs ys => by simp only [kill, killL_nil xs, killL_nil ys]
  | .c c => by simp [kill]
  | .nils => by simp [kill]
  | .sptr cs o => by simp [kill]
  | .nb cs => by simp [kill]
  | .dead => by simp [kill]
theorem killL_nil : ∀ l, killL [] l = l
  | [] => by simp [killL]
  | x :: r => by simp only [killL, kill_nil x, killL_nil r]
end
theorem absorb_ok (h : Inv Z E st a w S vals fps cb) {e : TypeId} {av : AV} {v : Value} {st' : St} {cell : Cell} {q : Path} (ha : RA Z w S st.rt vals (adr st.bx cb) av v) (hb : absorb e st av = some (st', cell, q)) :
    ∃ fps' fp, Abd Z E st st' a w S vals fps fps' cb (kill q) ∧ RC Z w S cell v fp ∧ Flt E st' fps' cb fp ∧ (∀ k, fp k → ∃ r c, fps r c k) := by
  have triv : ∀ (c : Cell), RC Z w S c v (fun _ => False) → ∃ fps' fp, Abd Z E st st a w S vals fps fps' cb (kill []) ∧ RC Z w S c v fp ∧ Flt E st fps' cb fp ∧ (∀ k, fp k → ∃ r c, fps r c k) := fun c hc =>
    ⟨fps, _, ⟨h, fun _ _ _ => id, rfl, fun av v h => by rw [kill_nil]; exact h⟩, hc, ⟨fun _ h => h.elim, fun _ h => h.elim, fun _ h => h.elim⟩, fun _ h => h.elim⟩
  cases ha with
  | @c c0 v hc =>
    cases c0 with
    | sc u => simp only [absorb, Option.some.injEq, Prod.mk.injEq] at hb; obtain ⟨rfl, rfl, rfl⟩ := hb; exact triv _ hc
    | hole => simp [absorb] at hb
    | row o e' es =>
      cases o with
      | true => simp [absorb] at hb
      | false => simp only [absorb, Option.some.injEq, Prod.mk.injEq] at hb; obtain ⟨rfl, rfl, rfl⟩ := hb; exact triv _ hc
  | nils =>
    simp only [absorb, Option.some.injEq, Prod.mk.injEq] at hb
    obtain ⟨rfl, rfl, rfl⟩ := hb
    refine ⟨fps, _, ⟨h, fun _ _ _ => id, rfl, fun av v h => by rw [kill_nil]; exact h⟩, .own (es := []) (Z e) rfl [] (fun _ _ _ => False) (World.ownsRow_nil _ _ _ _) (by simp) (fun i c cell hc => by simp [cellAt] at hc) (fun _ _ _ _ h => h.elim) (fun _ _ _ _ _ h => h.elim) (fun g hg => by simp [Value.ownBlock] at hg), ⟨?_, ?_, ?_⟩, ?_⟩ <;> rintro k (hk | ⟨_, _, hk⟩) <;> first | exact hk.elim | simp [Value.ownBlock] at hk
  | @bor q2 e2 es sz lo len v hl hsz hlen hs =>
    simp only [absorb, hl] at hb
    split at hb
    · rename_i hlo
      subst hlo
      simp only [Option.some.injEq, Prod.mk.injEq] at hb
      obtain ⟨rfl, rfl, rfl⟩ := hb
      obtain ⟨fps', fpc, h1, h2, h3, h4, h5, h6⟩ := h.take hl
      obtain ⟨fp', h7, h8⟩ := h2.take (by omega) hs
      exact ⟨fps', fp', ⟨h1, h4, rfl, fun av v hav => h6 av v hav⟩, h7, h3.mono h8 (fun _ _ _ => id) rfl, fun k hk => h5 k (h8 k hk)⟩
    · cases hb
  | ptr _ _ => simp [absorb] at hb
  | sptr _ _ _ _ => simp [absorb] at hb
  | agg _ _ _ => simp [absorb] at hb
  | tup _ _ => simp [absorb] at hb
  | fn _ _ _ _ => simp [absorb] at hb
  | dead => simp [absorb] at hb
/-- What a taken path does to the values that wait. -/
def trq (q : Path) (tr : AV → AV) : AV → AV :=
  match q with
  | [] => tr
  | x :: r => fun y => kill (x :: r) (tr y)
theorem trq_eq (q : Path) (tr : AV → AV) (y : AV) : trq q tr y = kill q (tr y) := by
  cases q with
  | nil => rw [kill_nil]; rfl
  | cons x r => rfl
/-- Slots' values as cells, one behind the other ('es': the nil slices' element types). -/
def absorbL : List TypeId → St → (AV → AV) → List AV → Option (St × List Cell)
  | _, st, _, [] => some (st, [])
  | es, st, tr, x :: xs => match absorb (es.headD 0) st (tr x) with
    | some (st1, cell, q) => match absorbL es.tail st1 (trq q tr) xs with
      | some (st2, cells) => some (st2, cell :: cells)
      | none => none
    | none => none
theorem absorbL_ok : ∀ (xs : List AV) (es : List TypeId) (st st' : St) (tr0 : AV → AV) (vs : List Value) (fps : Nat → Nat → Nat → Prop) (cells : List Cell), Inv Z E st a w S vals fps cb → xs.length = vs.length →
    (∀ (i : Nat) x v, xs[i]? = some x → vs[i]? = some v → RA Z w S st.rt vals (adr st.bx cb) (tr0 x) v) → absorbL es st tr0 xs = some (st', cells) →
    ∃ (fps' : Nat → Nat → Nat → Prop) (tr : AV → AV) (fp : Nat → Nat → Prop), Abd Z E st st' a w S vals fps fps' cb tr ∧ cells.length = xs.length ∧ (∀ (i : Nat) c v, cells[i]? = some c → vs[i]? = some v → RC Z w S c v (fp i)) ∧ (∀ i, cells.length ≤ i → ∀ k, ¬ fp i k) ∧
      (∀ i j k, fp i k → fp j k → i = j) ∧ (∀ i, Flt E st' fps' cb (fp i)) ∧ (∀ i k, fp i k → ∃ r c, fps r c k)
  | [], es, st, st', tr0, vs, fps, cells, h, hln, _, hb => by
    simp only [absorbL, Option.some.injEq, Prod.mk.injEq] at hb
    obtain ⟨rfl, rfl⟩ := hb
    exact ⟨fps, id, fun _ _ => False, ⟨h, fun _ _ _ => id, rfl, fun av v h => h⟩, rfl, by simp, fun _ _ _ h => h, fun _ _ _ h => h.elim, fun _ => ⟨fun _ h => h.elim, fun _ h => h.elim, fun _ h => h.elim⟩, fun _ _ h => h.elim⟩
  | x :: xs, es, st, st', tr0, [], fps, cells, h, hln, _, hb => by simp at hln
  | x :: xs, es, st, st', tr0, v :: vs, fps, cells, h, hln, hra, hb => by
    simp only [absorbL] at hb
    split at hb
    · rename_i st1 cell q h1
      split at hb
      · rename_i st2 cells2 h2
        cases hb
        obtain ⟨fps1, fp1, A1, c1, f1, s1⟩ := absorb_ok h (hra 0 x v rfl rfl) h1
        obtain ⟨fps2, tr2, fp2, A2, n2, c2, o2, d2, f2, s2⟩ := absorbL_ok xs es.tail st1 st' (trq q tr0) vs fps1 cells2 A1.inv (by simpa using hln) (fun i y u hy hu => by
          rw [trq_eq]
          exact A1.tr _ u (hra (i + 1) y u (by simpa using hy) (by simpa using hu))) h2
        refine ⟨fps2, fun av => tr2 (kill q av), fun i k => match i with | 0 => fp1 k | i + 1 => fp2 i k, ⟨A2.inv, fun r c k hk => A1.sub r c k (A2.sub r c k hk), A2.bx.trans A1.bx, fun av u hav => A2.tr _ u (A1.tr av u hav)⟩, by simp [n2], fun i c u hc hu => ?_, fun i hi k => ?_, fun i j k hi hj => ?_, fun i => ?_, fun i k hk => ?_⟩
        · cases i with
          | zero => simp only [List.getElem?_cons_zero, Option.some.injEq] at hc hu; subst hc; subst hu; exact c1
          | succ i => simp only [List.getElem?_cons_succ] at hc hu; exact c2 i c u hc hu
        · cases i with
          | zero => simp at hi
          | succ i => exact o2 i (by simp at hi; omega) k
        · cases i with
          | zero =>
            cases j with
            | zero => rfl
            | succ j => obtain ⟨r, c, hk⟩ := s2 j k hj; exact absurd hk (f1.no k hi r c)
          | succ i =>
            cases j with
            | zero => obtain ⟨r, c, hk⟩ := s2 i k hi; exact absurd hk (f1.no k hj r c)
            | succ j => rw [d2 i j k hi hj]
        · cases i with
          | zero => exact f1.mono (fun _ => id) A2.sub A2.bx
          | succ i => exact f2 i
        · cases i with
          | zero => exact s1 k hk
          | succ i => obtain ⟨r, c, hk⟩ := s2 i k hk; exact ⟨r, c, A1.sub r c k hk⟩
      · cases hb
    · cases hb
end
end Go.Abs

/- Operations that write or make memory: store, box, alloc. -/
namespace Go.Abs
open Go
set_option linter.unusedVariables false
set_option linter.unusedSimpArgs false
variable {Z : TypeId → Nat}
def constAV (v : Value) : AV :=
  match v with
  | .slice none 0 0 => .nils
  | v => if isSc v then .c (.sc v) else .dead
def evA (st : St) : Operand → AV
  | .tmp t => getA st.sl t
  | .const v => constAV v
  | .global _ => .dead
  | .func f => .fn f [] []
section
variable {E : Ent} {st : St} {a : Act} {w w' : World} {S : Nat → Prop} {vals : Nat → Nat → Value} {fps : Nat → Nat → Nat → Prop} {cb : Nat → Nat}
theorem constAV_ok {es : Rows} {ad : Nat → Nat → Option Addr} (v : Value) : RA Z w S es vals ad (constAV v) v := by
  unfold constAV
  split
  · exact .nils
  · split
    · rename_i hs; exact .c (.sc hs)
    · exact .dead
theorem Inv.eval (h : Inv Z E st a w S vals fps cb) (o : Operand) : RA Z w S st.rt vals (adr st.bx cb) (evA st o) (a.eval o) := by
  cases o with
  | tmp t => simpa [evA, Act.eval, Array.getD_eq_getD_getElem?] using h.sl t
  | const v => exact constAV_ok v
  | global g => exact .dead
  | func f => exact RA.fn (vs := []) (us := []) rfl rfl (by simp) (by simp)
/-! ### Stores -/
def alive (q p : Path) : Bool := !(clash q p && decide (q.length < p.length))
def St.wr (st : St) (p : Path) (old cell : Cell) : St := if old.isOwn then st.setAt p cell else st.setSc p cell
def trw (p : Path) (old : Cell) (tr : AV → AV) : AV → AV := if old.isOwn then trq p tr else tr
def storeL (p : Path) : List TypeId → Nat → St → (AV → AV) → List AV → Option St
  | _, _, st, _, [] => some st
  | es, j, st, tr, x :: xs => match absorb (es.headD 0) st (tr x) with
    | some (st1, cell, q) => match look st1.rt (bump p j) with
      | some old => if alive q p then storeL p es.tail (j + 1) (st1.wr (bump p j) old cell) (trw (bump p j) old (trq q tr)) xs else none
      | none => none
    | none => none
theorem alive_kill {q p : Path} (h : alive q p = true) : kill q (.ptr p) = .ptr p := by
  unfold alive at h
  simp only [kill]
  cases hc : (clash q p && decide (q.length < p.length))
  · simp
  · rw [hc] at h; cases h
theorem bump_len : ∀ (p : Path) (j : Nat), (bump p j).length = p.length
  | [], _ => rfl
  | [(_, _)], _ => rfl
  | _ :: y :: r, j => by simp [bump_cons, bump_len (y :: r) j]
theorem kill_bump (p : Path) (j : Nat) : kill (bump p j) (.ptr p) = .ptr p := by
  simp [kill, bump_len]
theorem look_bump0 : ∀ (p : Path), bump p 0 = p
  | [] => rfl
  | [(_, _)] => rfl
  | x :: y :: r => by rw [bump_cons, look_bump0 (y :: r)]
theorem store_run {P : Program} {w : World} {x : Addr} {v u : Value} (h1 : v.oneCell' = true) (hc : w.cell? x = some u) (hf : w.frozen? x = false) : (store x v).run P w = .ok () (w.setCell x v) := by
  cases v <;> simp_all [store, Sem.run, Value.oneCell']
theorem storeL_ok {P : Program} {p : Path} {x : Addr} (hspot : x.spot = none) : ∀ (xs : List AV) (es : List TypeId) (j : Nat) (st st' : St) (tr : AV → AV) (vs : List Value) (w : World) (vals : Nat → Nat → Value) (fps : Nat → Nat → Nat → Prop), Inv Z E st a w S vals fps cb → xs.length = vs.length →
    (∀ (i : Nat) y v, xs[i]? = some y → vs[i]? = some v → RA Z w S st.rt vals (adr st.bx cb) (tr y) v) → RA Z w S st.rt vals (adr st.bx cb) (.ptr p) (.pointer (some x)) → storeL p es j st tr xs = some st' →
    ∃ w' vals' fps', (storeCells x vs j).run P w = .ok () w' ∧ Inv Z E st' a w' S vals' fps' cb
  | [], es, j, st, st', tr, vs, w, vals, fps, h, hln, _, _, hb => by
    simp only [storeL, Option.some.injEq] at hb
    subst hb
    have : vs = [] := List.eq_nil_of_length_eq_zero (by simpa using hln.symm)
    subst this
    exact ⟨w, vals, fps, rfl, h⟩
  | y :: xs, es, j, st, st', tr, [], w, vals, fps, h, hln, _, _, hb => by simp at hln
  | y :: xs, es, j, st, st', tr, v :: vs, w, vals, fps, h, hln, hra, hp, hb => by
    simp only [storeL] at hb
    split at hb
    · rename_i st1 cell q h1
      split at hb
      · rename_i old h2
        split at hb
        · rename_i hal
          obtain ⟨fps1, fp1, A1, c1, f1, s1⟩ := absorb_ok h (hra 0 y v rfl rfl) h1
          have hp1 := A1.tr _ _ hp
          rw [alive_kill hal] at hp1
          cases hp1 with
          | @ptr _ pc _ hpl hpx =>
            have hxj := plc_bump p st1.rt vals (adr st1.bx cb) j pc old x hpl hpx (adr_bump _ _) h2
            obtain ⟨⟨u, hu⟩, hfz, vals2, fps2, k1, k2, k3, k4⟩ := A1.inv.write h2 hxj c1 f1
            have hadd : x.add j = ⟨x.block, x.off + j, none⟩ := addr_add x hspot j
            have hst : (store (x.add j) v).run P w = .ok () (w.setCell ⟨x.block, x.off + j, none⟩ v) := by rw [hadd]; exact store_run c1.one hu hfz
            have hI2 : Inv Z E (st1.wr (bump p j) old cell) a (w.setCell ⟨x.block, x.off + j, none⟩ v) S vals2 fps2 cb := by
              unfold St.wr
              split
              · exact k1
              · rename_i hno; exact k2 (by simpa using hno)
            have htr : ∀ av u, RA Z w S st1.rt vals (adr st1.bx cb) av u → RA Z (w.setCell ⟨x.block, x.off + j, none⟩ v) S (st1.wr (bump p j) old cell).rt vals2 (adr (st1.wr (bump p j) old cell).bx cb) (if old.isOwn then kill (bump p j) av else av) u := by
              intro av u hav
              unfold St.wr
              split
              · exact (k4 av u hav).1
              · rename_i hno; exact (k4 av u hav).2 (by simpa using hno)
            obtain ⟨w3, vals3, fps3, r3, i3⟩ := storeL_ok (P := P) hspot xs es.tail (j + 1) _ st' _ vs _ vals2 fps2 hI2 (by simpa using hln) (fun i z u hz hu2 => by
              have := htr _ u (A1.tr _ u (hra (i + 1) z u (by simpa using hz) (by simpa using hu2)))
              unfold trw
              split
              · rename_i ho; rw [if_pos ho] at this; rw [trq_eq, trq_eq]; exact this
              · rename_i ho; rw [if_neg ho] at this; rw [trq_eq]; exact this) (by
              have := htr _ _ (RA.ptr (vals := vals) hpl hpx)
              rw [kill_bump, ite_self] at this
              exact this) hb
            refine ⟨w3, vals3, fps3, ?_, i3⟩
            simp only [storeCells, Sem.run_bind, hst, Result.andThen_ok]
            exact r3
        · cases hb
      · cases hb
    · cases hb
/-- The nil slices' element types of a type's cells. -/
def cellEs (P : Program) : Nat → TypeId → List TypeId
  | 0, _ => []
  | d + 1, t => match P.underlying t with
    | some (.struct fs) => fs.toList.flatMap fun f => cellEs P d f.type
    | some (.array n e) => (List.replicate n (cellEs P d e)).flatten
    | some (.slice e) => [e]
    | _ => [0]
def cellE (P : Program) (t : TypeId) : List TypeId := cellEs P 8 t
def storeA (P : Program) (st : St) (t : TypeId) (pv xv : AV) : Option St :=
  match pv with
  | .ptr p => match tinfo P t with
    | some (true, n) => match xv with
      | .agg xs => if xs.length = n then storeL p (cellE P t) 0 st id xs else none
      | _ => none
    | some (false, n) => if n = 1 then storeL p (cellE P t) 0 st id [xv] else none
    | none => none
  | _ => none
theorem oneCell_cells {v : Value} (h : v.oneCell' = true) : v.cells = #[v] := by cases v <;> simp_all [Value.cells, Value.oneCell']
theorem absorb_one {e : TypeId} {av : AV} {v : Value} {r : St × Cell × Path} {es : Rows} {ad : Nat → Nat → Option Addr} (ha : RA Z w S es vals ad av v) (hb : absorb e st av = some r) : v.oneCell' = true := by
  cases ha with
  | c h => exact h.one
  | nils => rfl
  | bor hl hsz hlen hs => rcases hs with ⟨_, rfl, _⟩ | ⟨_, _, _, _, _, ⟨_, rfl⟩ | ⟨_, _, _, rfl, _⟩⟩ <;> rfl
  | ptr _ _ => rfl
  | sptr _ _ _ _ => rfl
  | agg _ _ _ => simp [absorb] at hb
  | tup _ _ => simp [absorb] at hb
  | fn _ _ _ _ => rfl
  | dead => simp [absorb] at hb
theorem storeA_ok {P : Program} (h : Inv Z E st a w S vals fps cb) {t : TypeId} {pv xv : AV} {pu xu : Value} {st' : St} (hp : RA Z w S st.rt vals (adr st.bx cb) pv pu) (hx : RA Z w S st.rt vals (adr st.bx cb) xv xu) (hb : storeA P st t pv xv = some st') :
    ∃ w' vals' fps', (Instr.storeAt t pu xu).run P w = .ok () w' ∧ Inv Z E st' a w' S vals' fps' cb := by
  cases hp with
  | @ptr p pc x hl hxx =>
    have hspot := spot_of h hl hxx
    have hptr : RA Z w S st.rt vals (adr st.bx cb) (.ptr p) (.pointer (some x)) := .ptr hl hxx
    simp only [storeA] at hb
    split at hb
    · rename_i n ht
      cases hx with
      | @agg xs vs hln h1 hra =>
        simp only at hb
        split at hb
        · rename_i hn
          obtain ⟨w', vals', fps', r, i⟩ := storeL_ok (P := P) hspot xs (cellE P t) 0 st st' id vs w vals fps h hln hra hptr hb
          refine ⟨w', vals', fps', ?_, i⟩
          have hsz : vs.length = n := by omega
          simp only [Instr.storeAt, Instr.sureAddr, storeVar, Sem.run_bind, Sem.run_pure, Result.andThen_ok, run_sizeOf ht, Value.cells, List.size_toArray, hsz, ne_eq, not_true_eq_false, if_false]
          exact r
        · cases hb
      | _ => simp at hb
    · rename_i n ht
      split at hb
      · rename_i hn
        have h1 : xu.oneCell' = true := by
          simp only [storeL, id] at hb
          split at hb
          · rename_i h1; exact absorb_one hx h1
          · cases hb
        obtain ⟨w', vals', fps', r, i⟩ := storeL_ok (P := P) hspot [xv] (cellE P t) 0 st st' id [xu] w vals fps h rfl (fun i y v hy hv => by
          cases i with
          | zero => simp only [List.getElem?_cons_zero, Option.some.injEq] at hy hv; subst hy; subst hv; exact hx
          | succ i => simp at hy) hptr hb
        refine ⟨w', vals', fps', ?_, i⟩
        subst hn
        simp only [Instr.storeAt, Instr.sureAddr, storeVar, Sem.run_bind, Sem.run_pure, Result.andThen_ok, run_sizeOf ht, oneCell_cells h1, List.size_toArray, List.length_cons, List.length_nil, ne_eq, not_true_eq_false, if_false]
        exact r
      · cases hb
    · cases hb
  | _ => simp [storeA] at hb
/-! ### New blocks -/
def avCells : AV → List AV
  | .agg xs => xs
  | x => [x]
def boxA (P : Program) (st : St) (nid : Nat) (t : TypeId) (xv : AV) : Option (AV × St) :=
  match absorbL (cellE P t) st id (avCells xv) with
  | some (st1, c :: cells) => some (.ptr [(nid, 0)], st1.fill nid (c :: cells) true)
  | _ => none
theorem free_set {p : Path} {x : Cell} {r : Nat} (hf : st.rt[r]? = some []) : (setc st.rt p x)[r]? = some [] := by
  have hput : ∀ (es : Rows) (i c : Nat) (x : Cell), es[r]? = some [] → (put1 es i c x)[r]? = some [] := by
    intro es i c x h
    unfold put1
    rw [List.getElem?_modify, h]
    simp
  cases p with
  | nil => exact hf
  | cons ic p =>
    obtain ⟨i, c⟩ := ic
    cases p with
    | nil => rw [setc_one]; exact hput _ _ _ _ hf
    | cons q p =>
      rw [setc]
      split
      · exact hput _ _ _ _ hf
      · exact hf
theorem absorb_free {e : TypeId} {av : AV} {st' : St} {cell : Cell} {q : Path} {r : Nat} (hb : absorb e st av = some (st', cell, q)) (hf : st.free r) : st'.free r := by
  cases av with
  | c c0 =>
    cases c0 with
    | sc v => simp only [absorb, Option.some.injEq, Prod.mk.injEq] at hb; rw [← hb.1]; exact hf
    | hole => simp [absorb] at hb
    | row o e' es => cases o <;> simp only [absorb, Option.some.injEq, Prod.mk.injEq] at hb; · rw [← hb.1]; exact hf
                     · cases hb
  | nils => simp only [absorb, Option.some.injEq, Prod.mk.injEq] at hb; rw [← hb.1]; exact hf
  | bor q2 lo len =>
    simp only [absorb] at hb
    split at hb
    · split at hb
      · simp only [Option.some.injEq, Prod.mk.injEq] at hb; rw [← hb.1]; exact ⟨free_set hf.1, hf.2⟩
      · cases hb
    · cases hb
  | _ => simp [absorb] at hb
theorem absorbL_free {r : Nat} : ∀ (xs : List AV) (es : List TypeId) (st st' : St) (tr : AV → AV) (cells : List Cell), absorbL es st tr xs = some (st', cells) → st.free r → st'.free r
  | [], _, _, _, _, _, hb, hf => by simp only [absorbL, Option.some.injEq, Prod.mk.injEq] at hb; rw [← hb.1]; exact hf
  | x :: xs, es, st, st', tr, cells, hb, hf => by
    simp only [absorbL] at hb
    split at hb
    · rename_i st1 cell q h1
      split at hb
      · rename_i st2 cells2 h2
        cases hb
        exact absorbL_free xs es.tail st1 st' _ cells2 h2 (absorb_free h1 hf)
      · cases hb
    · cases hb
theorem boxA_ok {P : Program} (h : Inv Z E st a w S vals fps cb) {nid : Nat} {t : TypeId} {xv av : AV} {xu : Value} {st' : St} (hf : st.free nid) (hnl : E.nl ≤ nid) (hx : RA Z w S st.rt vals (adr st.bx cb) xv xu) (hb : boxA P st nid t xv = some (av, st')) :
    ∃ u w' vals' fps' cb', (Instr.box t xu).run P w = .ok u w' ∧ Inv Z E st' a w' S vals' fps' cb' ∧ RA Z w' S st'.rt vals' (adr st'.bx cb') av u := by
  have hvs : ∃ vs : List Value, xu.cells = vs.toArray ∧ (avCells xv).length = vs.length ∧ ∀ (i : Nat) x v, (avCells xv)[i]? = some x → vs[i]? = some v → RA Z w S st.rt vals (adr st.bx cb) x v := by
    by_cases hag : ∃ xs, xv = .agg xs
    · obtain ⟨xs, rfl⟩ := hag
      cases hx with
      | agg hln h1 hra => exact ⟨_, rfl, hln, hra⟩
    · have hone : avCells xv = [xv] := by cases xv <;> first | rfl | exact absurd ⟨_, rfl⟩ hag
      have h1 : xu.oneCell' = true := by
        unfold boxA at hb
        rw [hone] at hb
        simp only [absorbL, id] at hb
        split at hb
        · rename_i hh
          split at hh
          · rename_i h3; exact absorb_one hx h3
          · cases hh
        · cases hb
      refine ⟨[xu], oneCell_cells h1, by rw [hone]; rfl, fun i x v hxx hv => ?_⟩
      rw [hone] at hxx
      cases i with
      | zero => simp only [List.getElem?_cons_zero, Option.some.injEq] at hxx hv; subst hxx; subst hv; exact hx
      | succ i => simp at hxx
  obtain ⟨vs, hcells, hln, hra⟩ := hvs
  unfold boxA at hb
  split at hb
  · rename_i st1 c cells h1
    simp only [Option.some.injEq, Prod.mk.injEq] at hb
    obtain ⟨rfl, rfl⟩ := hb
    obtain ⟨fps1, tr, fp, A, n1, c1, o1, d1, f1, s1⟩ := absorbL_ok _ _ st st1 id vs fps (c :: cells) h hln hra h1
    have hf1 := absorbL_free _ _ _ _ _ _ h1 hf
    have hI := A.inv.fillBox hf1 hnl (c :: cells) vs.toArray t fp (by simp only [List.size_toArray]; omega) (fun i cell v hc hv => c1 i cell v hc (by simpa using hv)) o1 (fun i j k hi hj => d1 i j k hi hj) f1
    refine ⟨.pointer (some ⟨w.heap.size, 0, none⟩), _, _, _, _, ?_, hI, ?_⟩
    · simp [Instr.box, newVar, newRow, hcells]
    · have hr : nid < st1.rt.length := (List.getElem?_eq_some_iff.1 hf1.1).1
      have hrb : nid < st1.bx.length := by rw [A.inv.bxn]; exact hr
      refine .ptr (cell := c) ?_ ?_
      · rw [look_one, St.fill, cellAt_set _ _ _ hr, if_pos rfl]; rfl
      · simp only [plc_one, adr, St.fill]
        rw [getD_set_bx hrb, if_pos rfl]
        simp
  · cases hb
end
end Go.Abs

/- Struct values, slice literals, make. -/
namespace Go.Abs
open Go
set_option linter.unusedVariables false
set_option linter.unusedSimpArgs false
variable {Z : TypeId → Nat}
def splice {α : Type} (z : List α) (off : Nat) (xs : List α) : List α := z.take off ++ xs ++ z.drop (off + xs.length)
theorem splice_len {α : Type} {z : List α} {off : Nat} {xs : List α} (h : off + xs.length ≤ z.length) : (splice z off xs).length = z.length := by simp [splice]; omega
theorem splice_get {α : Type} {z : List α} {off : Nat} {xs : List α} (h : off + xs.length ≤ z.length) (k : Nat) : (splice z off xs)[k]? = if off ≤ k ∧ k < off + xs.length then xs[k - off]? else z[k]? := by
  unfold splice
  by_cases h1 : k < off
  · rw [List.append_assoc, List.getElem?_append_left (by simp; omega), List.getElem?_take, if_pos h1, if_neg (by omega)]
  · by_cases h2 : k < off + xs.length
    · rw [List.getElem?_append_left (by simp; omega), List.getElem?_append_right (by simp; omega), if_pos ⟨by omega, h2⟩]
      simp only [List.length_take]
      rw [Nat.min_eq_left (by omega)]
    · rw [List.getElem?_append_right (by simp; omega), List.getElem?_drop, if_neg (by omega)]
      simp only [List.length_append, List.length_take]
      congr 1
      omega
theorem foldl_splice (off : Nat) : ∀ (xs : List Value) (j : Nat) (cs : Array Value), off + j + xs.length ≤ cs.size →
    ((xs.zipIdx j).foldl (fun cs (c : Value × Nat) => cs.setIfInBounds (off + c.2) c.1) cs).toList = splice cs.toList (off + j) xs
  | [], j, cs, _ => by simp [splice]
  | x :: xs, j, cs, h => by
    simp only [List.zipIdx_cons, List.foldl_cons]
    simp only [List.length_cons] at h
    rw [foldl_splice off xs (j + 1) _ (by simp; omega)]
    apply List.ext_getElem?
    intro k
    have hs : (cs.setIfInBounds (off + j) x).toList.length = cs.size := by simp
    rw [splice_get (by simp; omega), splice_get (by simp; omega)]
    simp only [List.length_cons, Array.toList_setIfInBounds, List.getElem?_set]
    by_cases h1 : off + (j + 1) ≤ k ∧ k < off + (j + 1) + xs.length
    · rw [if_pos h1, if_pos (by omega)]
      rw [show k - (off + j) = (k - (off + (j + 1))) + 1 by omega, List.getElem?_cons_succ]
    · rw [if_neg h1]
      by_cases h2 : off + j = k
      · subst h2
        rw [if_pos rfl, if_pos (by simp; omega), if_pos (by omega), Nat.sub_self]
        rfl
      · rw [if_neg h2, if_neg (by omega)]
def fillA (place : Nat → Option (Nat × Nat)) : List AV → List (Nat × AV) → Option (List AV)
  | z, [] => some z
  | z, (i, x) :: rest => match place i with
    | none => none
    | some (off, size) => if (avCells x).length = size ∧ off + (avCells x).length ≤ z.length then fillA place (splice z off (avCells x)) rest else none
def RL (R : AV → Value → Prop) (xs : List AV) (vs : List Value) : Prop := xs.length = vs.length ∧ ∀ (i : Nat) x v, xs[i]? = some x → vs[i]? = some v → R x v
theorem RL.nil {R : AV → Value → Prop} : RL R [] [] := ⟨rfl, by simp⟩
theorem RL.splice {R : AV → Value → Prop} {z xs : List AV} {u vs : List Value} {off : Nat} (h1 : RL R z u) (h2 : RL R xs vs) (hl : off + xs.length ≤ z.length) : RL R (splice z off xs) (Abs.splice u off vs) := by
  have hl' : off + vs.length ≤ u.length := by rw [← h2.1, ← h1.1]; exact hl
  refine ⟨by rw [splice_len hl, splice_len hl']; exact h1.1, fun i x v hx hv => ?_⟩
  rw [splice_get hl] at hx
  rw [splice_get hl', ← h2.1] at hv
  split at hx
  · rename_i hc; rw [if_pos hc] at hv; exact h2.2 _ x v hx hv
  · rename_i hc; rw [if_neg hc] at hv; exact h1.2 _ x v hx hv
section
variable {E : Ent} {st : St} {a : Act} {w w' : World} {S : Nat → Prop} {vals : Nat → Nat → Value} {fps : Nat → Nat → Nat → Prop} {cb : Nat → Nat}
/-- A value's cells. -/
theorem RA.cells {es : Rows} {ad : Nat → Nat → Option Addr} {x : AV} {v : Value} (h : RA Z w S es vals ad x v) (hx : ∀ xs, x ≠ .tup xs) (hd : x ≠ .dead) : ∃ vs : List Value, v.cells = vs.toArray ∧ RL (RA Z w S es vals ad) (avCells x) vs ∧ ∀ u ∈ vs, u.oneCell' = true := by
  have one : v.oneCell' = true → avCells x = [x] → ∃ vs : List Value, v.cells = vs.toArray ∧ RL (RA Z w S es vals ad) (avCells x) vs ∧ ∀ u ∈ vs, u.oneCell' = true := by
    intro h1 h2
    refine ⟨[v], oneCell_cells h1, ?_, by simpa using h1⟩
    rw [h2]
    refine ⟨rfl, fun i y u hy hu => ?_⟩
    cases i with
    | zero => simp only [List.getElem?_cons_zero, Option.some.injEq] at hy hu; subst hy; subst hu; exact h
    | succ i => simp at hy
  cases h with
  | agg hln h1 h => exact ⟨_, rfl, ⟨hln, h⟩, h1⟩
  | tup _ _ => exact absurd rfl (hx _)
  | dead => exact absurd rfl hd
  | c h => exact one h.one rfl
  | nils => exact one rfl rfl
  | ptr _ _ => exact one rfl rfl
  | sptr _ _ _ _ => exact one rfl rfl
  | fn _ _ _ _ => exact one rfl rfl
  | bor hl hsz hlen hs => exact one (by rcases hs with ⟨_, rfl, _⟩ | ⟨_, _, _, _, _, ⟨_, rfl⟩ | ⟨_, _, _, rfl, _⟩⟩ <;> rfl) rfl
def plain : AV → Bool
  | .tup _ | .dead => false
  | _ => true
theorem fillA_ok {es : Rows} {ad : Nat → Nat → Option Addr} {place : Nat → Option (Nat × Nat)} : ∀ (parts : List (Nat × AV)) (vparts : List (Nat × Value)) (z r : List AV) (u : Array Value), RL (RA Z w S es vals ad) z u.toList → (∀ x ∈ u.toList, x.oneCell' = true) →
    parts.length = vparts.length → (∀ (i : Nat) p q, parts[i]? = some p → vparts[i]? = some q → p.1 = q.1 ∧ RA Z w S es vals ad p.2 q.2 ∧ plain p.2 = true) → fillA place z parts = some r →
    ∃ cs, Instr.fill place u vparts = some cs ∧ RL (RA Z w S es vals ad) r cs.toList ∧ (∀ x ∈ cs.toList, x.oneCell' = true)
  | [], [], z, r, u, hz, h1, _, _, hr => by simp only [fillA, Option.some.injEq] at hr; subst hr; exact ⟨u, rfl, hz, h1⟩
  | [], _ :: _, _, _, _, _, _, hl, _, _ => by simp at hl
  | _ :: _, [], _, _, _, _, _, hl, _, _ => by simp at hl
  | (i, x) :: parts, (j, v) :: vparts, z, r, u, hz, h1, hl, hp, hr => by
    obtain ⟨hij, hx, hpl⟩ := hp 0 _ _ rfl rfl
    simp only at hij hx hpl
    subst hij
    simp only [fillA] at hr
    cases hpi : place i with
    | none => rw [hpi] at hr; cases hr
    | some os =>
      obtain ⟨off, size⟩ := os
      rw [hpi] at hr
      simp only at hr
      split at hr
      · rename_i hc
        obtain ⟨vs, hv, hrl, h1v⟩ := hx.cells (by rintro xs rfl; cases hpl) (by rintro rfl; cases hpl)
        have hzl : off + vs.length ≤ u.size := by rw [← hrl.1, ← Array.length_toList, ← hz.1]; exact hc.2
        have hfold : (v.cells.zipIdx.foldl (fun cs (c : Value × Nat) => cs.setIfInBounds (off + c.2) c.1) u).toList = splice u.toList off vs := by
          have := foldl_splice off vs 0 u (by omega)
          rw [hv, ← Array.foldl_toList]
          simpa using this
        obtain ⟨cs, hcs, hrl2, h12⟩ := fillA_ok parts vparts (splice z off (avCells x)) r (v.cells.zipIdx.foldl (fun cs (c : Value × Nat) => cs.setIfInBounds (off + c.2) c.1) u) (by rw [hfold]; exact hz.splice hrl hc.2) (by
          rw [hfold]
          intro y hy
          simp only [splice, List.mem_append] at hy
          rcases hy with (hy | hy) | hy
          · exact h1 y (List.mem_of_mem_take hy)
          · exact h1v y hy
          · exact h1 y (List.mem_of_mem_drop hy)) (by simpa using hl) (fun k p q hp1 hq1 => hp (k + 1) p q (by simpa using hp1) (by simpa using hq1)) hr
        refine ⟨cs, ?_, hrl2, h12⟩
        have hsz : v.cells.size = size := by rw [hv, List.size_toArray, ← hrl.1]; exact hc.1
        have hnot : ¬ (v.cells.size ≠ size || decide (off + v.cells.size > u.size)) = true := by
          rw [hv, List.size_toArray] at hsz ⊢
          simp [hsz]; omega
        simp only [Instr.fill, hpi]
        rw [if_neg hnot]
        exact hcs
      · cases hr
/-- The zero value of a type. -/
def zeroAV (P : Program) (t : TypeId) : Option AV :=
  match P.info? t with
  | some i => match i.zero with
    | some (.agg cs) => if cs.all (·.oneCell') then some (.agg (cs.toList.map constAV)) else none
    | some v => if v.oneCell' then some (constAV v) else none
    | none => none
  | none => none
theorem zeroAV_ok {P : Program} {t : TypeId} {z : AV} (hz : zeroAV P t = some z) (es : Rows) (ad : Nat → Nat → Option Addr) : ∃ i v, P.info? t = some i ∧ i.zero = some v ∧ RA Z w S es vals ad z v ∧ (∀ xs, z ≠ .tup xs) := by
  unfold zeroAV at hz
  split at hz
  · rename_i i hi
    split at hz
    · rename_i cs hv
      split at hz
      · rename_i hall
        cases hz
        refine ⟨i, _, hi, hv, ?_, by rintro xs ⟨⟩⟩
        have : RA Z w S es vals ad (.agg (cs.toList.map constAV)) (.agg cs.toList.toArray) := by
          refine .agg (by simp) (fun v hv => ?_) fun k x v hx hv => ?_
          · have := Array.all_eq_true_iff_forall_mem.1 hall v (Array.mem_toList_iff.1 hv); exact this
          · rw [List.getElem?_map, hv] at hx; cases hx; exact constAV_ok v
        simpa using this
      · cases hz
    · rename_i v hne hv
      split at hz
      · cases hz
        refine ⟨i, v, hi, hv, constAV_ok v, fun xs => ?_⟩
        unfold constAV
        split
        · rintro ⟨⟩
        · split <;> rintro ⟨⟩
      · cases hz
    · cases hz
  · cases hz
def allocA (P : Program) (st : St) (nid : Nat) (t : TypeId) : Option (AV × St) := (zeroAV P t).bind (boxA P st nid t)
theorem allocA_ok {P : Program} (h : Inv Z E st a w S vals fps cb) {nid : Nat} {t : TypeId} {av : AV} {st' : St} (hf : st.free nid) (hnl : E.nl ≤ nid) (hb : allocA P st nid t = some (av, st')) :
    ∃ u w' vals' fps' cb', (Instr.alloc t true (.tuple #[])).run P w = .ok u w' ∧ Inv Z E st' a w' S vals' fps' cb' ∧ RA Z w' S st'.rt vals' (adr st'.bx cb') av u := by
  unfold allocA at hb
  cases hz : zeroAV P t with
  | none => rw [hz] at hb; cases hb
  | some z =>
    rw [hz] at hb
    obtain ⟨i, v, hi, hv, hra, _⟩ := zeroAV_ok (w := w) (S := S) (vals := vals) hz st.rt (adr st.bx cb)
    obtain ⟨u, w', vals', fps', cb', hr, hI, hA⟩ := boxA_ok (P := P) h hf hnl hra hb
    refine ⟨u, w', vals', fps', cb', ?_, hI, hA⟩
    simp only [Instr.box, Sem.run_bind] at hr
    simp [Instr.alloc, zeroValue, typeInfo, hi, hv]
    simpa [newVar, newRow] using hr
/-- A struct value of its parts. -/
def fieldsOf (P : Program) (t : TypeId) : Option (List (Nat × Nat)) :=
  match P.underlying t with
  | some (.struct fs) => fs.toList.mapM fun f => (P.info? f.type).map fun i => (f.offset, i.size)
  | _ => none
def buildA (P : Program) (st : St) (t : TypeId) (parts : List (Nat × Operand)) : Option AV :=
  match fieldsOf P t, zeroAV P t with
  | some places, some (.agg z) => if (parts.map fun p => (p.1, evA st p.2)).all (fun p => plain p.2) then (fillA (places[·]?) z (parts.map fun p => (p.1, evA st p.2))).map .agg else none
  | _, _ => none
theorem run_mapM_fields {P : Program} {w : World} : ∀ (fs : List Field) (pl : List (Nat × Nat)), (fs.mapM fun f => (P.info? f.type).map fun i => (f.offset, i.size)) = some pl →
    (fs.mapM (m := Sem) fun f => do pure (f.offset, ← sizeOf f.type)).run P w = .ok pl w
  | [], pl, h => by simp at h; subst h; rfl
  | f :: fs, pl, h => by
    rw [List.mapM_cons] at h ⊢
    cases hi : P.info? f.type with
    | none => rw [hi] at h; cases h
    | some i =>
      rw [hi] at h
      simp only [Option.map_some, Option.bind_eq_bind, Option.bind_some] at h
      cases hr : (fs.mapM fun f => (P.info? f.type).map fun i => (f.offset, i.size)) with
      | none => rw [hr] at h; cases h
      | some pr =>
        rw [hr] at h
        simp only [Option.bind_some, Option.pure_def, Option.some.injEq] at h
        subst h
        have ih := run_mapM_fields (w := w) fs pr hr
        have hs : (sizeOf f.type).run P w = .ok i.size w := by simp [sizeOf, typeInfo, hi]
        simp only [Sem.run_bind, hs, Result.andThen_ok, Sem.run_pure, ih]
theorem buildA_ok {P : Program} (h : Inv Z E st a w S vals fps cb) {t : TypeId} {parts : List (Nat × Operand)} {av : AV} (hb : buildA P st t parts = some av) :
    ∃ u, (Instr.build t (parts.toArray.map fun (i, x) => (i, a.eval x))).run P w = .ok u w ∧ RA Z w S st.rt vals (adr st.bx cb) av u := by
  unfold buildA at hb
  split at hb
  · rename_i places z hpl hz
    split at hb
    · rename_i hall
      simp only [Option.map_eq_some_iff] at hb
      obtain ⟨r, hr, rfl⟩ := hb
      obtain ⟨i, v, hi, hv, hra, _⟩ := zeroAV_ok (w := w) (S := S) (vals := vals) hz st.rt (adr st.bx cb)
      cases hra with
      | @agg _ vs hln h1 hra =>
        obtain ⟨cs, hcs, hrl, h1c⟩ := fillA_ok (place := (places[·]?)) (parts.map fun p => (p.1, evA st p.2)) (parts.map fun p => (p.1, a.eval p.2)) z r vs.toArray ⟨by simpa using hln, by simpa using hra⟩ (by simpa using h1) (by simp) (fun k p q hp hq => by
          rw [List.getElem?_map] at hp hq
          cases hk : parts[k]? with
          | none => rw [hk] at hp; cases hp
          | some pk =>
            rw [hk] at hp hq
            simp only [Option.map_some, Option.some.injEq] at hp hq
            subst hp; subst hq
            refine ⟨rfl, h.eval pk.2, ?_⟩
            have := List.all_eq_true.1 hall (pk.1, evA st pk.2) (List.mem_map.2 ⟨pk, List.mem_of_getElem? hk, rfl⟩)
            exact this) hr
        refine ⟨.agg cs, ?_, ?_⟩
        · unfold fieldsOf at hpl
          split at hpl
          · rename_i fs hu
            have hm := run_mapM_fields (P := P) (w := w) fs.toList places hpl
            have hm2 : (fs.mapM (m := Sem) fun f => do pure (f.offset, ← sizeOf f.type)).run P w = .ok places.toArray w := by
              rw [Array.mapM_eq_mapM_toList]
              simp only [Sem.run_map, hm]
              rfl
            have hzv : (zeroValue t).run P w = .ok (.agg vs.toArray) w := by simp [zeroValue, typeInfo, hi, hv]
            simp only [Instr.build, Sem.run_bind, hzv, Result.andThen_ok, run_underlying hu, hm2, Value.cells]
            have hplc : (fun (i : Nat) => places.toArray[i]?) = (fun (i : Nat) => places[i]?) := by funext k; simp
            have hparts : (parts.toArray.map fun (x : Nat × Operand) => (x.1, a.eval x.2)).toList = parts.map fun p => (p.1, a.eval p.2) := by simp
            rw [hplc]
            simp only [hparts, hcs]
            rfl
          · cases hpl
        · have : RA Z w S st.rt vals (adr st.bx cb) (.agg r) (.agg cs.toList.toArray) := .agg hrl.1 h1c hrl.2
          simpa using this
    · cases hb
  · cases hb
end
end Go.Abs

/- New rows: slice literals, make, append. -/
namespace Go.Abs
open Go
set_option linter.unusedVariables false
set_option linter.unusedSimpArgs false
variable {Z : TypeId → Nat}
def chunk : Nat → Nat → List Cell → Rows
  | 0, _, _ => []
  | n + 1, sz, l => l.take sz :: chunk n sz (l.drop sz)
theorem chunk_len : ∀ (n sz : Nat) (l : List Cell), (chunk n sz l).length = n
  | 0, _, _ => rfl
  | n + 1, sz, l => by simp [chunk, chunk_len n sz]
theorem chunk_rows : ∀ (n sz : Nat) (l : List Cell), l.length = n * sz → ∀ x ∈ chunk n sz l, x.length = sz
  | 0, _, _, _ => by simp [chunk]
  | n + 1, sz, l, hl => by
    intro x hx
    rw [Nat.add_mul, Nat.one_mul] at hl
    simp only [chunk, List.mem_cons] at hx
    rcases hx with rfl | hx
    · simp; omega
    · exact chunk_rows n sz (l.drop sz) (by simp; omega) x hx
theorem chunk_cell : ∀ (n sz : Nat) (l : List Cell) (i c : Nat) (cell : Cell), cellAt (chunk n sz l) i c = some cell → i < n ∧ c < sz ∧ l[i * sz + c]? = some cell
  | 0, _, _, _, _, _, h => by simp [chunk, cellAt] at h
  | n + 1, sz, l, 0, c, cell, h => by
    simp only [cellAt, chunk, List.getElem?_cons_zero, Option.bind_some, List.getElem?_take] at h
    split at h
    · rename_i hc; exact ⟨by omega, hc, by simpa using h⟩
    · cases h
  | n + 1, sz, l, i + 1, c, cell, h => by
    simp only [cellAt, chunk, List.getElem?_cons_succ] at h
    obtain ⟨h1, h2, h3⟩ := chunk_cell n sz (l.drop sz) i c cell h
    refine ⟨by omega, h2, ?_⟩
    rw [List.getElem?_drop] at h3
    rw [Nat.add_mul, Nat.one_mul]
    rw [show i * sz + sz + c = sz + (i * sz + c) by omega]
    exact h3
theorem rep_get {α : Type} (zs : List α) : ∀ (n j : Nat), j < n * zs.length → ((List.replicate n zs).flatten)[j]? = zs[j % zs.length]?
  | 0, j, h => by simp at h
  | n + 1, j, h => by
    rw [List.replicate_succ, List.flatten_cons]
    by_cases hj : j < zs.length
    · rw [List.getElem?_append_left hj, Nat.mod_eq_of_lt hj]
    · rw [List.getElem?_append_right (by omega), rep_get zs n (j - zs.length) (by rw [Nat.add_mul, Nat.one_mul] at h; omega)]
      congr 1
      rw [Nat.mod_eq_sub_mod (by omega : zs.length ≤ j)]
theorem rep_len {α : Type} (zs : List α) (n : Nat) : ((List.replicate n zs).flatten).length = n * zs.length := by simp
theorem chunk_rep (zc : List Cell) (sz : Nat) (hz : zc.length = sz) : ∀ n, chunk n sz ((List.replicate n zc).flatten) = List.replicate n zc
  | 0 => rfl
  | n + 1 => by
    simp only [chunk, List.replicate_succ, List.flatten_cons]
    rw [List.take_left' hz, List.drop_left' hz, chunk_rep zc sz hz n]
def elemOf (P : Program) (t : TypeId) : Option TypeId :=
  match P.underlying t with
  | some (.slice e) => some e
  | _ => none
theorem elemOf_spec {P : Program} {t e : TypeId} (h : elemOf P t = some e) : P.underlying t = some (.slice e) := by
  unfold elemOf at h
  split at h
  · rename_i hu; cases h; exact hu
  · cases h
/-- The sizes are the program's own. -/
def ZOk (P : Program) (Z : TypeId → Nat) : Prop := ∀ e i, P.info? e = some i → Z e = i.size
/-- Of an element type: its cells, its bytes, its zero. -/
def einfo (P : Program) (e : TypeId) : Option (Nat × Nat × List AV) :=
  match P.info? e, zeroAV P e with
  | some i, some z => if (avCells z).length = i.size ∧ 0 < i.size ∧ plain z = true then some (i.size, i.bytes, avCells z) else none
  | _, _ => none
section
variable {E : Ent} {st : St} {a : Act} {w w' : World} {S : Nat → Prop} {vals : Nat → Nat → Value} {fps : Nat → Nat → Nat → Prop} {cb : Nat → Nat}
theorem einfo_spec {P : Program} {e : TypeId} {sz by_ : Nat} {zs : List AV} (h : einfo P e = some (sz, by_, zs)) (es : Rows) (ad : Nat → Nat → Option Addr) :
    ∃ i v vs, P.info? e = some i ∧ i.zero = some v ∧ i.size = sz ∧ i.bytes = by_ ∧ 0 < sz ∧ v.cells = vs.toArray ∧ zs.length = sz ∧ RL (RA Z w S es vals ad) zs vs ∧ (∀ u ∈ vs, u.oneCell' = true) := by
  unfold einfo at h
  split at h
  · rename_i i z hi hz
    split at h
    · rename_i hc
      cases h
      obtain ⟨i2, v, hi2, hv, hra, hnt⟩ := zeroAV_ok (w := w) (S := S) (vals := vals) hz es ad
      rw [hi] at hi2; cases hi2
      obtain ⟨vs, h1, h2, h3⟩ := hra.cells hnt (by rintro rfl; exact absurd hc.2.2 (by simp [plain]))
      exact ⟨i, v, vs, hi, hv, rfl, rfl, hc.2.1, h1, hc.1, h2, h3⟩
    · cases h
  · cases h
/-- A new block of elements becomes a root that owns it. -/
theorem Inv.newRow (h : Inv Z E st a w S vals fps cb) {nid n sz : Nat} {e : TypeId} {l : List Cell} {vs : List Value} {fp : Nat → Nat → Prop} (hf : st.free nid) (hnl : E.nl ≤ nid) (hl : l.length = n * sz) (hv : vs.length = n * sz) (hsz : 0 < sz) (hn : n ≤ maxLen) (hz : Z e = sz)
    (hrc : ∀ (j : Nat) c v, l[j]? = some c → vs[j]? = some v → RC Z w S c v (fp j)) (hout : ∀ j, l.length ≤ j → ∀ k, ¬ fp j k) (hdj : ∀ i j k, fp i k → fp j k → i = j) (hflt : ∀ j, Flt E st fps cb (fp j)) :
    ∃ vals' fps', Inv Z E (st.fill nid [.row true e (chunk n sz l)] false) a (w.alloc (.cells vs.toArray e)) S vals' fps' cb ∧
      RA Z (w.alloc (.cells vs.toArray e)) S (st.fill nid [.row true e (chunk n sz l)] false).rt vals' (adr (st.fill nid [.row true e (chunk n sz l)] false).bx cb) (.bor [(nid, 0)] 0 n) (.slice (some ⟨w.heap.size, 0, none⟩) n n) := by
  have hgr : Fr (fun _ => False) w (w.alloc (.cells vs.toArray e)) := ⟨rfl, rfl, rfl, by simp, fun k hk _ => heap_alloc_old w _ k hk⟩
  have h2 := h.grow hgr
  have ho : (w.alloc (.cells vs.toArray e)).ownsRow 0 e sz (.slice (some ⟨w.heap.size, 0, none⟩) n n) (chunk n sz l).length vs := by
    rw [chunk_len]
    have := World.ownsRow_lit (e := e) (size := sz) w vs.toArray n (Nat.zero_le _) hn (by simpa using hv)
    simpa using this
  have hfpl : ∀ j k, fp j k → k < w.heap.size := by
    intro j k hk
    by_cases hj : j < l.length
    · exact (hrc j _ _ (List.getElem?_eq_getElem hj) (List.getElem?_eq_getElem (show j < vs.length by omega))).lt k hk
    · exact absurd hk (hout j (by omega) k)
  have hrow : RC Z (w.alloc (.cells vs.toArray e)) S (.row true e (chunk n sz l)) (.slice (some ⟨w.heap.size, 0, none⟩) n n) (fun k => (Value.slice (some ⟨w.heap.size, 0, none⟩) n n).ownBlock = some k ∨ ∃ i c, (if i < n ∧ c < sz then fp (i * sz + c) k else False)) := by
    refine .own sz hz vs (fun i c k => if i < n ∧ c < sz then fp (i * sz + c) k else False) ho (chunk_rows n sz l hl) (fun i c cell hc => ?_) (fun i c hc k hk => ?_) (fun i c i' c' k h1 h2 => ?_) fun g hg => ?_
    · obtain ⟨hi, hc2, hlc⟩ := chunk_cell n sz l i c cell hc
      have heq : (fun k => if i < n ∧ c < sz then fp (i * sz + c) k else False) = fp (i * sz + c) := by funext k; simp [hi, hc2]
      rw [heq]
      have hlt : i * sz + c < vs.length := by rw [hv, ← hl]; exact (List.getElem?_eq_some_iff.1 hlc).1
      have hvs : vs[i * sz + c]? = some (lv vs sz i c) := by unfold lv; rw [List.getD_eq_getElem?_getD, List.getElem?_eq_getElem hlt]; rfl
      exact (hrc _ cell _ hlc hvs).world hgr h.slt (fun _ h => h.elim) (fun _ _ h => h)
    · split at hk
      · rename_i hic
        have hlt : i * sz + c < l.length := by
          rw [hl]
          have h1 : (i + 1) * sz ≤ n * sz := Nat.mul_le_mul_right _ hic.1
          rw [Nat.add_mul, Nat.one_mul] at h1; omega
        have : ∃ cell, Abs.cellAt (chunk n sz l) i c = some cell := by
          have hrows := chunk_rows n sz l hl
          have hi : i < (chunk n sz l).length := by rw [chunk_len]; exact hic.1
          have hc2 : c < ((chunk n sz l)[i]).length := by rw [hrows _ (List.getElem_mem hi)]; exact hic.2
          exact ⟨((chunk n sz l)[i])[c], by unfold Abs.cellAt; rw [List.getElem?_eq_getElem hi]; simp [hc2]⟩
        obtain ⟨cell, hcell⟩ := this
        rw [hc] at hcell; cases hcell
      · exact hk
    · split at h1
      · rename_i e1
        split at h2
        · rename_i e2
          exact idx_inj e1.2 e2.2 (hdj _ _ _ h1 h2)
        · exact h2.elim
      · exact h1.elim
    · simp only [Value.ownBlock, Option.some.injEq] at hg
      subst hg
      refine ⟨fun hs => by have := h.slt _ hs; omega, fun i c hk => ?_⟩
      split at hk
      · have := hfpl _ _ hk; omega
      · exact hk
  have hflt2 : ∀ c, Flt E st fps cb (fun k => if c = 0 then ((Value.slice (some ⟨w.heap.size, 0, none⟩) n n).ownBlock = some k ∨ ∃ i c, (if i < n ∧ c < sz then fp (i * sz + c) k else False)) else False) := by
    intro c
    have key : ∀ k, (if c = 0 then ((Value.slice (some ⟨w.heap.size, 0, none⟩) n n).ownBlock = some k ∨ ∃ i c, (if i < n ∧ c < sz then fp (i * sz + c) k else False)) else False) → k = w.heap.size ∨ ∃ j, fp j k := by
      intro k hk
      split at hk
      · rcases hk with hk | ⟨i, c2, hk⟩
        · simp only [Value.ownBlock, Option.some.injEq] at hk; exact .inl hk.symm
        · split at hk
          · exact .inr ⟨_, hk⟩
          · exact hk.elim
      · exact hk.elim
    refine ⟨fun k hk r c' hk2 => ?_, fun k hk r hb e => ?_, fun k hk => ?_⟩
    · rcases key k hk with rfl | ⟨j, hj⟩
      · have := h.rr.lt hk2; omega
      · exact (hflt j).no k hj r c' hk2
    · rcases key k hk with rfl | ⟨j, hj⟩
      · have := h.box_lt hb; omega
      · exact (hflt j).nb k hj r hb e
    · rcases key k hk with rfl | ⟨j, hj⟩
      · exact .inr h.fr.size
      · exact (hflt j).own k hj
  have h3 := h2.fill hf hnl [.row true e (chunk n sz l)] (fun _ => .slice (some ⟨w.heap.size, 0, none⟩) n n) _ (fun c cell hc => by
    cases c with
    | zero => simp only [List.getElem?_cons_zero, Option.some.injEq] at hc; subst hc; simpa using hrow
    | succ c => simp at hc) (fun c hc k hk => by
      have : c ≠ 0 := by simp at hc; omega
      simp [this] at hk) (fun c c' k h1 h2 => by
      by_cases e1 : c = 0
      · by_cases e2 : c' = 0
        · rw [e1, e2]
        · simp [e2] at h2
      · simp [e1] at h1) hflt2
  have hr : nid < st.rt.length := (List.getElem?_eq_some_iff.1 hf.1).1
  refine ⟨_, _, h3, .bor (e := e) (es' := chunk n sz l) (sz := sz) ?_ (chunk_rows n sz l hl) (by rw [chunk_len]; omega) ?_⟩
  · rw [look_one, St.fill, cellAt_set _ _ _ hr, if_pos rfl]; rfl
  · simp only [plc_one, if_true]
    exact .inr ⟨_, _, _, rfl, by omega, .inl ⟨rfl, rfl⟩⟩
/-- '[]T{..}'. -/
def buildSliceA (P : Program) (st : St) (nid : Nat) (t : TypeId) (len : Nat) (parts : List (Nat × Operand)) : Option (AV × St) :=
  match elemOf P t with
  | some e => match einfo P e with
    | some (sz, _, zs) => if len * sz ≤ 16777216 ∧ (parts.map fun p => (p.1, evA st p.2)).all (fun p => plain p.2) = true then
        match fillA (fun i => some (i * sz, sz)) ((List.replicate len zs).flatten) (parts.map fun p => (p.1, evA st p.2)) with
        | some r => match absorbL ((List.replicate len (cellE P e)).flatten) st id r with
          | some (st1, cells) => some (.bor [(nid, 0)] 0 len, st1.fill nid [.row true e (chunk len sz cells)] false)
          | none => none
        | none => none
      else none
    | none => none
  | none => none
theorem rep_RL {R : AV → Value → Prop} {zs : List AV} {vs : List Value} (h : RL R zs vs) (n : Nat) : RL R ((List.replicate n zs).flatten) ((List.replicate n vs).flatten) := by
  refine ⟨by simp [h.1], fun i x v hx hv => ?_⟩
  have hlt : i < n * zs.length := by
    have := (List.getElem?_eq_some_iff.1 hx).1; simpa using this
  rw [rep_get zs n i hlt] at hx
  rw [rep_get vs n i (by rw [← h.1]; exact hlt), ← h.1] at hv
  exact h.2 _ x v hx hv
theorem zeros_eq (cs : Array Value) (n : Nat) (hpos : 0 < cs.size) : ((Array.range (n * cs.size)).map (cs[· % cs.size]!)).toList = (List.replicate n cs.toList).flatten := by
  apply List.ext_getElem?
  intro j
  by_cases hj : j < n * cs.size
  · rw [rep_get cs.toList n j (by simpa using hj)]
    have hm : j % cs.size < cs.size := Nat.mod_lt _ hpos
    simp [hj, hm]
  · rw [List.getElem?_eq_none (by simp; omega), List.getElem?_eq_none (by simp; omega)]
theorem fillA_len {place : Nat → Option (Nat × Nat)} : ∀ (parts : List (Nat × AV)) (z r : List AV), fillA place z parts = some r → r.length = z.length
  | [], z, r, h => by simp only [fillA, Option.some.injEq] at h; rw [← h]
  | (i, x) :: parts, z, r, h => by
    simp only [fillA] at h
    split at h
    · cases h
    · split at h
      · rename_i hc; rw [fillA_len parts _ r h, splice_len hc.2]
      · cases h
theorem absorbL_len : ∀ (xs : List AV) (es : List TypeId) (st st' : St) (tr : AV → AV) (cells : List Cell), absorbL es st tr xs = some (st', cells) → cells.length = xs.length
  | [], _, _, _, _, _, h => by simp only [absorbL, Option.some.injEq, Prod.mk.injEq] at h; obtain ⟨_, rfl⟩ := h; rfl
  | x :: xs, es, st, st', tr, cells, h => by
    simp only [absorbL] at h
    split at h
    · split at h
      · rename_i h2; cases h; simp [absorbL_len xs _ _ _ _ _ h2]
      · cases h
    · cases h
theorem buildSliceA_ok {P : Program} (hZ0 : ZOk P Z) (h : Inv Z E st a w S vals fps cb) {nid len : Nat} {t : TypeId} {parts : List (Nat × Operand)} {av : AV} {st' : St} (hf : st.free nid) (hnl : E.nl ≤ nid) (hb : buildSliceA P st nid t len parts = some (av, st')) :
    ∃ u w' vals' fps', (Instr.buildSlice t len (parts.toArray.map fun (i, x) => (i, a.eval x))).run P w = .ok u w' ∧ Inv Z E st' a w' S vals' fps' cb ∧ RA Z w' S st'.rt vals' (adr st'.bx cb) av u := by
  unfold buildSliceA at hb
  split at hb
  · rename_i e he
    have hu := elemOf_spec he
    split at hb
    · rename_i sz by_ zs hei
      split at hb
      · rename_i hcond
        split at hb
        · rename_i r hr
          split at hb
          · rename_i st1 cells hab
            simp only [Option.some.injEq, Prod.mk.injEq] at hb
            obtain ⟨rfl, rfl⟩ := hb
            obtain ⟨i, v, vs, hi, hz, hsz, _, hpos, hcs, hzl, hrl, h1⟩ := einfo_spec (w := w) (S := S) (vals := vals) hei st.rt (adr st.bx cb)
            have hZ : Z e = sz := (hZ0 e i hi).trans hsz
            have hvl : vs.length = sz := by rw [← hrl.1]; exact hzl
            have hz0 : ((Array.range (len * sz)).map (vs.toArray[· % sz]!)).toList = (List.replicate len vs).flatten := by
              have := zeros_eq vs.toArray len (by simp; omega)
              simp only [List.size_toArray, hvl] at this
              exact this
            obtain ⟨cs, hcs2, hrl2, h12⟩ := fillA_ok (place := fun i => some (i * sz, sz)) (parts.map fun p => (p.1, evA st p.2)) (parts.map fun p => (p.1, a.eval p.2)) ((List.replicate len zs).flatten) r ((Array.range (len * sz)).map (vs.toArray[· % sz]!)) (by rw [hz0]; exact rep_RL hrl len) (by
              rw [hz0]
              intro x hx
              obtain ⟨l, hl, hx⟩ := List.mem_flatten.1 hx
              rw [List.mem_replicate] at hl
              rw [hl.2] at hx
              exact h1 x hx) (by simp) (fun k p q hp hq => by
              rw [List.getElem?_map] at hp hq
              cases hk : parts[k]? with
              | none => rw [hk] at hp; cases hp
              | some pk =>
                rw [hk] at hp hq
                simp only [Option.map_some, Option.some.injEq] at hp hq
                subst hp; subst hq
                refine ⟨rfl, h.eval pk.2, ?_⟩
                have := List.all_eq_true.1 hcond.2 (pk.1, evA st pk.2) (List.mem_map.2 ⟨pk, List.mem_of_getElem? hk, rfl⟩)
                exact this) hr
            have hrlen : r.length = len * sz := by rw [fillA_len _ _ _ hr, rep_len, hzl]
            obtain ⟨fps1, tr, fp, A, n1, c1, o1, d1, f1, s1⟩ := absorbL_ok r _ st st1 id cs.toList fps cells h hrl2.1 hrl2.2 hab
            have hlen : len ≤ maxLen := by
              have h3 : len * 1 ≤ len * sz := Nat.mul_le_mul_left _ hpos
              have h4 := hcond.1
              simp only [maxLen]; omega
            obtain ⟨vals', fps', hI, hA⟩ := A.inv.newRow (e := e) (n := len) (sz := sz) (l := cells) (vs := cs.toList) (absorbL_free _ _ _ _ _ _ hab hf) hnl (by rw [n1, hrlen]) (by rw [← hrl2.1, hrlen]) hpos hlen hZ c1 o1 d1 f1
            refine ⟨_, _, vals', fps', ?_, hI, hA⟩
            have hparts : (parts.toArray.map fun (x : Nat × Operand) => (x.1, a.eval x.2)).toList = parts.map fun p => (p.1, a.eval p.2) := by simp
            have hso : (sizeOf e).run P w = .ok sz w := by simp [Go.sizeOf, typeInfo, hi, hsz]
            have hzv : (zeroValue e).run P w = .ok v w := by simp [zeroValue, typeInfo, hi, hz]
            have hnot : ¬ (len * sz > 2 ^ 24) := by have := hcond.1; omega
            by_cases h0 : len * sz = 0
            · have hfill : Instr.fill (fun i => some (i * sz, sz)) #[] (parts.map fun p => (p.1, a.eval p.2)) = some cs := by
                rw [h0] at hcs2
                simpa [Array.range_zero'] using hcs2
              simp only [Instr.buildSlice, Sem.run_bind, run_underlying hu, Result.andThen_ok, hso, hnot, if_false, h0, if_true, Sem.run_pure, Array.range_zero', Array.map_empty, hparts, hfill]
              simp [newRow]
            · have hfill : Instr.fill (fun i => some (i * sz, sz)) ((Array.range (len * sz)).map (vs.toArray[· % vs.toArray.size]!)) (parts.map fun p => (p.1, a.eval p.2)) = some cs := by
                simp only [List.size_toArray, hvl]; exact hcs2
              simp only [Instr.buildSlice, Sem.run_bind, run_underlying hu, Result.andThen_ok, hso, hnot, if_false, h0, hzv, Sem.run_pure, hcs, hparts, hfill]
              simp [newRow]
          · cases hb
        · cases hb
      · cases hb
    · cases hb
  · cases hb
end
end Go.Abs

/- make and append. -/
namespace Go.Abs
open Go
set_option linter.unusedVariables false
set_option linter.unusedSimpArgs false
variable {Z : TypeId → Nat}
/-- Zero cells. -/
def zcells : List TypeId → List AV → Option (List Cell)
  | _, [] => some []
  | es, .c (.sc v) :: xs => (zcells es.tail xs).map (.sc v :: ·)
  | es, .nils :: xs => (zcells es.tail xs).map (.row true (es.headD 0) [] :: ·)
  | _, _ :: _ => none
section
variable {E : Ent} {st : St} {a : Act} {w w' : World} {S : Nat → Prop} {vals : Nat → Nat → Value} {fps : Nat → Nat → Nat → Prop} {cb : Nat → Nat}
theorem RC.nilrow {e : TypeId} : RC Z w S (.row true e []) (.slice none 0 0) (fun _ => False) := by
  have h : RC Z w S (.row true e []) (.slice none 0 0) (fun k => (Value.slice none 0 0).ownBlock = some k ∨ ∃ (i c : Nat), (fun _ _ _ => False : Nat → Nat → Nat → Prop) i c k) :=
    .own (Z e) rfl [] (fun _ _ _ => False) (World.ownsRow_nil _ _ _ _) (by simp) (fun i c cell hc => by simp [cellAt] at hc) (fun _ _ _ _ h => h.elim) (fun _ _ _ _ _ h => h.elim) (fun g hg => by simp [Value.ownBlock] at hg)
  have he : (fun k => (Value.slice none 0 0).ownBlock = some k ∨ ∃ (i c : Nat), (fun _ _ _ => False : Nat → Nat → Nat → Prop) i c k) = (fun _ : Nat => False) := by funext k; simp [Value.ownBlock]
  rw [he] at h
  exact h
theorem zcells_ok {es' : Rows} {ad : Nat → Nat → Option Addr} : ∀ (zs : List AV) (es : List TypeId) (vs : List Value) (cells : List Cell), RL (RA Z w S es' vals ad) zs vs → zcells es zs = some cells → cells.length = zs.length ∧ ∀ (i : Nat) c v, cells[i]? = some c → vs[i]? = some v → RC Z w S c v (fun _ => False)
  | [], es, vs, cells, h, hc => by simp only [zcells, Option.some.injEq] at hc; subst hc; simp
  | z :: zs, es, [], cells, h, hc => by have := h.1; simp at this
  | z :: zs, es, v :: vs, cells, h, hc => by
    have h' : RL (RA Z w S es' vals ad) zs vs := ⟨by simpa using h.1, fun i x u hx hu => h.2 (i + 1) x u (by simpa using hx) (by simpa using hu)⟩
    have h0 := h.2 0 z v rfl rfl
    cases z with
    | c c0 =>
      cases c0 with
      | sc u =>
        simp only [zcells, Option.map_eq_some_iff] at hc
        obtain ⟨cs, hcs, rfl⟩ := hc
        obtain ⟨h1, h2⟩ := zcells_ok zs es.tail vs cs h' hcs
        refine ⟨by simp [h1], fun i c u' hc hu => ?_⟩
        cases i with
        | zero =>
          simp only [List.getElem?_cons_zero, Option.some.injEq] at hc hu
          subst hc; subst hu
          cases h0 with | c h0 => exact h0
        | succ i => simp only [List.getElem?_cons_succ] at hc hu; exact h2 i c u' hc hu
      | row o e es => simp [zcells] at hc
      | hole => simp [zcells] at hc
    | nils =>
      simp only [zcells, Option.map_eq_some_iff] at hc
      obtain ⟨cs, hcs, rfl⟩ := hc
      obtain ⟨h1, h2⟩ := zcells_ok zs es.tail vs cs h' hcs
      refine ⟨by simp [h1], fun i c u' hc hu => ?_⟩
      cases i with
      | zero =>
        simp only [List.getElem?_cons_zero, Option.some.injEq] at hc hu
        subst hc; subst hu
        cases h0; exact RC.nilrow
      | succ i => simp only [List.getElem?_cons_succ] at hc hu; exact h2 i c u' hc hu
    | _ => simp [zcells] at hc
def makeA (P : Program) (st : St) (nid : Nat) (t : TypeId) (lv cv : AV) : Option (AV × St) :=
  match elemOf P t, lv, cv with
  | some e, .c (.sc (.int _ n)), .c (.sc (.int _ m)) => match einfo P e with
    | some (sz, by_, zs) => match zcells (cellE P e) zs with
      | some zc => if n = m ∧ 0 ≤ n ∧ n ≤ 9223372036854775807 ∧ (by_ : Int) * n ≤ 281474976710656 then
          some (.bor [(nid, 0)] 0 n.toNat, st.fill nid [.row true e (List.replicate n.toNat zc)] false) else none
      | none => none
    | none => none
  | _, _, _ => none
theorem makeA_ok {P : Program} (hZ0 : ZOk P Z) (h : Inv Z E st a w S vals fps cb) {nid : Nat} {t : TypeId} {lv cv av : AV} {lu cu : Value} {st' : St} (hf : st.free nid) (hnl : E.nl ≤ nid) (hl : RA Z w S st.rt vals (adr st.bx cb) lv lu) (hc : RA Z w S st.rt vals (adr st.bx cb) cv cu)
    (hb : makeA P st nid t lv cv = some (av, st')) : ∃ u w' vals' fps', (Instr.makeSlice t lu cu).run P w = .ok u w' ∧ Inv Z E st' a w' S vals' fps' cb ∧ RA Z w' S st'.rt vals' (adr st'.bx cb) av u := by
  unfold makeA at hb
  split at hb
  · rename_i e k1 n k2 m he
    cases hl with
    | c hl => cases hl with
      | sc hl => cases hc with
        | c hc => cases hc with
          | sc hc =>
            split at hb
            · rename_i sz by_ zs hei
              split at hb
              · rename_i zc hzc
                split at hb
                · rename_i hcond
                  obtain ⟨rfl, h0, h63, hby⟩ := hcond
                  simp only [Option.some.injEq, Prod.mk.injEq] at hb
                  obtain ⟨rfl, rfl⟩ := hb
                  obtain ⟨i, v, vs, hi, hz, hsz, hbi, hpos, hcs, hzl, hrl, h1⟩ := einfo_spec (Z := Z) (w := w) (S := S) (vals := vals) hei st.rt (adr st.bx cb)
                  obtain ⟨hzc1, hzc2⟩ := zcells_ok zs _ vs zc hrl hzc
                  have hvl : vs.length = sz := by rw [← hrl.1]; exact hzl
                  have hZ : Z e = sz := (hZ0 e i hi).trans hsz
                  have hzcl : zc.length = sz := by omega
                  have hr := run_make (P := P) w t e i v (elemOf_spec he) hi hz k1 k2 n n h0 (Int.le_refl _) (by rw [hbi]; exact hby) h63
                  have hvals : (madeCells v.cells (n.toNat * i.size)) = ((List.replicate n.toNat vs).flatten).toArray := by
                    apply Array.toList_inj.1
                    rw [hcs, hsz]
                    have := zeros_eq vs.toArray n.toNat (by simp; omega)
                    simp only [List.size_toArray, hvl] at this
                    unfold madeCells
                    simp only [List.size_toArray, hvl]
                    exact this
                  obtain ⟨vals', fps', hI, hA⟩ := h.newRow (e := e) (n := n.toNat) (sz := sz) (l := (List.replicate n.toNat zc).flatten) (vs := (List.replicate n.toNat vs).flatten) (fp := fun _ _ => False) hf hnl (by rw [rep_len, hzcl]) (by rw [rep_len, hvl]) hpos (by simp only [maxLen]; omega) hZ
                    (fun j c u hc hu => by
                      have hlt : j < n.toNat * zc.length := by have := (List.getElem?_eq_some_iff.1 hc).1; simpa using this
                      rw [rep_get zc _ j hlt] at hc
                      rw [rep_get vs _ j (by rw [hvl, ← hzcl]; exact hlt), hvl, ← hzcl] at hu
                      exact hzc2 _ c u hc hu) (fun _ _ _ h => h) (fun _ _ _ h => h.elim) (fun _ => ⟨fun _ h => h.elim, fun _ h => h.elim, fun _ h => h.elim⟩)
                  rw [chunk_rep zc sz hzcl] at hI hA
                  exact ⟨_, _, vals', fps', by rw [hr, hvals], hI, hA⟩
                · cases hb
              · cases hb
            · cases hb
  · cases hb
/-! ### append -/
def flatC : Cell → Bool
  | .sc _ => true
  | .row false _ _ => true
  | _ => false
def flatR (ys : Rows) : Bool := ys.all (·.all flatC)
/-- What is appended: its rows, and the path that they are taken from (none: they are copied). -/
def srcA (e : TypeId) (st : St) : AV → Option (Rows × Path)
  | .nils => some ([], [])
  | .c (.row false e' es) => if e' = e then some (es, []) else none
  | .bor q lo m => match look st.rt q with
    | some (.row true e' es) => if e' = e then (if flatR ((es.drop lo).take m) then some ((es.drop lo).take m, []) else if lo = 0 ∧ m = es.length then some (es, q) else none) else none
    | _ => none
  | _ => none
def St.tk (st : St) (q : Path) : St := match q with | [] => st | _ :: _ => st.setAt q .hole
def appendA (P : Program) (st : St) (nid : Nat) (t : TypeId) (bv xv : AV) : Option (AV × St) :=
  match elemOf P t with
  | some e => match einfo P e with
    | some (sz, by_, _) => match srcA e st xv with
      | some (ys, q) => match trq q id bv with
        | .nils => if ys.length ≤ 9223372036854775807 ∧ ys.length * by_ ≤ 140737488355328 then some (.bor [(nid, 0)] 0 ys.length, (st.tk q).fill nid [.row true e ys] false) else none
        | .bor p lo len => match look (st.tk q).rt p with
          | some (.row true e' es) => if e' = e ∧ lo = 0 ∧ len + ys.length ≤ 9223372036854775807 ∧ (len + ys.length) * by_ ≤ 140737488355328 then
              some (.bor [(nid, 0)] 0 (len + ys.length), ((st.tk q).setAt p .hole).fill nid [.row true e (es.take len ++ ys)] false) else none
          | _ => none
        | _ => none
      | none => none
    | none => none
  | none => none
/-- What an appended value is, in memory: 'vs' lie at its address; cells stand for them. -/
structure Src (Z : TypeId → Nat) (w : World) (S : Nat → Prop) (sz : Nat) (x : Value) (ys : Rows) (vs : List Value) (fp : Nat → Nat → Prop) : Prop where
  len : vs.length = ys.length * sz
  rows : ∀ r ∈ ys, r.length = sz
  at_ : (x = .slice none 0 0 ∧ ys = []) ∨ ∃ ad c, x = .slice (some ad) ys.length c ∧ ∀ (j : Nat) u, vs[j]? = some u → w.cell? (ad.add j) = some u
  rc : ∀ i c cell, cellAt ys i c = some cell → RC Z w S cell (lv vs sz i c) (fp (i * sz + c))
  out : ∀ j, vs.length ≤ j → ∀ k, ¬ fp j k
  dj : ∀ i j k, fp i k → fp j k → i = j
  one : ∀ u ∈ vs, u.oneCell' = true
theorem flat_fp {c : Cell} {v : Value} {fp : Nat → Prop} (hf : flatC c = true) (h : RC Z w S c v fp) : RC Z w S c v (fun _ => False) := by
  cases h with
  | sc h => exact .sc h
  | hole h => cases hf
  | own => cases hf
  | shr sz hz xs hs hsz hr => exact .shr sz hz xs hs hsz hr
theorem lv_mem {xs : List Value} {sz n i c : Nat} (hl : xs.length = n * sz) (hi : i < n) (hc : c < sz) : xs[i * sz + c]? = some (lv xs sz i c) := by
  have hlt : i * sz + c < xs.length := by
    rw [hl]
    have h1 : (i + 1) * sz ≤ n * sz := Nat.mul_le_mul_right _ hi
    rw [Nat.add_mul, Nat.one_mul] at h1; omega
  unfold lv
  rw [List.getD_eq_getElem?_getD, List.getElem?_eq_getElem hlt]; rfl
theorem cellAt_ex {es : Rows} {sz i c : Nat} (hrows : ∀ r ∈ es, r.length = sz) (hi : i < es.length) (hc : c < sz) : ∃ cell, cellAt es i c = some cell := by
  have hc2 : c < (es[i]).length := by rw [hrows _ (List.getElem_mem hi)]; exact hc
  exact ⟨(es[i])[c], by unfold cellAt; rw [List.getElem?_eq_getElem hi]; simp [hc2]⟩
theorem divmod_idx {sz j : Nat} (hp : 0 < sz) : j = (j / sz) * sz + j % sz := by
  have := Nat.div_add_mod j sz; rw [Nat.mul_comm] at this; omega
theorem one_of_rows {xs : List Value} {sz n : Nat} {es : Rows} (hp : 0 < sz) (hl : xs.length = n * sz) (hrows : ∀ r ∈ es, r.length = sz) (hn : es.length = n) (h : ∀ i c cell, cellAt es i c = some cell → (lv xs sz i c).oneCell' = true) : ∀ u ∈ xs, u.oneCell' = true := by
  intro u hu
  obtain ⟨j, hj, rfl⟩ := List.mem_iff_getElem.1 hu
  have hd := divmod_idx (j := j) hp
  have hm : j % sz < sz := Nat.mod_lt _ hp
  have hi : j / sz < n := by
    rw [hl] at hj
    exact Nat.div_lt_of_lt_mul (by rw [Nat.mul_comm]; exact hj)
  obtain ⟨cell, hc⟩ := cellAt_ex hrows (i := j / sz) (by rw [hn]; exact hi) hm
  have h1 := h _ _ cell hc
  have h2 := lv_mem hl hi hm
  rw [← hd, List.getElem?_eq_getElem hj] at h2
  rw [Option.some.inj h2]
  exact h1
theorem srcA_ok (h : Inv Z E st a w S vals fps cb) {e : TypeId} {sz : Nat} (hZe : Z e = sz) (hp : 0 < sz) {xv : AV} {xu : Value} {ys : Rows} {q : Path} (hx : RA Z w S st.rt vals (adr st.bx cb) xv xu) (hb : srcA e st xv = some (ys, q)) :
    ∃ fps' fp vs, Abd Z E st (st.tk q) a w S vals fps fps' cb (kill q) ∧ Src Z w S sz xu ys vs fp ∧ (∀ j, Flt E (st.tk q) fps' cb (fp j)) := by
  have nofl : ∀ (st' : St), Flt E st' fps cb (fun _ => False) := fun _ => ⟨fun _ h => h.elim, fun _ h => h.elim, fun _ h => h.elim⟩
  have A0 : Abd Z E st (st.tk []) a w S vals fps fps cb (kill []) := ⟨h, fun _ _ _ => id, rfl, fun av v hav => by rw [kill_nil]; exact hav⟩
  cases hx with
  | nils =>
    simp only [srcA, Option.some.injEq, Prod.mk.injEq] at hb
    obtain ⟨rfl, rfl⟩ := hb
    exact ⟨fps, fun _ _ => False, [], A0, ⟨by simp, by simp, .inl ⟨rfl, rfl⟩, fun i c cell hc => by simp [cellAt] at hc, fun _ _ _ h => h, fun _ _ _ h => h.elim, by simp⟩, fun _ => nofl _⟩
  | @c c0 v hc =>
    cases c0 with
    | sc v => simp [srcA] at hb
    | hole => simp [srcA] at hb
    | row o e' es =>
      cases o with
      | true => simp [srcA] at hb
      | false =>
        simp only [srcA] at hb
        split at hb
        · rename_i he
          subst he
          simp only [Option.some.injEq, Prod.mk.injEq] at hb
          obtain ⟨rfl, rfl⟩ := hb
          cases hc with
          | shr sz' hz xs hs hsz hr =>
            rw [hZe] at hz
            subst hz
            refine ⟨fps, fun _ _ => False, xs, A0, ⟨hs.1, hsz, ?_, hr, fun _ _ _ h => h, fun _ _ _ h => h.elim, one_of_rows hp hs.1 hsz rfl fun i c cell hc => (hr i c cell hc).one⟩, fun _ => nofl _⟩
            rcases hs.2 with ⟨rfl, h0⟩ | ⟨b, off, cap, cur, ty, fz, rfl, hS, hg, hn, hcm, hx⟩ | ⟨a2, cap, rfl, h0, _⟩
            · exact .inl ⟨rfl, List.eq_nil_of_length_eq_zero h0⟩
            rotate_left
            · exact .inr ⟨a2, cap, by rw [h0], fun j u hu => by have := hs.1; rw [h0, Nat.zero_mul] at this; rw [List.eq_nil_of_length_eq_zero this] at hu; cases hu⟩
            · refine .inr ⟨⟨b, off, none⟩, cap, rfl, fun j u hu => ?_⟩
              rw [addr_add _ rfl]
              rw [← hx, List.getElem?_take] at hu
              split at hu
              · rw [List.getElem?_drop] at hu
                unfold World.cell?
                rw [hg]
                simpa using hu
              · cases hu
        · cases hb
  | @bor q2 e' es sz' lo m _ hl hsz hlen hs =>
    simp only [srcA, hl] at hb
    split at hb
    · rename_i he
      subst he
      obtain ⟨fpc, hrc, _⟩ := focus q2 st.rt vals (adr st.bx cb) fps _ h.rr hl
      obtain ⟨sz2, xs, fps', ho, hsz2, hrr, hg, hfp, hze⟩ := own_inner hrc
      rw [hZe] at hze
      subst hze
      -- where it lies
      have hlie : ∀ (n' : Nat), n' = m → True → (xu = .slice none 0 0 ∧ m = 0) ∨ ∃ (ad : Addr) (c : Nat), xu = .slice (some ad) m c ∧ ∀ (j : Nat) u, ((xs.drop (lo * sz)).take (m * sz))[j]? = some u → w.cell? (ad.add j) = some u := by
        intro n' _ _
        rcases hs with ⟨_, rfl, _, rfl⟩ | ⟨g, n, cap, hv, hle, hs⟩
        · exact .inl ⟨rfl, rfl⟩
        · right
          rcases ho.2 with ⟨hh, _⟩ | ⟨g2, cap2, cur, hh, hb2, hgg, hnc, hcm, hcs, htake⟩
          · rw [hv] at hh; cases hh
          · rw [hv] at hh
            cases hh
            have hrd : ∀ (off : Nat) (j : Nat) u, (m = 0 ∨ off = lo * sz) → ((xs.drop (lo * sz)).take (m * sz))[j]? = some u → w.cell? ((⟨g, off, none⟩ : Addr).add j) = some u := by
              intro off j u hoff hu
              rw [List.getElem?_take] at hu
              split at hu
              · rename_i hj
                rcases hoff with rfl | rfl
                · simp at hj
                · rw [List.getElem?_drop, ← htake, List.getElem?_take] at hu
                  split at hu
                  · rw [addr_add _ rfl]
                    unfold World.cell?
                    rw [hgg]
                    simpa using hu
                  · cases hu
              · cases hu
            rcases hs with ⟨hlo, rfl⟩ | ⟨_, off, cap', rfl, _, _, hoff⟩
            · exact ⟨⟨g, 0, none⟩, _, rfl, fun j u hu => hrd 0 j u (.inr (by rw [hlo]; simp)) hu⟩
            · exact ⟨⟨g, off, none⟩, _, rfl, fun j u hu => hrd off j u (by
                rcases hoff with h0 | h0
                · exact .inl h0
                · by_cases hm0 : m = 0
                  · exact .inl hm0
                  · right
                    have hpos : 0 < es.length := by omega
                    have h1 := hsz _ (List.getElem_mem hpos)
                    have h2 := hsz2 _ (List.getElem_mem hpos)
                    rw [h0, ← h1, h2]) hu⟩
      have hvl : ((xs.drop (lo * sz)).take (m * sz)).length = m * sz := by
        rw [List.length_take, List.length_drop, ho.1, Nat.min_eq_left]
        have h1 : (lo + m) * sz ≤ es.length * sz := Nat.mul_le_mul_right _ hlen
        rw [Nat.add_mul] at h1; omega
      have hylen : ((es.drop lo).take m).length = m := by rw [List.length_take, List.length_drop]; omega
      have hyrows : ∀ r ∈ (es.drop lo).take m, r.length = sz := fun r hr => hsz2 r (List.mem_of_mem_drop (List.mem_of_mem_take hr))
      have hycell : ∀ i c cell, Abs.cellAt ((es.drop lo).take m) i c = some cell → Abs.cellAt es (lo + i) c = some cell ∧ i < m ∧ c < sz := by
        intro i c cell hc
        obtain ⟨hi, hcs⟩ := cellAt_col hyrows hc
        rw [hylen] at hi
        refine ⟨?_, hi, hcs⟩
        unfold Abs.cellAt at hc ⊢
        rw [List.getElem?_take, if_pos hi, List.getElem?_drop] at hc
        exact hc
      have hylv : ∀ i c, i < m → c < sz → lv ((xs.drop (lo * sz)).take (m * sz)) sz i c = rowVals w (plc w st.rt vals (adr st.bx cb) q2).1 (width es) (lo + i) c := by
        intro i c hi hc
        have hw : width es = sz := width_eq hsz2 (by omega)
        rw [hw, ← lv_rowVals ho (by omega) hc]
        unfold lv
        rw [List.getD_eq_getElem?_getD, List.getD_eq_getElem?_getD, List.getElem?_take, if_pos, List.getElem?_drop]
        · congr 2; rw [Nat.add_mul]; omega
        · have h1 : (i + 1) * sz ≤ m * sz := Nat.mul_le_mul_right _ hi
          rw [Nat.add_mul, Nat.one_mul] at h1; omega
      split at hb
      · rename_i hflat
        simp only [Option.some.injEq, Prod.mk.injEq] at hb
        obtain ⟨rfl, rfl⟩ := hb
        have hrcf : ∀ i c cell, Abs.cellAt ((es.drop lo).take m) i c = some cell → RC Z w S cell (lv ((xs.drop (lo * sz)).take (m * sz)) sz i c) (fun _ => False) := by
          intro i c cell hc
          obtain ⟨h1, hi, hcs⟩ := hycell i c cell hc
          rw [hylv i c hi hcs]
          refine flat_fp ?_ (hrr.rc _ _ cell h1)
          obtain ⟨_, r, hr1, hr2⟩ := cellAt_lt hc
          exact List.all_eq_true.1 (List.all_eq_true.1 hflat r (List.mem_of_getElem? hr1)) cell (List.mem_of_getElem? hr2)
        refine ⟨fps, fun _ _ => False, _, A0, ⟨by rw [hvl, hylen], hyrows, ?_, hrcf, fun _ _ _ h => h, fun _ _ _ h => h.elim, one_of_rows hp hvl hyrows hylen fun i c cell hc => (hrcf i c cell hc).one⟩, fun _ => nofl _⟩
        rw [hylen]
        rcases hlie m rfl trivial with ⟨h1, h2⟩ | h1
        · exact .inl ⟨h1, List.eq_nil_of_length_eq_zero (by omega)⟩
        · exact .inr h1
      · split at hb
        · rename_i hfull
          obtain ⟨rfl, rfl⟩ := hfull
          simp only [Option.some.injEq, Prod.mk.injEq] at hb
          obtain ⟨rfl, rfl⟩ := hb
          obtain ⟨fps2, fpc2, h1, h2, h3, h4, h5, h6⟩ := h.take hl
          obtain ⟨sz3, xs3, fps3, ho3, hsz3, hrr3, hg3, hfp3, hze3⟩ := own_inner h2
          rw [hZe] at hze3
          subst hze3
          have hq2 : st.tk q2 = st.setAt q2 .hole := by
            cases q2 with
            | nil => simp [look] at hl
            | cons => rfl
          simp only [List.drop_zero, Nat.zero_mul, List.take_length] at hyrows hylen hycell hylv hlie hvl
          have hxs3 : xs3 = xs := by
            rcases ho.2 with ⟨hh, h0⟩ | ⟨g, cap, cur, hh, _, hgg, _, _, _, ht⟩
            · have e1 : xs = [] := List.eq_nil_of_length_eq_zero (by rw [ho.1, h0]; simp)
              have e2 : xs3 = [] := List.eq_nil_of_length_eq_zero (by rw [ho3.1, h0]; simp)
              rw [e1, e2]
            · rcases ho3.2 with ⟨hh3, h0⟩ | ⟨g3, cap3, cur3, hh3, _, hgg3, _, _, _, ht3⟩
              · have e1 : xs = [] := List.eq_nil_of_length_eq_zero (by rw [ho.1, h0]; simp)
                have e2 : xs3 = [] := List.eq_nil_of_length_eq_zero (by rw [ho3.1, h0]; simp)
                rw [e1, e2]
              · rw [hh] at hh3
                cases hh3
                rw [hgg] at hgg3
                cases hgg3
                rw [← ht, ← ht3]
          have htk : xs.take (es.length * sz) = xs := List.take_of_length_le (by rw [ho.1]; exact Nat.le_refl _)
          have hw : 0 < es.length → width es = sz := fun hn => width_eq hsz2 hn
          refine ⟨fps2, fun j k => ∃ i c, j = i * sz + c ∧ c < sz ∧ fps3 i c k, xs, by rw [hq2]; exact ⟨h1, h4, rfl, h6⟩, ⟨ho.1, hsz2, ?_, fun i c cell hc => ?_, fun j hj k hk => ?_, fun i j k hi hj => ?_, one_of_rows hp ho.1 hsz2 rfl fun i c cell hc => ?_⟩, fun j => ?_⟩
          · rw [htk] at hlie
            rcases hlie es.length rfl trivial with ⟨h7, h8⟩ | h7
            · exact .inl ⟨h7, List.eq_nil_of_length_eq_zero h8⟩
            · exact .inr h7
          · obtain ⟨hi, hcs⟩ := cellAt_col hsz2 hc
            have h7 := hrr3.rc i c cell hc
            rw [hw (by omega), ← lv_rowVals ho3 hi hcs, hxs3] at h7
            have heq : (fun k => ∃ i' c', i * sz + c = i' * sz + c' ∧ c' < sz ∧ fps3 i' c' k) = fps3 i c := by
              funext k
              apply propext
              constructor
              · rintro ⟨i', c', he, hc', hk⟩
                obtain ⟨rfl, rfl⟩ := idx_inj hcs hc' he
                exact hk
              · exact fun hk => ⟨i, c, rfl, hcs, hk⟩
            rw [heq]; exact h7
          · obtain ⟨i, c, rfl, hc, hk⟩ := hk
            by_cases hi : i < es.length
            · have h9 : (i + 1) * sz ≤ es.length * sz := Nat.mul_le_mul_right _ hi
              rw [Nat.add_mul, Nat.one_mul] at h9
              rw [ho.1] at hj; omega
            · have hno : Abs.cellAt es i c = none := by unfold Abs.cellAt; rw [List.getElem?_eq_none (by omega)]; rfl
              exact hrr3.out i c hno k hk
          · obtain ⟨i1, c1, rfl, _, hk1⟩ := hi
            obtain ⟨i2, c2, rfl, _, hk2⟩ := hj
            obtain ⟨rfl, rfl⟩ := hrr3.dj _ _ _ _ _ hk1 hk2
            rfl
          · obtain ⟨hi, hcs⟩ := cellAt_col hsz2 hc
            have h7 := (hrr3.rc i c cell hc).one
            rw [hw (by omega), ← lv_rowVals ho3 hi hcs, hxs3] at h7
            exact h7
          · rw [hq2]
            refine h3.mono (fun k hk => ?_) (fun _ _ _ => id) rfl
            obtain ⟨i, c, _, _, hk⟩ := hk
            rw [hfp3]; exact .inr ⟨i, c, hk⟩
        · cases hb
    · cases hb
  | ptr _ _ => simp [srcA] at hb
  | sptr _ _ _ _ => simp [srcA] at hb
  | agg _ _ _ => simp [srcA] at hb
  | tup _ _ => simp [srcA] at hb
  | fn _ _ _ _ => simp [srcA] at hb
  | dead => simp [srcA] at hb
end
end Go.Abs

/- append. -/
namespace Go.Abs
open Go
set_option linter.unusedVariables false
set_option linter.unusedSimpArgs false
variable {Z : TypeId → Nat}
theorem Fr.drew_alloc (w : World) (o : Obj) : Fr (fun _ => False) w (w.drew.alloc o) := ⟨rfl, rfl, rfl, by simp, fun k hk _ => heap_alloc_old w.drew _ k hk⟩
/-- An append as memory has it. -/
theorem append_run {P : Program} (w : World) (t ty e : TypeId) (i : TypeInfo) (z : Value) (sz by_ : Nat) (ht : P.underlying t = some (.slice e)) (hi : P.info? e = some i) (hz : i.zero = some z) (hsize : i.size = sz) (hby : i.bytes = by_)
    (hzs : z.cells.size = sz) (hsz : 0 < sz) (v : Value) (n : Nat) (xs : List Value) (hown : w.ownsRow 0 e sz v n xs) (x : Value) (m : Nat) (news : List Value) (hl : news.length = m * sz)
    (hx : (x = .slice none 0 0 ∧ m = 0) ∨ ∃ ad c, x = .slice (some ad) m c ∧ ∀ (j : Nat) u, news[j]? = some u → w.cell? (ad.add j) = some u) (h1 : ∀ u ∈ news, u.oneCell' = true) (h63 : n + m ≤ maxLen) (hb : (n + m) * by_ ≤ 140737488355328) :
    ∃ v' w', (Builtin.append_ #[t, t] ty #[v, x]).run P w = .ok v' w' ∧ w'.ownsRow 0 e sz v' (n + m) (xs ++ news) ∧ Fr (fun k => v.ownBlock = some k) w w' ∧ (∀ g, v'.ownBlock = some g → v.ownBlock = some g ∨ w.heap.size ≤ g) := by
  have grow0 : ∀ {w' : World} {row : Option Nat}, w.grownBy w' row → Fr (fun k => row = some k) w w' := fun hg => ⟨hg.os, hg.tape, hg.output, hg.size, fun k hk hr => hg.block k hk fun e => hr e.symm⟩
  rcases hx with ⟨rfl, rfl⟩ | ⟨ad, c, rfl, hnews⟩
  · have hn0 : news = [] := List.eq_nil_of_length_eq_zero (by simpa using hl)
    subst hn0
    refine ⟨v, w, run_append_owned_none w 0 t ty e i sz ht hi v n xs hown, by simpa using hown, ⟨rfl, rfl, rfl, Nat.le_refl _, fun _ _ _ => rfl⟩, fun g hg => .inl hg⟩
  · rcases hown.2 with ⟨rfl, rfl⟩ | ⟨g, cap, cur, rfl, hbg, hg, hnc, hcm, hcs, htake⟩
    · have hx0 : xs = [] := List.eq_nil_of_length_eq_zero (by simpa using hown.1)
      subst hx0
      obtain ⟨v', w', hr, ho, hgr, _⟩ := run_append_own (P := P) w w.heap.size t ty e i z sz by_ ht hi hz hsize hby hzs hsz (.slice none 0 0) 0 [] (World.ownsRow_nil _ _ _ _) ad m c news hl hnews h1 h63 hb (Nat.le_refl _)
      refine ⟨v', w', hr, ?_, grow0 hgr, fun g hg => .inr (ho.lt g hg).1⟩
      refine ⟨ho.1, ho.2.imp id ?_⟩
      rintro ⟨g, cap, cur, h1, _, h2⟩
      exact ⟨g, cap, cur, h1, Nat.zero_le _, h2⟩
    · by_cases hroom : n + m ≤ cap
      · obtain ⟨w', hr, ho, hgr⟩ := run_append_fits (P := P) w 0 t ty e i sz ht hi hsize g n cap xs hown ad m c news hl hnews h1 hroom
        exact ⟨_, w', hr, ho, grow0 hgr, fun g' hg' => .inl hg'⟩
      · obtain ⟨v', w', hr, ho, hgr, _⟩ := run_append_own (P := P) w 0 t ty e i z sz by_ ht hi hz hsize hby hzs hsz _ n xs hown ad m c news hl hnews h1 h63 hb (Nat.zero_le _)
        refine ⟨v', w', hr, ho, grow0 hgr, fun g' hg' => .inr ?_⟩
        have holds : ∀ (j : Nat) u, xs[j]? = some u → w.cell? ((⟨g, 0, none⟩ : Addr).add j) = some u := hown.cells (g := g) rfl
        have hr2 := run_append_grow (P := P) w t ty e i z ht hi hz ⟨g, 0, none⟩ n cap xs (by rw [hsize]; exact hown.1) holds ad m c news (by rw [hsize]; exact hl) hnews (by omega) (by simp only [maxLen] at h63; omega) (growslice_fits (by omega) (by rw [hby]; exact hb))
        rw [hr] at hr2
        injection hr2 with hv hw
        subst hv
        simp only [Value.ownBlock, Option.some.injEq] at hg'
        omega
section
variable {E : Ent} {st : St} {a : Act} {w w' : World} {S : Nat → Prop} {vals : Nat → Nat → Value} {fps : Nat → Nat → Nat → Prop} {cb : Nat → Nat}
/-- Rows joined. -/
theorem cellAt_append {xs ys : Rows} {i c : Nat} {cell : Cell} (h : cellAt (xs ++ ys) i c = some cell) : (i < xs.length ∧ cellAt xs i c = some cell) ∨ (xs.length ≤ i ∧ cellAt ys (i - xs.length) c = some cell) := by
  unfold cellAt at *
  by_cases hi : i < xs.length
  · rw [List.getElem?_append_left hi] at h; exact .inl ⟨hi, h⟩
  · rw [List.getElem?_append_right (by omega)] at h; exact .inr ⟨by omega, h⟩
theorem lv_append_left {xs ys : List Value} {sz n i c : Nat} (hl : xs.length = n * sz) (hi : i < n) (hc : c < sz) : lv (xs ++ ys) sz i c = lv xs sz i c := by
  have hlt : i * sz + c < xs.length := by
    rw [hl]
    have h1 : (i + 1) * sz ≤ n * sz := Nat.mul_le_mul_right _ hi
    rw [Nat.add_mul, Nat.one_mul] at h1; omega
  unfold lv
  rw [List.getD_eq_getElem?_getD, List.getD_eq_getElem?_getD, List.getElem?_append_left hlt]
theorem lv_append_right {xs ys : List Value} {sz n i c : Nat} (hl : xs.length = n * sz) (hi : n ≤ i) : lv (xs ++ ys) sz i c = lv ys sz (i - n) c := by
  have h1 : n * sz ≤ i * sz := Nat.mul_le_mul_right _ hi
  unfold lv
  rw [List.getD_eq_getElem?_getD, List.getD_eq_getElem?_getD, List.getElem?_append_right (by rw [hl]; omega), hl, Nat.sub_mul]
  congr 2
  omega
/-- A row in hand, joined with rows in hand, in a new root. -/
theorem joined {P : Program} (hZ0 : ZOk P Z) {t e : TypeId} {sz by_ : Nat} {zs : List AV} (hei : einfo P e = some (sz, by_, zs)) (he : elemOf P t = some e) {nid : Nat} (h : Inv Z E st a w S vals fps cb) (hf : st.free nid) (hnl : E.nl ≤ nid)
    {es ys : Rows} {bu xu : Value} {fpB : Nat → Prop} {vs : List Value} {fp : Nat → Nat → Prop} (hB : RC Z w S (.row true e es) bu fpB) (hBf : Flt E st fps cb fpB) (hS : Src Z w S sz xu ys vs fp) (hSf : ∀ j, Flt E st fps cb (fp j)) (hdj : ∀ k, fpB k → ∀ j, ¬ fp j k)
    (h63 : es.length + ys.length ≤ maxLen) (hby : (es.length + ys.length) * by_ ≤ 140737488355328) (ty : TypeId) :
    ∃ u w' vals' fps', (Builtin.append_ #[t, t] ty #[bu, xu]).run P w = .ok u w' ∧ Inv Z E (st.fill nid [.row true e (es ++ ys)] false) a w' S vals' fps' cb ∧
      RA Z w' S (st.fill nid [.row true e (es ++ ys)] false).rt vals' (adr (st.fill nid [.row true e (es ++ ys)] false).bx cb) (.bor [(nid, 0)] 0 (es.length + ys.length)) u := by
  obtain ⟨i, zv, zvs, hi, hz, hsz, hbi, hpos, hcs, hzl, hrl, h1⟩ := einfo_spec (Z := Z) (w := w) (S := S) (vals := vals) hei st.rt (adr st.bx cb)
  have hZ : Z e = sz := (hZ0 e i hi).trans hsz
  cases hB with
  | own sz' hz' xs fps0 ho hrows hr hout hd hg =>
    rw [hZ] at hz'
    subst hz'
    obtain ⟨u, w', hrun, ho', hfr, hown'⟩ := append_run (P := P) w t ty e i zv sz by_ (elemOf_spec he) hi hz hsz hbi (by rw [hcs, List.size_toArray, ← hrl.1]; exact hzl) hpos bu es.length xs ho xu ys.length vs hS.len (by
      rcases hS.at_ with ⟨h2, h3⟩ | h2
      · exact .inl ⟨h2, by rw [h3]; rfl⟩
      · exact .inr h2) hS.one h63 hby
    have hX : Flt E st fps cb (fun k => bu.ownBlock = some k) := hBf.mono (fun k hk => .inl hk) (fun _ _ _ => id) rfl
    have hXS : ∀ k, bu.ownBlock = some k → ¬ S k := fun k hk => (hg k hk).1
    have h2 := h.world hfr hX hXS
    have hgnew : ∀ g, u.ownBlock = some g → ¬ S g ∧ (∀ i c, ¬ fps0 i c g) ∧ (∀ j, ¬ fp j g) := by
      intro g hgu
      rcases hown' g hgu with h3 | h3
      · exact ⟨(hg g h3).1, (hg g h3).2, fun j => hdj g (.inl h3) j⟩
      · refine ⟨fun hs => by have := h.slt g hs; omega, fun i c hk => ?_, fun j hk => ?_⟩
        · cases hc : Abs.cellAt es i c with
          | none => exact hout i c hc g hk
          | some cell => have := (hr i c cell hc).lt g hk; omega
        · by_cases hj : j < vs.length
          · have hd2 := divmod_idx (j := j) hpos
            have hm := Nat.mod_lt j hpos
            have hi2 : j / sz < ys.length := Nat.div_lt_of_lt_mul (by rw [Nat.mul_comm, ← hS.len]; exact hj)
            obtain ⟨cell, hc⟩ := cellAt_ex hS.rows hi2 hm
            have := (hS.rc _ _ cell hc).lt g (by rw [← hd2]; exact hk)
            omega
          · exact hS.out j (by omega) g hk
    have hfull : w'.ownsRow 0 e sz u (es ++ ys).length (xs ++ vs) := by rw [List.length_append]; exact ho'
    let fpsN : Nat → Nat → Nat → Prop := fun i c k => if i < es.length then fps0 i c k else (c < sz ∧ i < es.length + ys.length ∧ fp ((i - es.length) * sz + c) k)
    have hrow : RC Z w' S (.row true e (es ++ ys)) u (fun k => u.ownBlock = some k ∨ ∃ i c, fpsN i c k) := by
      refine .own sz hZ (xs ++ vs) fpsN hfull (fun r hr2 => ?_) (fun i c cell hc => ?_) (fun i c hc k hk => ?_) (fun i c i' c' k hk1 hk2 => ?_) fun g hgu => ⟨(hgnew g hgu).1, fun i c hk => ?_⟩
      · rcases List.mem_append.1 hr2 with hr2 | hr2
        · exact hrows r hr2
        · exact hS.rows r hr2
      · rcases cellAt_append hc with ⟨hi2, hc2⟩ | ⟨hi2, hc2⟩
        · have heq : fpsN i c = fps0 i c := by funext k; simp only [fpsN, hi2, if_true]
          rw [heq, lv_append_left ho.1 hi2 (cellAt_col hrows hc2).2]
          exact (hr i c cell hc2).world hfr h.slt hXS fun k hk hbk => (hg k hbk).2 i c hk
        · obtain ⟨hi3, hc3⟩ := cellAt_col hS.rows hc2
          have heq : fpsN i c = fp ((i - es.length) * sz + c) := by
            funext k
            have : ¬ i < es.length := by omega
            simp only [fpsN, this, if_false, hc3, true_and]
            apply propext
            exact ⟨fun h => h.2, fun h => ⟨by omega, h⟩⟩
          rw [heq, lv_append_right ho.1 hi2]
          exact (hS.rc _ _ cell hc2).world hfr h.slt hXS fun k hk hbk => hdj k (.inl hbk) _ hk
      · simp only [fpsN] at hk
        unfold Abs.cellAt at hc
        split at hk
        · rename_i hi2
          rw [List.getElem?_append_left hi2] at hc
          exact hout i c hc k hk
        · rename_i hi2
          obtain ⟨hcs2, hi3, _⟩ := hk
          rw [List.getElem?_append_right (by omega)] at hc
          obtain ⟨cell, hcell⟩ := cellAt_ex hS.rows (show i - es.length < ys.length by omega) hcs2
          unfold Abs.cellAt at hcell
          rw [hcell] at hc; cases hc
      · simp only [fpsN] at hk1 hk2
        split at hk1
        · rename_i e1
          split at hk2
          · exact hd _ _ _ _ _ hk1 hk2
          · exact absurd hk2.2.2 (hdj k (.inr ⟨i, c, hk1⟩) _)
        · rename_i e1
          split at hk2
          · exact absurd hk1.2.2 (hdj k (.inr ⟨i', c', hk2⟩) _)
          · rename_i e2
            have h5 := hS.dj _ _ _ hk1.2.2 hk2.2.2
            obtain ⟨h6, h7⟩ := idx_inj hk1.1 hk2.1 h5
            exact ⟨by omega, h7⟩
      · simp only [fpsN] at hk
        split at hk
        · exact (hgnew g hgu).2.1 i c hk
        · exact (hgnew g hgu).2.2 _ hk.2.2
    have hkey : ∀ k, (u.ownBlock = some k ∨ ∃ i c, fpsN i c k) → w.heap.size ≤ k ∨ bu.ownBlock = some k ∨ (∃ i c, fps0 i c k) ∨ ∃ j, fp j k := by
      rintro k (hk | ⟨i, c, hk⟩)
      · rcases hown' k hk with h3 | h3
        · exact .inr (.inl h3)
        · exact .inl h3
      · simp only [fpsN] at hk
        split at hk
        · exact .inr (.inr (.inl ⟨i, c, hk⟩))
        · exact .inr (.inr (.inr ⟨_, hk.2.2⟩))
    have hflt : Flt E st fps cb (fun k => u.ownBlock = some k ∨ ∃ i c, fpsN i c k) := by
      refine ⟨fun k hk r c hk2 => ?_, fun k hk r hb e2 => ?_, fun k hk => ?_⟩
      · rcases hkey k hk with h3 | h3 | h3 | ⟨j, h3⟩
        · have := h.rr.lt hk2; omega
        · exact hBf.no k (.inl h3) r c hk2
        · exact hBf.no k (.inr h3) r c hk2
        · exact (hSf j).no k h3 r c hk2
      · rcases hkey k hk with h3 | h3 | h3 | ⟨j, h3⟩
        · have := h.box_lt hb; omega
        · exact hBf.nb k (.inl h3) r hb e2
        · exact hBf.nb k (.inr h3) r hb e2
        · exact (hSf j).nb k h3 r hb e2
      · rcases hkey k hk with h3 | h3 | h3 | ⟨j, h3⟩
        · exact .inr (Nat.le_trans h.fr.size h3)
        · exact hBf.own k (.inl h3)
        · exact hBf.own k (.inr h3)
        · exact (hSf j).own k h3
    have h3 := h2.fill hf hnl [.row true e (es ++ ys)] (fun _ => u) (fun c k => if c = 0 then (u.ownBlock = some k ∨ ∃ i c, fpsN i c k) else False) (fun c cell hc => by
      cases c with
      | zero => simp only [List.getElem?_cons_zero, Option.some.injEq] at hc; subst hc; simpa using hrow
      | succ c => simp at hc) (fun c hc k hk => by
        have : c ≠ 0 := by simp at hc; omega
        simp [this] at hk) (fun c c' k h1 h2 => by
        by_cases e1 : c = 0
        · by_cases e2 : c' = 0
          · rw [e1, e2]
          · simp [e2] at h2
        · simp [e1] at h1) (fun c => by
        by_cases hc : c = 0
        · simpa [hc] using hflt
        · simp only [hc, if_false]; exact ⟨fun _ h => h.elim, fun _ h => h.elim, fun _ h => h.elim⟩)
    have hr : nid < st.rt.length := (List.getElem?_eq_some_iff.1 hf.1).1
    refine ⟨u, w', _, _, hrun, h3, .bor (e := e) (es' := es ++ ys) (sz := sz) ?_ (fun r hr2 => ?_) (by rw [List.length_append]; omega) ?_⟩
    · rw [look_one, St.fill, cellAt_set _ _ _ hr, if_pos rfl]; rfl
    · rcases List.mem_append.1 hr2 with hr2 | hr2
      · exact hrows r hr2
      · exact hS.rows r hr2
    · simp only [plc_one, if_true]
      have := sub_full hfull
      rw [List.length_append] at this
      exact this
theorem tk_free {q : Path} {r : Nat} (hf : st.free r) : (st.tk q).free r := by
  cases q with
  | nil => exact hf
  | cons x q => exact ⟨free_set hf.1, hf.2⟩
theorem appendA_ok {P : Program} (hZ0 : ZOk P Z) (h : Inv Z E st a w S vals fps cb) {nid : Nat} {t ty : TypeId} {bv xv av : AV} {bu xu : Value} {st' : St} (hf : st.free nid) (hnl : E.nl ≤ nid) (hbv : RA Z w S st.rt vals (adr st.bx cb) bv bu) (hxv : RA Z w S st.rt vals (adr st.bx cb) xv xu)
    (hb : appendA P st nid t bv xv = some (av, st')) : ∃ u w' vals' fps', (Builtin.append_ #[t, t] ty #[bu, xu]).run P w = .ok u w' ∧ Inv Z E st' a w' S vals' fps' cb ∧ RA Z w' S st'.rt vals' (adr st'.bx cb) av u := by
  unfold appendA at hb
  split at hb
  · rename_i e he
    split at hb
    · rename_i sz by_ zs hei
      split at hb
      · rename_i ys q hsrc
        obtain ⟨i, zv, zvs, hi, hz, hsz, hbi, hpos, _⟩ := einfo_spec (Z := Z) (w := w) (S := S) (vals := vals) hei st.rt (adr st.bx cb)
        have hZ : Z e = sz := (hZ0 e i hi).trans hsz
        obtain ⟨fps1, fp, vs, A, hS, hSf⟩ := srcA_ok h hZ hpos hxv hsrc
        have hbv1 := A.tr _ _ hbv
        have hbv1 : RA Z w S (st.tk q).rt vals (adr (st.tk q).bx cb) (trq q id bv) bu := by rw [trq_eq]; exact hbv1
        have hf1 := tk_free (q := q) hf
        split at hb
        · rename_i hbn
          rw [hbn] at hbv1
          cases hbv1
          split at hb
          · rename_i hc
            simp only [Option.some.injEq, Prod.mk.injEq] at hb
            obtain ⟨rfl, rfl⟩ := hb
            have hno : ∀ k, ¬ ((fun _ => False : Nat → Prop) k) := fun _ h => h
            obtain ⟨u, w', vals', fps', h1, h2, h3⟩ := joined (P := P) hZ0 hei he A.inv hf1 hnl (es := []) (ys := ys) (bu := .slice none 0 0) (xu := xu) (fpB := fun _ => False) RC.nilrow ⟨fun _ h => h.elim, fun _ h => h.elim, fun _ h => h.elim⟩ hS hSf (fun _ h => h.elim) (by simp [maxLen]; omega) (by simpa using hc.2) ty
            simp only [List.nil_append, List.length_nil, Nat.zero_add] at h2 h3
            exact ⟨u, w', vals', fps', h1, h2, h3⟩
          · cases hb
        · rename_i p lo len hbn
          rw [hbn] at hbv1
          split at hb
          · rename_i e' es hl
            split at hb
            · rename_i hc
              obtain ⟨rfl, rfl, h63, hby⟩ := hc
              simp only [Option.some.injEq, Prod.mk.injEq] at hb
              obtain ⟨rfl, rfl⟩ := hb
              cases hbv1 with
              | @bor _ e2 es2 sz2 _ _ _ hl2 hrows2 hlen2 hs2 =>
                rw [hl] at hl2
                cases hl2
                obtain ⟨fps2, fpc, k1, k2, k3, k4, k5, k6⟩ := A.inv.take hl
                obtain ⟨fpB, k7, k8⟩ := k2.take (sz := sz2) (by omega) hs2
                have htl : (es.take len).length = len := by rw [List.length_take]; omega
                have hSf2 : ∀ j, Flt E ((st.tk q).setAt p .hole) fps2 cb (fp j) := fun j => (hSf j).mono (fun _ => id) k4 rfl
                obtain ⟨u, w', vals', fps', h1, h2, h3⟩ := joined (P := P) hZ0 hei he k1 (nid := nid) ⟨free_set hf1.1, hf1.2⟩ hnl k7 (k3.mono k8 (fun _ _ _ => id) rfl) hS hSf2 (fun k hk j hj => by
                  obtain ⟨r, c, hk2⟩ := k5 k (k8 k hk)
                  exact (hSf j).no k hj r c hk2) (by rw [htl]; simp only [maxLen]; omega) (by rw [htl]; exact hby) ty
                rw [htl] at h3
                exact ⟨u, w', vals', fps', h1, h2, h3⟩
            · cases hb
          · cases hb
        · cases hb
      · cases hb
    · cases hb
  · cases hb
end
end Go.Abs

/- Addresses, indices, cuts, lengths. -/
namespace Go.Abs
open Go
set_option linter.unusedVariables false
set_option linter.unusedSimpArgs false
variable {Z : TypeId → Nat}
theorem look_snoc : ∀ (p : Path) (es es' : Rows) (e : TypeId) (i c : Nat), look es p = some (.row true e es') → look es (p ++ [(i, c)]) = cellAt es' i c
  | [], _, _, _, _, _, h => by simp [look] at h
  | [(j, d)], es, es', e, i, c, h => by rw [look_one] at h; exact look_own (i, c) [] h
  | (j, d) :: q :: p, es, es', e, i, c, h => by
    obtain ⟨e2, es2, hc, hin⟩ := look_inv h
    have : ((j, d) :: q :: p) ++ [(i, c)] = (j, d) :: q :: (p ++ [(i, c)]) := rfl
    rw [this, look_own q _ hc]
    exact look_snoc (q :: p) es2 es' e i c hin
theorem plc_snoc (w : World) : ∀ (p : Path) (es es' : Rows) (vals : Nat → Nat → Value) (ad : Nat → Nat → Option Addr) (e : TypeId) (i c : Nat), look es p = some (.row true e es') →
    plc w es vals ad (p ++ [(i, c)]) = (rowVals w (plc w es vals ad p).1 (width es') i c, rowAd (plc w es vals ad p).1 (width es') i c)
  | [], _, _, _, _, _, _, _, h => by simp [look] at h
  | [(j, d)], es, es', vals, ad, e, i, c, h => by rw [look_one] at h; exact plc_own vals ad (i, c) [] h
  | (j, d) :: q :: p, es, es', vals, ad, e, i, c, h => by
    obtain ⟨e2, es2, hc, hin⟩ := look_inv h
    have : ((j, d) :: q :: p) ++ [(i, c)] = (j, d) :: q :: (p ++ [(i, c)]) := rfl
    rw [this, plc_own vals ad q _ hc, plc_own vals ad q _ hc]
    exact plc_snoc w (q :: p) es2 es' _ _ e i c hin
/-- A field of a struct type: where it stands, its type. -/
def fldOf (P : Program) (t : TypeId) (f : Nat) : Option (Nat × Bool × Nat) :=
  match P.underlying t with
  | some (.struct fs) => match fs[f]? with
    | some fd => match tinfo P fd.type with
      | some (ag, n) => some (fd.offset, ag, n)
      | none => none
    | none => none
  | _ => none
section
variable {E : Ent} {st : St} {a : Act} {w w' : World} {S : Nat → Prop} {vals : Nat → Nat → Value} {fps : Nat → Nat → Nat → Prop} {cb : Nat → Nat}
def fieldAddrA (P : Program) (st : St) (t : TypeId) (f : Nat) (av : AV) : Option AV :=
  match fldOf P t f with
  | some (off, _, n) => if n = 0 then none else match av with
    | .ptr p => match look st.rt (bump p off) with
      | some _ => some (.ptr (bump p off))
      | none => none
    | .sptr cells o => if o + off < cells.length then some (.sptr cells (o + off)) else none
    | _ => none
  | none => none
theorem fieldAddrA_ok {P : Program} (h : Inv Z E st a w S vals fps cb) {t : TypeId} {f : Nat} {av r : AV} {v : Value} (hx : RA Z w S st.rt vals (adr st.bx cb) av v) (hb : fieldAddrA P st t f av = some r) :
    ∃ u, (Instr.fieldAt t v f).run P w = .ok u w ∧ RA Z w S st.rt vals (adr st.bx cb) r u := by
  unfold fieldAddrA at hb
  split at hb
  · rename_i off ag n hf
    unfold fldOf at hf
    split at hf
    · rename_i fs hu
      split at hf
      · rename_i fd hfd
        split at hf
        · rename_i ag2 n2 hti
          cases hf
          split at hb
          · cases hb
          · rename_i hn
            have hrun : ∀ x : Addr, (Instr.fieldAt t (.pointer (some x)) f).run P w = .ok (.pointer (some (x.add fd.offset))) w := by
              intro x
              simp [Instr.fieldAt, run_underlying hu, hfd, Instr.sureAddr, fieldPlace, run_sizeOf hti, hn]
            cases hx with
            | @ptr p cell x hl hxx =>
              simp only at hb
              split at hb
              · rename_i c2 hl2
                cases hb
                refine ⟨_, hrun x, .ptr hl2 ?_⟩
                rw [plc_bump p st.rt vals (adr st.bx cb) fd.offset cell c2 x hl hxx (adr_bump _ _) hl2, addr_add x (spot_of h hl hxx)]
              · cases hb
            | @sptr cells o b o2 cur ty fz hSb hbb hr ho =>
              simp only at hb
              split at hb
              · rename_i hlt
                cases hb
                refine ⟨_, hrun _, ?_⟩
                rw [addr_add _ rfl]
                have : (⟨b, o2 + o + fd.offset, none⟩ : Addr) = ⟨b, o2 + (o + fd.offset), none⟩ := by rw [Nat.add_assoc]
                rw [this]
                exact .sptr hSb hbb hr hlt
              · cases hb
            | _ => simp at hb
        · cases hf
      · cases hf
    · cases hf
  · cases hb
/-- An index as a number. -/
def idxOf : AV → Option Int
  | .c (.sc (.int _ i)) => some i
  | _ => none
theorem idxOf_spec {es : Rows} {ad : Nat → Nat → Option Addr} {av : AV} {v : Value} {i : Int} (hx : RA Z w S es vals ad av v) (h : idxOf av = some i) : ∃ k, v = .int k i := by
  cases hx with
  | @c c0 _ hc =>
    cases c0 with
    | sc u => cases hc with | sc hs => cases v <;> simp [idxOf] at h; subst h; exact ⟨_, rfl⟩
    | _ => simp [idxOf] at h
  | _ => simp [idxOf] at h
def indexAddrA (P : Program) (st : St) (t : TypeId) (av iv : AV) : Option AV :=
  match elemOf P t, idxOf iv with
  | some e, some i => match av with
    | .bor p lo len => match look st.rt p with
      | some (.row true e' es) => if e' = e ∧ 0 ≤ i ∧ i < len then (match look st.rt (p ++ [(lo + i.toNat, 0)]) with
          | some _ => some (.ptr (p ++ [(lo + i.toNat, 0)]))
          | none => none) else none
      | _ => none
    | .c (.row false e' es) => if e' = e ∧ 0 ≤ i then (match es[i.toNat]? with
        | some (c :: cells) => some (.sptr (c :: cells) 0)
        | _ => none) else none
    | _ => none
  | _, _ => none
theorem indexAt_run {P : Program} {t e : TypeId} {sz : Nat} (he : elemOf P t = some e) (hs : (sizeOf e).run P w = .ok sz w) (k : IntKind) (i : Int) (x : Addr) (n c : Nat) (h0 : 0 ≤ i) (h1 : i < n) :
    (Instr.indexAt t (.slice (some x) n c) (.int k i)).run P w = .ok (.pointer (some (x.add (i.toNat * sz)))) w := by
  simp [Instr.indexAt, asIntOf, run_underlying (elemOf_spec he), h0, h1, hs]
theorem size_run {P : Program} (hZ0 : ZOk P Z) {e : TypeId} (hok : (tinfo P e).isSome = true) : (sizeOf e).run P w = .ok (Z e) w := by
  cases ht : tinfo P e with
  | none => rw [ht] at hok; cases hok
  | some x =>
    obtain ⟨ag, n⟩ := x
    obtain ⟨d, i, h1, h2, h3, h4⟩ := tinfo_spec ht
    rw [run_sizeOf ht, hZ0 e i h2, h4]
theorem indexAddrA_ok {P : Program} (hZ0 : ZOk P Z) (h : Inv Z E st a w S vals fps cb) {t : TypeId} {av iv r : AV} {v iu : Value} (hok : ∀ e, elemOf P t = some e → (tinfo P e).isSome = true) (hx : RA Z w S st.rt vals (adr st.bx cb) av v) (hi : RA Z w S st.rt vals (adr st.bx cb) iv iu)
    (hb : indexAddrA P st t av iv = some r) : ∃ u, (Instr.indexAt t v iu).run P w = .ok u w ∧ RA Z w S st.rt vals (adr st.bx cb) r u := by
  unfold indexAddrA at hb
  split at hb
  · rename_i e i he hii
    obtain ⟨k, rfl⟩ := idxOf_spec hi hii
    have hsz := size_run (w := w) hZ0 (hok e he)
    cases hx with
    | @bor p e2 es sz lo len _ hl hrows hlen hs =>
      simp only [hl] at hb
      split at hb
      · rename_i hc
        obtain ⟨rfl, h0, h1⟩ := hc
        split at hb
        · rename_i c2 hl2
          cases hb
          obtain ⟨fpc, hrc, _⟩ := focus p st.rt vals (adr st.bx cb) fps _ h.rr hl
          obtain ⟨sz2, xs, fps', ho, hrows2, hrr, hg, hfp, hze⟩ := own_inner hrc
          subst hze
          have hpos : 0 < es.length := by omega
          have hw : width es = Z e2 := width_eq hrows2 hpos
          have hsz2 : sz = Z e2 := by rw [← hrows _ (List.getElem_mem hpos), hrows2 _ (List.getElem_mem hpos)]
          rcases hs with ⟨_, _, _, h3⟩ | ⟨g, n, cap, hv, hle, hs⟩
          · omega
          · have hgb : (plc w st.rt vals (adr st.bx cb) p).1.ownBlock = some g := by rw [hv]; rfl
            have hpl := plc_snoc w p st.rt es vals (adr st.bx cb) e2 (lo + i.toNat) 0 hl
            have hfin : ∀ (off cap' : Nat), off = lo * Z e2 → ∃ u, (Instr.indexAt t (.slice (some ⟨g, off, none⟩) len cap') (.int k i)).run P w = .ok u w ∧ RA Z w S st.rt vals (adr st.bx cb) (.ptr (p ++ [(lo + i.toNat, 0)])) u := by
              intro off cap' hoff
              refine ⟨_, indexAt_run he hsz k i _ len cap' h0 (by omega), .ptr hl2 ?_⟩
              rw [hpl, addr_add _ rfl]
              simp only [rowAd, hgb, hw, Option.map_some, Nat.add_zero]
              rw [hoff, Nat.add_mul]
            rcases hs with ⟨rfl, rfl⟩ | ⟨_, off, cap', rfl, _, _, hoff⟩
            · exact hfin 0 cap (by simp)
            · exact hfin off cap' (by rcases hoff with h4 | h4; · omega
                                      · rw [h4, hsz2])
        · cases hb
      · cases hb
    | @c c0 v hc =>
      cases c0 with
      | sc v => simp at hb
      | hole => simp at hb
      | row o e2 es =>
        cases o with
        | true => simp at hb
        | false =>
          simp only at hb
          split at hb
          · rename_i hcc
            obtain ⟨rfl, h0⟩ := hcc
            split at hb
            · rename_i c2 cells hes
              cases hb
              cases hc with
              | shr sz hz xs hs hrows hr =>
                subst hz
                have hlt := (List.getElem?_eq_some_iff.1 hes).1
                rcases hs.2 with ⟨rfl, h1⟩ | ⟨b, off, cap, cur, ty, fz, rfl, hS, hg, hn, hcm, hxs⟩ | ⟨_, _, _, h1, _⟩
                · omega
                rotate_left
                · omega
                · refine ⟨_, indexAt_run he hsz k i _ es.length cap h0 (by omega), ?_⟩
                  rw [addr_add _ rfl]
                  have hrowl : (c2 :: cells).length = Z e2 := hrows _ (List.mem_of_getElem? hes)
                  have := RA.sptr (Z := Z) (w := w) (S := S) (es := st.rt) (vals := vals) (ad := adr st.bx cb) (cells := c2 :: cells) (off := 0) (b := b) (o := off + i.toNat * Z e2) (cur := cur) (ty := ty) (fz := fz) hS hg (fun j cell hj => by
                    have hcell : Abs.cellAt es i.toNat j = some cell := by unfold Abs.cellAt; rw [hes]; exact hj
                    have hjl : j < Z e2 := by rw [← hrowl]; exact (List.getElem?_eq_some_iff.1 hj).1
                    refine ⟨_, ?_, hr _ _ cell hcell⟩
                    have h3 := lv_mem hs.1 hlt hjl
                    rw [← hxs, List.getElem?_take] at h3
                    split at h3
                    · rw [List.getElem?_drop] at h3
                      rw [Nat.add_assoc]
                      rw [hxs] at h3
                      simpa using h3
                    · cases h3) (by simp)
                  exact this
            · cases hb
          · cases hb
    | _ => simp at hb
  · cases hb
/-- Types of which a length is asked: a string, a slice. -/
def lenK (P : Program) (t : TypeId) : Option Bool :=
  match P.underlying t with
  | some .string => some true
  | some (.slice _) => some false
  | _ => none
def lenA (P : Program) (t : TypeId) (av : AV) : Option Nat :=
  match lenK P t with
  | some true => match av with
    | .c (.sc (.string s)) => some s.size
    | _ => none
  | some false => match av with
    | .c (.row false _ es) => some es.length
    | .bor _ _ len => some len
    | .nils => some 0
    | _ => none
  | none => none
theorem sub_slice {sz : Nat} {val : Value} {lo len : Nat} {v : Value} (h : subH sz val lo len v) : (v = .slice none 0 0 ∧ len = 0) ∨ ∃ x c, v = .slice (some x) len c := by
  rcases h with ⟨_, h2, _, h3⟩ | ⟨g, n, cap, _, _, ⟨_, h2⟩ | ⟨_, off, cap', h2, _⟩⟩
  · exact .inl ⟨h2, h3⟩
  · exact .inr ⟨_, _, h2⟩
  · exact .inr ⟨_, _, h2⟩
theorem lenA_ok {P : Program} {es : Rows} {ad : Nat → Nat → Option Addr} {t ty : TypeId} {av : AV} {v : Value} {n : Nat} (hx : RA Z w S es vals ad av v) (hb : lenA P t av = some n) :
    (Builtin.len_ #[t] ty #[v]).run P w = .ok (.int .i64 n) w := by
  unfold lenA at hb
  split at hb
  · rename_i hk
    have hu : P.underlying t = some .string := by
      unfold lenK at hk; split at hk
      · rename_i hu; exact hu
      · cases hk
      · cases hk
    split at hb
    · rename_i s
      cases hb
      cases hx with | c hc => cases hc with | sc h => simp [Builtin.len_, run_underlying hu, goInt]
    · cases hb
  · rename_i hk
    have hu : ∃ e, P.underlying t = some (.slice e) := by
      unfold lenK at hk; split at hk
      · cases hk
      · rename_i e hu; exact ⟨e, hu⟩
      · cases hk
    obtain ⟨e, hu⟩ := hu
    have hslc : ∀ x c, v = .slice x n c → (Builtin.len_ #[t] ty #[v]).run P w = .ok (.int .i64 n) w := by
      rintro x c rfl; simp [Builtin.len_, run_underlying hu, goInt]
    split at hb
    · cases hb
      cases hx with
      | c hc => cases hc with
        | shr sz hz xs hs2 hsz hr =>
          rcases hs2.2 with ⟨rfl, h0⟩ | ⟨b, off, cap, cur, ty2, fz, rfl, _⟩ | ⟨a2, cap, rfl, h0, _⟩
          · exact hslc none 0 (by rw [h0])
          rotate_left
          · exact hslc (some a2) cap (by rw [h0])
          · exact hslc _ _ rfl
    · cases hb
      cases hx with
      | bor hl hsz hlen hs2 =>
        rcases sub_slice hs2 with ⟨rfl, h0⟩ | ⟨x, c, rfl⟩
        · exact hslc none 0 (by rw [h0])
        · exact hslc _ _ rfl
    · cases hb
      cases hx
      exact hslc none 0 rfl
    · cases hb
  · cases hb
end
end Go.Abs

/- Cuts of slices and strings; numbers, strings, tests; conversions. -/
namespace Go.Abs
open Go
set_option linter.unusedVariables false
set_option linter.unusedSimpArgs false
variable {Z : TypeId → Nat}
section
variable {E : Ent} {st : St} {a : Act} {w w' : World} {S : Nat → Prop} {vals : Nat → Nat → Value} {fps : Nat → Nat → Nat → Prop} {cb : Nat → Nat}
/-- The bounds of a cut, of a length. -/
def bounds (n : Nat) (lo hi : Option AV) : Option (Nat × Nat) :=
  match (match hi with | some h => idxOf h | none => some (n : Int)) with
  | some h => match (match lo with | some l => idxOf l | none => some 0) with
    | some l => if 0 ≤ l ∧ l ≤ h ∧ h ≤ n then some (l.toNat, h.toNat) else none
    | none => none
  | none => none
def sliceA (P : Program) (st : St) (t : TypeId) (av : AV) (lo hi : Option AV) : Option AV :=
  match lenK P t with
  | some true => match av with
    | .c (.sc (.string s)) => match bounds s.size lo hi with
      | some (l, h) => some (.c (.sc (.string (s.extract l h))))
      | none => none
    | _ => none
  | some false => match av with
    | .c (.row false e es) => if elemOf P t = some e then (match bounds es.length lo hi with
      | some (l, h) => some (.c (.row false e ((es.drop l).take (h - l))))
      | none => none) else none
    | .bor p l0 len => match look st.rt p with
      | some (.row true e es) => if elemOf P t = some e then (match bounds len lo hi with
        | some (l, h) => some (.bor p (l0 + l) (h - l))
        | none => none) else none
      | _ => none
    | .nils => match bounds 0 lo hi with
      | some _ => some .nils
      | none => none
    | _ => none
  | none => none
theorem bounds_run {P : Program} {es : Rows} {ad : Nat → Nat → Option Addr} {isS : Bool} {n cap : Nat} (hn : n ≤ cap) {lo hi : Option AV} {l h : Nat} {f g : AV → Value} (hlo : ∀ x, lo = some x → RA Z w S es vals ad x (f x)) (hhi : ∀ x, hi = some x → RA Z w S es vals ad x (g x)) (hb : bounds n lo hi = some (l, h)) :
    (Instr.sliceBounds isS n cap (lo.map f) (hi.map g) none).run P w = .ok (l, h, cap) w ∧ l ≤ h ∧ h ≤ n := by
  unfold bounds at hb
  split at hb
  · rename_i hv hhv
    split at hb
    · rename_i lvv hlv
      split at hb
      · rename_i hc
        cases hb
        have hh : ∃ r : Nat, r = hv.toNat ∧ (match hi.map g with | some v => Instr.sliceBound v cap (if isS then .sliceAcap else .sliceAlen) | none => pure n : Sem Nat).run P w = .ok r w := by
          cases hi with
          | none => simp only [Option.some.injEq] at hhv; exact ⟨n, by omega, rfl⟩
          | some x =>
            obtain ⟨k, hk⟩ := idxOf_spec (hhi x rfl) hhv
            refine ⟨_, rfl, ?_⟩
            simp only [Option.map_some, hk]
            exact run_sliceBound w k hv cap _ (by omega) (by omega)
        obtain ⟨r, hr, hrun⟩ := hh
        subst hr
        have hl : ∃ r : Nat, r = lvv.toNat ∧ (match lo.map f with | some v => Instr.sliceBound v hv.toNat .sliceB | none => pure 0 : Sem Nat).run P w = .ok r w := by
          cases lo with
          | none => simp only [Option.some.injEq] at hlv; exact ⟨0, by omega, rfl⟩
          | some x =>
            obtain ⟨k, hk⟩ := idxOf_spec (hlo x rfl) hlv
            refine ⟨_, rfl, ?_⟩
            simp only [Option.map_some, hk]
            exact run_sliceBound w k lvv hv.toNat _ (by omega) (by omega)
        obtain ⟨r2, hr2, hrun2⟩ := hl
        subst hr2
        refine ⟨?_, by omega, by omega⟩
        cases hi with
        | none =>
          cases lo with
          | none =>
            simp only [Option.some.injEq] at hhv hlv
            subst hhv; subst hlv
            simp [Instr.sliceBounds]
          | some x =>
            simp only [Option.some.injEq] at hhv
            subst hhv
            simp only [Option.map_some, Option.map_none] at hrun2 ⊢
            simp [Instr.sliceBounds] at hrun2 ⊢
            simp [hrun2]
        | some y =>
          cases lo with
          | none =>
            simp only [Option.some.injEq] at hlv
            subst hlv
            simp only [Option.map_some, Option.map_none] at hrun ⊢
            simp [Instr.sliceBounds, hrun]
          | some x =>
            simp only [Option.map_some] at hrun hrun2 ⊢
            simp [Instr.sliceBounds, hrun, hrun2]
      · cases hb
    · cases hb
  · cases hb
theorem shr_cut {sz n : Nat} {xs : List Value} {x : Option Addr} {cap l h : Nat} (hs : shrRow w S sz (.slice x n cap) n xs) (h1 : l ≤ h) (h2 : h ≤ n) :
    shrRow w S sz (.slice (if cap = l then x else x.map (·.add (l * sz))) (h - l) (cap - l)) (h - l) ((xs.drop (l * sz)).take ((h - l) * sz)) ∧ n ≤ cap := by
  have hle : h * sz ≤ n * sz := Nat.mul_le_mul_right _ h2
  have hlen : ((xs.drop (l * sz)).take ((h - l) * sz)).length = (h - l) * sz := by
    rw [List.length_take, List.length_drop, hs.1, Nat.sub_mul]
    have : l * sz ≤ h * sz := Nat.mul_le_mul_right _ h1
    omega
  rcases hs.2 with ⟨he, hn⟩ | ⟨b, off, cap2, cur, ty, fz, he, hS, hg, hnc, hcm, hx⟩ | ⟨a2, cap2, he, hn, hcm⟩
  rotate_right
  · cases he
    have : h = 0 := by omega
    have : l = 0 := by omega
    subst_vars
    refine ⟨⟨hlen, .inr (.inr ?_)⟩, Nat.zero_le _⟩
    by_cases hc : cap = 0
    · exact ⟨a2, cap, by simp [hc], rfl, hcm⟩
    · exact ⟨a2.add (0 * sz), cap, by simp [hc], rfl, hcm⟩
  · cases he
    have : h = 0 := by omega
    have : l = 0 := by omega
    subst_vars
    exact ⟨⟨hlen, .inl ⟨by simp, rfl⟩⟩, Nat.le_refl _⟩
  · cases he
    refine ⟨⟨hlen, ?_⟩, hnc⟩
    right
    by_cases hcl : cap = l
    · rw [if_pos hcl]
      have h0 : h - l = 0 := by omega
      exact .inl ⟨b, off, cap - l, cur, ty, fz, by rw [h0], hS, hg, by omega, by omega, by rw [h0]; simp⟩
    · rw [if_neg hcl]
      refine .inl ⟨b, off + l * sz, cap - l, cur, ty, fz, by simp only [Option.map_some]; rw [addr_add _ rfl], hS, hg, by omega, by omega, ?_⟩
      rw [← hx, List.drop_take, List.take_take, List.drop_drop]
      congr 1
      rw [Nat.sub_mul]; omega
theorem sliceA_ok {P : Program} (hZ0 : ZOk P Z) (h : Inv Z E st a w S vals fps cb) {t : TypeId} (hok : ∀ e, elemOf P t = some e → (tinfo P e).isSome = true) {av r : AV} {v : Value} {lo hi : Option AV} {f g : AV → Value} (hx : RA Z w S st.rt vals (adr st.bx cb) av v)
    (hlo : ∀ x, lo = some x → RA Z w S st.rt vals (adr st.bx cb) x (f x)) (hhi : ∀ x, hi = some x → RA Z w S st.rt vals (adr st.bx cb) x (g x)) (hb : sliceA P st t av lo hi = some r) :
    ∃ u, (Instr.sliceAt t v (lo.map f) (hi.map g) none).run P w = .ok u w ∧ RA Z w S st.rt vals (adr st.bx cb) r u := by
  unfold sliceA at hb
  split at hb
  · rename_i hk
    have hu : P.underlying t = some .string := by
      unfold lenK at hk; split at hk
      · rename_i hu; exact hu
      · cases hk
      · cases hk
    split at hb
    · rename_i s
      split at hb
      · rename_i l h2 hbd
        cases hb
        cases hx with
        | c hc => cases hc with
          | sc hs =>
            obtain ⟨hr, h1, h3⟩ := bounds_run (P := P) (isS := false) (Nat.le_refl _) hlo hhi hbd
            refine ⟨.string (s.extract l h2), ?_, .c (.sc ?_)⟩
            · simp [Instr.sliceAt, run_underlying hu, Instr.slice, hr]
            · simp only [isSc, decide_eq_true_eq] at hs ⊢
              rw [ByteArray.size_extract]; omega
      · cases hb
    · cases hb
  · rename_i hk
    have hu : ∃ e, P.underlying t = some (.slice e) := by
      unfold lenK at hk; split at hk
      · cases hk
      · rename_i e hu; exact ⟨e, hu⟩
      · cases hk
    obtain ⟨e, hu⟩ := hu
    have he : elemOf P t = some e := by unfold elemOf; rw [hu]
    have hsz := size_run (w := w) hZ0 (hok e he)
    have hrun : ∀ (x : Option Addr) (n cap l h2 : Nat), (Instr.sliceBounds true n cap (lo.map f) (hi.map g) none).run P w = .ok (l, h2, cap) w →
        (Instr.sliceAt t (.slice x n cap) (lo.map f) (hi.map g) none).run P w = .ok (.slice (if cap = l then x else x.map (·.add (l * Z e))) (h2 - l) (cap - l)) w := by
      intro x n cap l h2 hr
      simp [Instr.sliceAt, run_underlying hu, Instr.slice, hr, hsz]
    split at hb
    · rename_i e2 es
      split at hb
      · rename_i hee
        rw [he] at hee
        cases hee
        split at hb
        · rename_i l h2 hbd
          cases hb
          cases hx with
          | c hc => cases hc with
            | shr sz hz xs hs hrows hr =>
              have hv : ∃ x cap, v = .slice x es.length cap := by
                rcases hs.2 with ⟨rfl, h0⟩ | ⟨b, off, cap, cur, ty, fz, rfl, _⟩ | ⟨a2, cap, rfl, h0, _⟩
                · exact ⟨none, 0, by rw [h0]⟩
                · exact ⟨_, _, rfl⟩
                · exact ⟨some a2, cap, by rw [h0]⟩
              obtain ⟨x, cap, rfl⟩ := hv
              have hncap : es.length ≤ cap := (shr_cut hs (Nat.le_refl 0) (Nat.zero_le _)).2
              obtain ⟨hr2, h1, h3⟩ := bounds_run (P := P) (isS := true) hncap hlo hhi hbd
              subst hz
              refine ⟨_, hrun x _ cap l h2 hr2, .c (.shr (Z e) rfl ((xs.drop (l * Z e)).take ((h2 - l) * Z e)) ?_ (fun r hr3 => hrows r (List.mem_of_mem_drop (List.mem_of_mem_take hr3))) fun i c cell hc => ?_)⟩
              · have hl2 : ((es.drop l).take (h2 - l)).length = h2 - l := by rw [List.length_take, List.length_drop]; omega
                rw [hl2]
                exact (shr_cut hs h1 h3).1
              · obtain ⟨hi2, hcs⟩ := cellAt_col (sz := Z e) (fun r hr3 => hrows r (List.mem_of_mem_drop (List.mem_of_mem_take hr3))) hc
                rw [List.length_take, List.length_drop] at hi2
                have hc2 : Abs.cellAt es (l + i) c = some cell := by
                  unfold Abs.cellAt at hc ⊢
                  rw [List.getElem?_take, if_pos (by omega), List.getElem?_drop] at hc
                  exact hc
                have := hr _ _ cell hc2
                have hlv : lv ((xs.drop (l * Z e)).take ((h2 - l) * Z e)) (Z e) i c = lv xs (Z e) (l + i) c := by
                  unfold lv
                  rw [List.getD_eq_getElem?_getD, List.getD_eq_getElem?_getD, List.getElem?_take, if_pos, List.getElem?_drop]
                  · congr 2; rw [Nat.add_mul]; omega
                  · have h5 : (i + 1) * Z e ≤ (h2 - l) * Z e := Nat.mul_le_mul_right _ (by omega)
                    rw [Nat.add_mul, Nat.one_mul] at h5; omega
                rw [hlv]; exact this
        · cases hb
      · cases hb
    · rename_i p l0 len
      split at hb
      · rename_i e2 es hl
        split at hb
        · rename_i hee
          rw [he] at hee
          cases hee
          split at hb
          · rename_i l h2 hbd
            cases hb
            cases hx with
            | @bor _ e3 es3 sz _ _ _ hl3 hrows hlen hs =>
              rw [hl] at hl3
              cases hl3
              obtain ⟨fpc, hrc, _⟩ := focus p st.rt vals (adr st.bx cb) fps _ h.rr hl
              obtain ⟨sz2, xs, fps', ho, hrows2, hrr, hg, hfp, hze⟩ := own_inner hrc
              subst hze
              have hszz : 0 < len → sz = Z e := fun hp => by
                have hpos : 0 < es.length := by omega
                rw [← hrows _ (List.getElem_mem hpos), hrows2 _ (List.getElem_mem hpos)]
              rcases hs with ⟨hv, rfl, rfl, rfl⟩ | ⟨g, n, cap, hv, hle, hs⟩
              · obtain ⟨hr2, h1, h3⟩ := bounds_run (P := P) (isS := true) (Nat.le_refl 0) hlo hhi hbd
                have e1 : h2 = 0 := by omega
                have e2 : l = 0 := by omega
                subst e1; subst e2
                refine ⟨_, hrun none 0 0 0 0 hr2, .bor hl hrows (by omega) (.inl ⟨hv, by simp, rfl, rfl⟩)⟩
              · have hncap : n ≤ cap := by
                  rcases ho.2 with ⟨hh, _⟩ | ⟨_, _, _, hh, _, _, hnc, _⟩
                  · rw [hv] at hh; cases hh
                  · rw [hv] at hh; cases hh; exact hnc
                have hn : n = es.length := by
                  rcases ho.2 with ⟨hh, _⟩ | ⟨_, _, _, hh, _, _, hnc, _⟩
                  · rw [hv] at hh; cases hh
                  · rw [hv] at hh; cases hh; rfl
                rcases hs with ⟨rfl, rfl⟩ | ⟨hl0, off, cap', rfl, hlc, hcc, hoff⟩
                · obtain ⟨hr2, h1, h3⟩ := bounds_run (P := P) (isS := true) (show len ≤ cap by omega) hlo hhi hbd
                  refine ⟨_, hrun _ _ cap l h2 hr2, .bor hl hrows (by omega) (.inr ⟨g, n, cap, hv, by omega, ?_⟩)⟩
                  by_cases hl1 : l = 0
                  · left
                    subst hl1
                    refine ⟨rfl, ?_⟩
                    simp [Addr.add]
                  · right
                    refine ⟨by omega, ?_⟩
                    by_cases hcl : cap = l
                    · rw [if_pos hcl]; exact ⟨0, cap - l, rfl, by omega, by omega, .inl (by omega)⟩
                    · rw [if_neg hcl]
                      refine ⟨0 + l * Z e, cap - l, by simp only [Option.map_some]; rw [addr_add _ rfl], by omega, by omega, ?_⟩
                      by_cases hp : 0 < len
                      · right; rw [hszz hp]; simp
                      · left; omega
                · obtain ⟨hr2, h1, h3⟩ := bounds_run (P := P) (isS := true) hlc hlo hhi hbd
                  refine ⟨_, hrun _ _ cap' l h2 hr2, .bor hl hrows (by omega) (.inr ⟨g, n, cap, hv, by omega, .inr ⟨by omega, ?_⟩⟩)⟩
                  by_cases hcl : cap' = l
                  · rw [if_pos hcl]; exact ⟨off, cap' - l, rfl, by omega, by omega, .inl (by omega)⟩
                  · rw [if_neg hcl]
                    refine ⟨off + l * Z e, cap' - l, by simp only [Option.map_some]; rw [addr_add _ rfl], by omega, by omega, ?_⟩
                    by_cases hp : 0 < len
                    · right
                      rcases hoff with h0 | h0
                      · omega
                      · rw [h0, hszz hp, Nat.add_mul]
                    · left; omega
          · cases hb
        · cases hb
      · cases hb
    · split at hb
      · rename_i lh hbd
        cases hb
        obtain ⟨l, h2⟩ := lh
        cases hx
        obtain ⟨hr2, h1, h3⟩ := bounds_run (P := P) (isS := true) (Nat.le_refl 0) hlo hhi hbd
        have e1 : h2 = 0 := by omega
        have e2 : l = 0 := by omega
        subst e1; subst e2
        refine ⟨_, hrun none 0 0 0 0 hr2, ?_⟩
        simpa using RA.nils
      · cases hb
    · cases hb
  · cases hb
end
end Go.Abs

/- Scalars: operators, conversions; parts of struct values. -/
namespace Go.Abs
open Go
set_option linter.unusedVariables false
set_option linter.unusedSimpArgs false
variable {Z : TypeId → Nat}
def andI (k : IntKind) (a b : Int) : Int := k.wrap (BitVec.ofInt k.bits a &&& BitVec.ofInt k.bits b).toNat
def orI (k : IntKind) (a b : Int) : Int := k.wrap (BitVec.ofInt k.bits a ||| BitVec.ofInt k.bits b).toNat
def xorI (k : IntKind) (a b : Int) : Int := k.wrap (BitVec.ofInt k.bits a ^^^ BitVec.ofInt k.bits b).toNat
def andNotI (k : IntKind) (a b : Int) : Int := k.wrap (BitVec.ofInt k.bits a &&& ~~~ BitVec.ofInt k.bits b).toNat
def shlI (k : IntKind) (a b : Int) : Int := k.wrap (a * 2 ^ (min b.toNat k.bits))
def shrI (k : IntKind) (a b : Int) : Int := a.fdiv (2 ^ (min b.toNat k.bits))
def intS (op : BinOp) (k : IntKind) (a b : Int) : Option Value :=
  match op with
  | .add => some (.int k (k.wrap (a + b)))
  | .sub => some (.int k (k.wrap (a - b)))
  | .mul => some (.int k (k.wrap (a * b)))
  | .quo => if b = 0 then none else some (.int k (k.wrap (a.tdiv b)))
  | .rem => if b = 0 then none else some (.int k (a.tmod b))
  | .and => some (.int k (andI k a b))
  | .or => some (.int k (orI k a b))
  | .xor => some (.int k (xorI k a b))
  | .andNot => some (.int k (andNotI k a b))
  | .eql => some (.bool (decide (a = b)))
  | .neq => some (.bool (!decide (a = b)))
  | .lss => some (.bool (decide (a < b)))
  | .leq => some (.bool (decide (a ≤ b)))
  | .gtr => some (.bool (decide (b < a)))
  | .geq => some (.bool (decide (b ≤ a)))
  | _ => none
def strS (op : BinOp) (s t : ByteArray) : Option Value :=
  match op with
  | .add => if s.size + t.size ≤ maxLen then some (.string (s ++ t)) else none
  | .eql => some (.bool (s.toList == t.toList))
  | .neq => some (.bool (!(s.toList == t.toList)))
  | .lss => some (.bool (Op.bytesLess s.toList t.toList))
  | .leq => some (.bool (Op.bytesLess s.toList t.toList || s.toList == t.toList))
  | .gtr => some (.bool (!(Op.bytesLess s.toList t.toList || s.toList == t.toList)))
  | .geq => some (.bool (!Op.bytesLess s.toList t.toList))
  | _ => none
def isBool (P : Program) (t : TypeId) : Bool :=
  match P.underlying t with
  | some .bool => true
  | _ => false
/-- Kinds of fields that == may look at: 0 int, 1 string, 2 bool. -/
def kdOf (P : Program) (t : TypeId) : Option Nat :=
  match P.underlying t with
  | some (.int _) => some 0
  | some .string => some 1
  | some .bool => some 2
  | _ => none
def flatL (P : Program) : Nat → List Field → Option (List Nat)
  | _, [] => some []
  | j, f :: fs => match f.name != "_" && f.offset == j, kdOf P f.type, flatL P (j + 1) fs with
    | true, some k, some ks => some (k :: ks)
    | _, _, _ => none
def flatK (P : Program) (t : TypeId) : Option (List Nat) :=
  match P.underlying t with
  | some (.struct fs) => if !P.stoodInHeld t && !P.eqGuardType P.depth t then flatL P 0 fs.toList else none
  | _ => none
def eqS : Nat → AV → AV → Option Bool
  | 0, .c (.sc (.int k a)), .c (.sc (.int k' b)) => if k = k' then some (decide (a = b)) else none
  | 1, .c (.sc (.string a)), .c (.sc (.string b)) => some (a.toList == b.toList)
  | 2, .c (.sc (.bool a)), .c (.sc (.bool b)) => some (a == b)
  | _, _, _ => none
def eqL : List Nat → List AV → List AV → Option Bool
  | [], [], [] => some true
  | k :: ks, x :: xs, y :: ys => match eqS k x y, eqL ks xs ys with
    | some a, some b => some (a && b)
    | _, _ => none
  | _, _, _ => none
def binA (P : Program) (op : BinOp) (t : TypeId) (x y : AV) : Option AV :=
  match x, y with
  | .c (.sc (.int k a)), .c (.sc (.int k' b)) => match op with
    | .shl => if b < 0 then none else some (.c (.sc (.int k (shlI k a b))))
    | .shr => if b < 0 then none else some (.c (.sc (.int k (shrI k a b))))
    | op => if k = k' then (intS op k a b).map fun v => .c (.sc v) else none
  | .c (.sc (.string s)), .c (.sc (.string t)) => (strS op s t).map fun v => .c (.sc v)
  | .c (.sc (.bool a)), .c (.sc (.bool b)) => if isBool P t then (match op with
    | .eql => some (.c (.sc (.bool (a == b))))
    | .neq => some (.c (.sc (.bool (!(a == b)))))
    | _ => none) else none
  | .agg xs, .agg ys => match flatK P t with
    | some ks => (match op with
      | .eql => (eqL ks xs ys).map fun b => .c (.sc (.bool b))
      | .neq => (eqL ks xs ys).map fun b => .c (.sc (.bool !b))
      | _ => none)
    | none => none
  | _, _ => none
theorem isBool_spec {P : Program} {t : TypeId} (h : isBool P t = true) : P.underlying t = some .bool := by
  unfold isBool at h
  split at h
  · rename_i hu; exact hu
  · cases h
section
variable {E : Ent} {st : St} {a : Act} {w w' : World} {S : Nat → Prop} {vals : Nat → Nat → Value} {fps : Nat → Nat → Nat → Prop} {cb : Nat → Nat}
theorem sc_inv {es : Rows} {ad : Nat → Nat → Option Addr} {u v : Value} (h : RA Z w S es vals ad (.c (.sc u)) v) : v = u ∧ isSc u = true := by
  cases h with | c h => cases h with | sc h => exact ⟨rfl, h⟩
theorem eqGuard_run {P : Program} (op : BinOp) (t : TypeId) (x y : Operand) (u v : Value) (hu : isSc u = true) (hn : u ≠ .nilFunc) : (eqGuard op t x y u v).run P w = .ok () w := by
  unfold eqGuard
  cases u <;> simp_all [isSc] <;> (try split) <;> simp
theorem kdOf_part {P : Program} {t : TypeId} {k : Nat} (hk : kdOf P t = some k) {xs : Array Value} {j : Nat} {v : Value} (hx : xs[j]? = some v) : (part t xs j).run P w = .ok v w := by
  unfold kdOf at hk
  split at hk
  all_goals first | cases hk; done | skip
  all_goals rename_i hu; simp [part, isAgg, run_underlying hu, hx]
theorem eqS_run {P : Program} {es : Rows} {ad : Nat → Nat → Option Addr} {t : TypeId} {k : Nat} (hk : kdOf P t = some k) {x y : AV} {u v : Value} {b : Bool} (hx : RA Z w S es vals ad x u) (hy : RA Z w S es vals ad y v) (h : eqS k x y = some b) (d : Nat) : (Op.equalIn (d + 1) t u v).run P w = .ok b w := by
  unfold eqS at h
  split at h
  · obtain ⟨rfl, _⟩ := sc_inv hx
    obtain ⟨rfl, _⟩ := sc_inv hy
    split at h
    · rename_i hkk
      cases h
      subst hkk
      unfold kdOf at hk
      split at hk
      all_goals first | cases hk; done | skip
      rename_i hu
      rw [run_equalIn_int w d t _ _ _ _ hu]
      rfl
    · cases h
  · obtain ⟨rfl, _⟩ := sc_inv hx
    obtain ⟨rfl, _⟩ := sc_inv hy
    cases h
    unfold kdOf at hk
    split at hk
    all_goals first | cases hk; done | skip
    rename_i hu
    rw [run_equalIn_string w d t _ _ hu]
  · obtain ⟨rfl, _⟩ := sc_inv hx
    obtain ⟨rfl, _⟩ := sc_inv hy
    cases h
    unfold kdOf at hk
    split at hk
    all_goals first | cases hk; done | skip
    rename_i hu
    rw [run_equalIn_bool' w d t _ _ hu]
  · cases h
theorem eqL_run {P : Program} {es : Rows} {ad : Nat → Nat → Option Addr} {us vs : Array Value} {d : Nat} : ∀ (fs : List Field) (ks : List Nat) (j : Nat) (xs ys : List AV) (b : Bool), flatL P j fs = some ks → eqL ks xs ys = some b →
    (∀ (i : Nat) x, xs[i]? = some x → ∃ u, us[j + i]? = some u ∧ RA Z w S es vals ad x u) → (∀ (i : Nat) y, ys[i]? = some y → ∃ v, vs[j + i]? = some v ∧ RA Z w S es vals ad y v) → (Op.eqFields (d + 1) us vs fs).run P w = .ok b w
  | [], ks, j, xs, ys, b, hf, he, _, _ => by
    cases hf
    unfold eqL at he
    split at he
    · cases he; simp [Op.eqFields]
    · rename_i h _ _; cases h
    · cases he
  | f :: fs, ks, j, xs, ys, b, hf, he, hx, hy => by
    unfold flatL at hf
    split at hf
    · rename_i k ks2 h1 h2 h3
      cases hf
      unfold eqL at he
      split at he
      · rename_i h; cases h
      · rename_i k' ks' x xs y ys hk
        cases hk
        split at he
        · rename_i a c ha hc
          cases he
          simp only [Bool.and_eq_true, bne_iff_ne, beq_iff_eq] at h1
          obtain ⟨u, hu, hru⟩ := hx 0 x rfl
          obtain ⟨v, hv, hrv⟩ := hy 0 y rfl
          simp only [Nat.add_zero] at hu hv
          rw [← h1.2] at hu hv
          have ih := eqL_run (d := d) fs _ (j + 1) xs ys c h3 hc (fun i x hi => by
              obtain ⟨u, h⟩ := hx (i + 1) x hi
              exact ⟨u, by rw [show j + 1 + i = j + (i + 1) by omega]; exact h.1, h.2⟩) (fun i x hi => by
              obtain ⟨u, h⟩ := hy (i + 1) x hi
              exact ⟨u, by rw [show j + 1 + i = j + (i + 1) by omega]; exact h.1, h.2⟩)
          simp only [Op.eqFields, ne_eq, h1.1, not_false_eq_true, if_true, Sem.run_bind, kdOf_part h2 hu, kdOf_part h2 hv, Result.andThen_ok, eqS_run h2 hru hrv ha d]
          cases a
          · simp
          · simpa using ih
        · cases he
      · cases he
    · cases hf
theorem binA_ok {P : Program} {es : Rows} {ad : Nat → Nat → Option Addr} {op : BinOp} {t : TypeId} {x y r : AV} {u v : Value} {ox oy : Operand} (hx : RA Z w S es vals ad x u) (hy : RA Z w S es vals ad y v) (hb : binA P op t x y = some r) :
    ∃ q, ((do eqGuard op t ox oy u v; binOp op t u v) : Sem Value).run P w = .ok q w ∧ RA Z w S es vals ad r q := by
  unfold binA at hb
  split at hb
  · rename_i k a k' b
    obtain ⟨rfl, hsx⟩ := sc_inv hx
    obtain ⟨rfl, hsy⟩ := sc_inv hy
    have hg := eqGuard_run (P := P) (w := w) op t ox oy (.int k a) (.int k' b) hsx (by simp)
    simp only [Sem.run_bind, hg, Result.andThen_ok]
    split at hb
    · split at hb
      · cases hb
      · rename_i h0; cases hb
        exact ⟨.int k (k.wrap (a * 2 ^ (min b.toNat k.bits))), by simp [binOp, Op.shift, h0], .c (.sc rfl)⟩
    · split at hb
      · cases hb
      · rename_i h0; cases hb
        exact ⟨.int k (a.fdiv (2 ^ (min b.toNat k.bits))), by simp [binOp, Op.shift, h0], .c (.sc rfl)⟩
    · rename_i op' hne1 hne2
      split at hb
      · rename_i hk
        subst hk
        simp only [Option.map_eq_some_iff] at hb
        obtain ⟨q, hq, rfl⟩ := hb
        refine ⟨q, ?_, ?_⟩
        · cases op <;> simp only [intS] at hq <;> first
            | (cases hq; done)
            | (split at hq
               · cases hq
               · rename_i h0; cases hq; simp [binOp, Op.intDiv, h0])
            | (cases hq; simp [binOp, Op.intArith, Op.intBits, Op.intCmp]; done)
            | (cases hq; simp [binOp, Op.intArith, Op.intBits, Op.intCmp]; congr 1; done)
            | (cases hq; simp only [binOp]; simp [Op.intCmp]; rfl)
        · refine .c (.sc ?_)
          cases op <;> simp only [intS] at hq <;> first
            | (cases hq; rfl)
            | (split at hq
               · cases hq
               · cases hq; rfl)
            | cases hq
      · cases hb
  · rename_i s s2
    obtain ⟨rfl, hsx⟩ := sc_inv hx
    obtain ⟨rfl, hsy⟩ := sc_inv hy
    have hg := eqGuard_run (P := P) (w := w) op t ox oy (.string s) (.string s2) hsx (by simp)
    simp only [Sem.run_bind, hg, Result.andThen_ok]
    simp only [Option.map_eq_some_iff] at hb
    obtain ⟨q, hq, rfl⟩ := hb
    refine ⟨q, ?_, ?_⟩
    · cases op with
      | add =>
        simp only [strS] at hq
        split at hq
        · rename_i h0
          cases hq
          have h1 : ¬ (((s.size + s2.size : Nat) : Int) > IntKind.i64.max) := by
            have : IntKind.i64.max = 9223372036854775807 := by decide
            rw [this]; simp only [maxLen] at h0; omega
          simp only [binOp, Op.stringOp, if_neg h1, Sem.run_pure]
        · cases hq
      | _ => first | (simp only [strS] at hq; cases hq; done) | (simp only [strS, Option.some.injEq] at hq; subst hq; simp [binOp, Op.stringOp])
    · refine .c (.sc ?_)
      cases op <;> simp only [strS] at hq <;> first
        | (cases hq; rfl)
        | (split at hq
           · rename_i h0; cases hq; simp only [isSc, decide_eq_true_eq, ByteArray.size_append]; exact h0
           · cases hq)
        | cases hq
  · rename_i x y
    obtain ⟨rfl, hsx⟩ := sc_inv hx
    obtain ⟨rfl, hsy⟩ := sc_inv hy
    have hg := eqGuard_run (P := P) (w := w) op t ox oy (.bool x) (.bool y) hsx (by simp)
    simp only [Sem.run_bind, hg, Result.andThen_ok]
    split at hb
    · rename_i hbool
      have hu := isBool_spec hbool
      split at hb
      · cases hb
        have := run_equalIn_bool' (P := P) w 9999 t x y hu
        refine ⟨.bool (x == y), ?_, .c (.sc rfl)⟩
        simp only [binOp, Op.equal, Op.maxDepth, Sem.run_bind, this, Result.andThen_ok, Sem.run_pure]
      · cases hb
        have := run_equalIn_bool' (P := P) w 9999 t x y hu
        refine ⟨.bool (!(x == y)), ?_, .c (.sc rfl)⟩
        simp only [binOp, Op.equal, Op.maxDepth, Sem.run_bind, this, Result.andThen_ok, Sem.run_pure]
      · cases hb
    · cases hb
  · rename_i xs ys
    cases hx with | agg hlx h1x hrx =>
    cases hy with | agg hly h1y hry =>
    rename_i us vs
    split at hb
    · rename_i ks hks
      unfold flatK at hks
      split at hks
      · rename_i fs hu
        split at hks
        · rename_i hg
          simp only [Bool.and_eq_true, Bool.not_eq_true'] at hg
          have hfo : P.fieldsOf t = fs := by simp [Program.fieldsOf, hu]
          have hu2 : P.underlying t = some (.struct (P.fieldsOf t)) := by rw [hfo]; exact hu
          have hrun : ∀ b, eqL ks xs ys = some b → (Op.equalIn 10000 t (.agg us.toArray) (.agg vs.toArray)).run P w = .ok b w := fun b hb => by
            rw [run_equalIn_agg w 9999 t _ _ hu2 hg.1, hfo]
            refine eqL_run (Z := Z) (S := S) (vals := vals) (es := es) (ad := ad) (d := 9998) fs.toList ks 0 xs ys b hks hb (fun i x hi => ?_) (fun i x hi => ?_)
            · have hlt := (List.getElem?_eq_some_iff.1 hi).1
              have hv : us[i]? = some us[i] := List.getElem?_eq_getElem (by omega)
              exact ⟨us[i], by simp, hrx i x _ hi hv⟩
            · have hlt := (List.getElem?_eq_some_iff.1 hi).1
              have hv : vs[i]? = some vs[i] := List.getElem?_eq_getElem (by omega)
              exact ⟨vs[i], by simp, hry i x _ hi hv⟩
          have hguard := run_eqGuard_agg (P := P) w op t ox oy us.toArray vs.toArray hg.2
          simp only [Sem.run_bind, hguard, Result.andThen_ok]
          split at hb
          · simp only [Option.map_eq_some_iff] at hb
            obtain ⟨b, hb, rfl⟩ := hb
            exact ⟨.bool b, by rw [run_eql_struct, hrun b hb]; rfl, .c (.sc rfl)⟩
          · simp only [Option.map_eq_some_iff] at hb
            obtain ⟨b, hb, rfl⟩ := hb
            exact ⟨.bool (!b), by rw [run_neq_struct, hrun b hb]; rfl, .c (.sc rfl)⟩
          · cases hb
        · cases hks
      · cases hks
    · cases hb
  · cases hb
def unA (op : UnOp) (x : AV) : Option AV :=
  match op, x with
  | .not, .c (.sc (.bool b)) => some (.c (.sc (.bool (!b))))
  | .neg, .c (.sc (.int k n)) => some (.c (.sc (.int k (k.wrap (0 - n)))))
  | _, _ => none
theorem unA_ok {P : Program} {es : Rows} {ad : Nat → Nat → Option Addr} {op : UnOp} {x r : AV} {u : Value} (hx : RA Z w S es vals ad x u) (hb : unA op x = some r) : ∃ q, (Op.unary op u).run P w = .ok q w ∧ RA Z w S es vals ad r q := by
  unfold unA at hb
  split at hb
  · obtain ⟨rfl, _⟩ := sc_inv hx; cases hb; exact ⟨_, by simp only [Op.unary, Sem.run_pure], .c (.sc rfl)⟩
  · obtain ⟨rfl, _⟩ := sc_inv hx; cases hb; exact ⟨_, by simp only [Op.unary, Op.intArith, Sem.run_pure], .c (.sc rfl)⟩
  · cases hb
end
end Go.Abs

/- Conversions, parts, and all operations but calls together. -/
namespace Go.Abs
open Go
set_option linter.unusedVariables false
set_option linter.unusedSimpArgs false
variable {Z : TypeId → Nat}
/-- What a conversion does: to a kind of numbers; a string stays; bytes to a string. -/
inductive Cv where
  | int (k : IntKind)
  | same
  | bytes (e : TypeId)
def cvOf (P : Program) (src dst : TypeId) : Option Cv :=
  match P.underlying src, P.underlying dst with
  | some (.int _), some (.int k) => some (.int k)
  | some .string, some .string => some .same
  | some (.slice e), some .string => match P.underlying e, tinfo P e with
    | some (.int .u8), some (false, 1) => some (.bytes e)
    | _, _ => none
  | _, _ => none
def byteOf1 : List Cell → Option Int
  | [.sc (.int .u8 n)] => some n
  | _ => none
def rowBytes : Rows → Option (List Int)
  | [] => some []
  | r :: rs => match byteOf1 r with
    | some n => (rowBytes rs).map (n :: ·)
    | none => none
/-- The text of some bytes. -/
def bytesText (ns : List Int) : ByteArray := ns.foldl (fun r n => r.push (UInt8.ofNat n.toNat)) ByteArray.empty
theorem bytesText_size (ns : List Int) : (bytesText ns).size = ns.length := by
  have : ∀ (ns : List Int) (s : ByteArray), (ns.foldl (fun r n => r.push (UInt8.ofNat n.toNat)) s).size = s.size + ns.length := by
    intro ns
    induction ns with
    | nil => intro s; simp
    | cons n ns ih => intro s; simp only [List.foldl_cons, ih, ByteArray.size_push, List.length_cons]; omega
  have h := this ns ByteArray.empty
  unfold bytesText
  simpa using h
def convA (P : Program) (st : St) (src dst : TypeId) (x : AV) : Option AV :=
  match cvOf P src dst with
  | some (.int k) => match x with
    | .c (.sc (.int _ n)) => some (.c (.sc (.int k (k.wrap n))))
    | _ => none
  | some .same => match x with
    | .c (.sc (.string s)) => some (.c (.sc (.string s)))
    | _ => none
  | some (.bytes e) => match x with
    | .nils => some (.c (.sc (.string ByteArray.empty)))
    | .c (.row false e' es) => (rowBytes es).bind fun ns => if e' = e ∧ ns.length ≤ maxLen then some (.c (.sc (.string (bytesText ns)))) else none
    | .bor p lo len => match look st.rt p with
      | some (.row true e' es) => (rowBytes ((es.drop lo).take len)).bind fun ns => if e' = e ∧ ns.length ≤ maxLen then some (.c (.sc (.string (bytesText ns)))) else none
      | _ => none
    | _ => none
  | none => none
theorem byteOf1_spec {r : List Cell} {n : Int} (h : byteOf1 r = some n) : r = [.sc (.int .u8 n)] := by
  unfold byteOf1 at h
  split at h
  · cases h; rfl
  · cases h
theorem rowBytes_spec : ∀ {es : Rows} {ns : List Int}, rowBytes es = some ns → es = ns.map fun n => [.sc (.int .u8 n)]
  | [], ns, h => by simp only [rowBytes, Option.some.injEq] at h; subst h; rfl
  | r :: rs, ns, h => by
    simp only [rowBytes] at h
    cases hr : byteOf1 r with
    | none => rw [hr] at h; cases h
    | some n =>
      rw [hr] at h
      simp only [Option.map_eq_some_iff] at h
      obtain ⟨ms, hms, rfl⟩ := h
      rw [byteOf1_spec hr, rowBytes_spec hms]; rfl
section
variable {E : Ent} {st : St} {a : Act} {w w' : World} {S : Nat → Prop} {vals : Nat → Nat → Value} {fps : Nat → Nat → Nat → Prop} {cb : Nat → Nat}
theorem sc_rc {u v : Value} {fp : Nat → Prop} (h : RC Z w S (.sc u) v fp) : v = u := by cases h with | sc h => rfl
/-- The bytes of a source. -/
theorem src_bytes {sz : Nat} {x : Value} {ys : Rows} {vs : List Value} {fp : Nat → Nat → Prop} {ns : List Int} (hS : Src Z w S sz x ys vs fp) (hb : rowBytes ys = some ns) : vs = ns.map (Value.int .u8) := by
  have hy := rowBytes_spec hb
  have hlen : ys.length = ns.length := by rw [hy]; simp
  by_cases h0 : ns = []
  · subst h0
    have : ys.length = 0 := by simpa using hlen
    have hl := hS.len
    rw [this] at hl
    simpa using List.eq_nil_of_length_eq_zero (by simpa using hl)
  · have hsz : sz = 1 := by
      cases ns with
      | nil => exact absurd rfl h0
      | cons n ns =>
        have := hS.rows [.sc (.int .u8 n)] (by rw [hy]; simp)
        simpa using this.symm
    subst hsz
    apply List.ext_getElem?
    intro i
    have hl : vs.length = ns.length := by rw [hS.len, hlen, Nat.mul_one]
    by_cases hi : i < ns.length
    · have hc : cellAt ys i 0 = some (.sc (.int .u8 (ns[i]))) := by
        unfold cellAt; rw [hy, List.getElem?_map, List.getElem?_eq_getElem hi]; rfl
      have := hS.rc i 0 _ hc
      have hv := lv_mem (xs := vs) (sz := 1) (n := ns.length) (i := i) (c := 0) (by rw [hl, Nat.mul_one]) hi (by omega)
      simp only [Nat.mul_one, Nat.add_zero] at hv
      rw [hv, List.getElem?_map, List.getElem?_eq_getElem hi]
      rw [sc_rc this]; rfl
    · rw [List.getElem?_eq_none (by omega), List.getElem?_eq_none (by simp; omega)]
theorem convA_ok {P : Program} (hZ0 : ZOk P Z) (h : Inv Z E st a w S vals fps cb) {src dst : TypeId} {x r : AV} {u : Value} (hx : RA Z w S st.rt vals (adr st.bx cb) x u) (hb : convA P st src dst x = some r) :
    ∃ q, (convert src dst u).run P w = .ok q w ∧ RA Z w S st.rt vals (adr st.bx cb) r q := by
  unfold convA at hb
  split at hb
  · rename_i k hcv
    unfold cvOf at hcv
    split at hcv
    · rename_i k1 k2 hu1 hu2
      cases hcv
      split at hb
      · obtain ⟨rfl, _⟩ := sc_inv hx
        cases hb
        exact ⟨_, by simp only [convert, Sem.run_bind, run_underlying hu1, run_underlying hu2, Result.andThen_ok, Conv.intToInt, Sem.run_pure], .c (.sc rfl)⟩
      · cases hb
    · cases hcv
    · split at hcv <;> cases hcv
    · cases hcv
  · rename_i hcv
    unfold cvOf at hcv
    split at hcv
    · cases hcv
    · rename_i hu1 hu2
      split at hb
      · obtain ⟨rfl, hs⟩ := sc_inv hx
        cases hb
        exact ⟨_, by simp only [convert, Sem.run_bind, run_underlying hu1, run_underlying hu2, Result.andThen_ok, Sem.run_pure], .c (.sc hs)⟩
      · cases hb
    · split at hcv <;> cases hcv
    · cases hcv
  · rename_i e hcv
    unfold cvOf at hcv
    split at hcv
    · cases hcv
    · cases hcv
    · rename_i e1 hu1 hu2
      split at hcv
      · rename_i hu3 hti
        obtain rfl : e1 = e := by cases hcv; rfl
        have hZe : Z e1 = 1 := by
          obtain ⟨d, i, h1, h2, h3, h4⟩ := tinfo_spec hti
          rw [hZ0 e1 i h2, h4]
        have hp : 0 < Z e1 := by omega
        have hnil : u = .slice none 0 0 → (convert src dst u).run P w = .ok (.string ByteArray.empty) w := by
          rintro rfl
          rw [run_convert_bytes_string w src dst e1 none 0 0 hu1 hu3 hu2]
          simp [Conv.bytesToString]
        have hgen : ∀ {sz : Nat} {ys : Rows} {vs : List Value} {fp : Nat → Nat → Prop} {ns : List Int}, Src Z w S sz u ys vs fp → rowBytes ys = some ns → ns.length ≤ maxLen →
            (convert src dst u).run P w = .ok (.string (bytesText ns)) w := by
          intro sz ys vs fp ns hS hbn hmx
          have hv := src_bytes hS hbn
          have hlen : ys.length = ns.length := by rw [rowBytes_spec hbn]; simp
          rcases hS.at_ with ⟨rfl, rfl⟩ | ⟨ad, c, rfl, hcell⟩
          · simp only [rowBytes, Option.some.injEq] at hbn
            subst hbn
            exact hnil rfl
          · rw [run_convert_bytes_string w src dst e1 (some ad) _ c hu1 hu3 hu2]
            refine run_bytesToString w ad _ c ns ?_
            rw [hlen]
            have := run_loadCells_list (P := P) w ad vs hcell
            rw [hv] at this
            simpa using this
        split at hb
        · cases hx
          cases hb
          exact ⟨_, hnil rfl, .c (.sc (by decide))⟩
        · rename_i e2 es
          simp only [Option.bind_eq_some_iff] at hb
          obtain ⟨ns, hns, hb⟩ := hb
          split at hb
          · rename_i hmx
            obtain ⟨rfl, hmx⟩ := hmx
            cases hb
            obtain ⟨fps', fp, vs, A, hS, _⟩ := srcA_ok h (e := e2) rfl hp (xv := .c (.row false e2 es)) hx (ys := es) (q := []) (by simp [srcA])
            exact ⟨_, hgen hS hns hmx, .c (.sc (by simp only [isSc, decide_eq_true_eq, bytesText_size]; exact hmx))⟩
          · cases hb
        · rename_i p lo len
          split at hb
          · rename_i e2 es hl
            simp only [Option.bind_eq_some_iff] at hb
            obtain ⟨ns, hns, hb⟩ := hb
            split at hb
            · rename_i hmx
              obtain ⟨rfl, hmx⟩ := hmx
              cases hb
              have hfl : flatR ((es.drop lo).take len) = true := by
                rw [rowBytes_spec hns]
                simp [flatR, flatC]
              obtain ⟨fps', fp, vs, A, hS, _⟩ := srcA_ok h (e := e2) rfl hp (xv := .bor p lo len) hx (ys := (es.drop lo).take len) (q := []) (by simp [srcA, hl, hfl])
              exact ⟨_, hgen hS hns hmx, .c (.sc (by simp only [isSc, decide_eq_true_eq, bytesText_size]; exact hmx))⟩
            · cases hb
          · cases hb
        · cases hb
      · cases hcv
    · cases hcv
  · cases hb
/-- A byte of a text. -/
def byteAt (s : ByteArray) (i : Int) : Int := ((s.data.getD i.toNat 0).toNat : Int)
def indexA (P : Program) (t : TypeId) (x i : AV) : Option AV :=
  match lenK P t, x, idxOf i with
  | some true, .c (.sc (.string s)), some i => if 0 ≤ i ∧ i < s.size then some (.c (.sc (.int .u8 (byteAt s i)))) else none
  | _, _, _ => none
theorem indexA_ok {P : Program} {es : Rows} {ad : Nat → Nat → Option Addr} {t : TypeId} {x i r : AV} {u v : Value} (hx : RA Z w S es vals ad x u) (hi : RA Z w S es vals ad i v) (hb : indexA P t x i = some r) :
    ∃ q, (Instr.index t u v).run P w = .ok q w ∧ RA Z w S es vals ad r q := by
  unfold indexA at hb
  split at hb
  · rename_i s n hk hn
    have hu : P.underlying t = some .string := by
      unfold lenK at hk; split at hk
      · rename_i hu; exact hu
      · cases hk
      · cases hk
    obtain ⟨rfl, _⟩ := sc_inv hx
    obtain ⟨k, rfl⟩ := idxOf_spec hi hn
    split at hb
    · rename_i hc
      cases hb
      refine ⟨_, ?_, .c (.sc rfl)⟩
      have hlt : n.toNat < s.size := by omega
      have hlt2 : n.toNat < s.data.size := hlt
      have hg : s[n.toNat]? = some (s.data[n.toNat]) := by
        rw [getElem?_pos s n.toNat hlt]; rfl
      simp only [Instr.index, asIntOf, Sem.run_bind, Sem.run_pure, Result.andThen_ok, run_underlying hu, hc.1, if_true, hg, byteAt, Array.getD_eq_getD_getElem?, Array.getElem?_eq_getElem hlt2, Option.getD_some]
    · cases hb
  · cases hb
def fieldA (P : Program) (t : TypeId) (f : Nat) (x : AV) : Option AV :=
  match fldOf P t f, x with
  | some (off, ag, n), .agg xs => if ag then some (.agg ((xs.drop off).take n)) else xs[off]?
  | _, _ => none
theorem fieldA_ok {P : Program} {es : Rows} {ad : Nat → Nat → Option Addr} {t : TypeId} {f : Nat} {x r : AV} {u : Value} (hx : RA Z w S es vals ad x u) (hb : fieldA P t f x = some r) :
    ∃ q, (Instr.field t u f).run P w = .ok q w ∧ RA Z w S es vals ad r q := by
  unfold fieldA at hb
  split at hb
  · rename_i off ag n xs hf
    unfold fldOf at hf
    split at hf
    · rename_i fs hu
      split at hf
      · rename_i fd hfd
        split at hf
        · rename_i ag2 n2 hti
          cases hf
          cases hx with
          | @agg _ vs hln h1 hra =>
            cases ag with
            | true =>
              simp only [if_true, Option.some.injEq] at hb
              subst hb
              refine ⟨.agg (vs.toArray.extract fd.offset (fd.offset + n)), ?_, ?_⟩
              · simp [Instr.field, run_underlying hu, hfd, asAgg, part, run_isAgg hti, run_sizeOf hti]
              · have he : vs.toArray.extract fd.offset (fd.offset + n) = ((vs.drop fd.offset).take n).toArray := by
                  rw [List.extract_toArray, List.extract_eq_take_drop]; congr 2; omega
                rw [he]
                refine .agg (by simp only [List.length_take, List.length_drop, hln]) (fun v hv => h1 v (List.mem_of_mem_drop (List.mem_of_mem_take hv))) fun i y v hy hv => ?_
                rw [List.getElem?_take] at hy hv
                split at hy
                · rename_i hi
                  rw [if_pos hi] at hv
                  rw [List.getElem?_drop] at hy hv
                  exact hra _ y v hy hv
                · cases hy
            | false =>
              simp only [Bool.false_eq_true, if_false] at hb
              have hlt : fd.offset < vs.length := by rw [← hln]; exact (List.getElem?_eq_some_iff.1 hb).1
              refine ⟨vs[fd.offset], ?_, hra _ r _ hb (List.getElem?_eq_getElem hlt)⟩
              simp [Instr.field, run_underlying hu, hfd, asAgg, part, run_isAgg hti, hlt]
        · cases hf
      · cases hf
    · cases hf
  · cases hb
def extractA (x : AV) (i : Nat) : Option AV :=
  match x with
  | .tup xs => xs[i]?
  | _ => none
theorem extractA_ok {P : Program} {es : Rows} {ad : Nat → Nat → Option Addr} {i : Nat} {x r : AV} {u : Value} (hx : RA Z w S es vals ad x u) (hb : extractA x i = some r) :
    ∃ q, (Instr.extract u i).run P w = .ok q w ∧ RA Z w S es vals ad r q := by
  unfold extractA at hb
  split at hb
  · cases hx with
    | @tup _ vs hln hra =>
      have hlt : i < vs.length := by rw [← hln]; exact (List.getElem?_eq_some_iff.1 hb).1
      refine ⟨vs[i], ?_, hra _ r _ hb (List.getElem?_eq_getElem hlt)⟩
      simp [Instr.extract, hlt]
  · cases hb
end
end Go.Abs

