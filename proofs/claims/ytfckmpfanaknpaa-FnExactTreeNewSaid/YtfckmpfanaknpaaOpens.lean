/- What comes in, told as kinds: where an argument's cells read as a datum of its type, they say a value of its kind. Nothing is asked of the program but its types. -/
import Derived.Test.YtfckmpfanaknpaaWMore
import Derived.ProofKit
import Derived.Deep.Slices
namespace Go.Proofs.Ytfckmpfanaknpaa.Opens
open Go.RowKit Go.ChangeShapes Go.WideShapes Go.Deep Go.Proofs.YtfckmpfanaknpaaW.PrintWords
set_option linter.unusedVariables false

/-- Each reading of a datum of type t says a value of the kind d, of which ok holds. -/
def Says {H α : Type} (enc : TypeId × Value → H) (P : Program) (w : World) (base : Nat) (spare : Nat → Bool) (held : Bool) (t : TypeId) (d : Kd α) (ok : α → Prop) : Prop :=
  ∀ (fuel : Nat) (cs : List Value) (x : DataW H × List MemPlace), DataW.trod enc P w base spare held fuel t cs = some x → ∃ a, d.K w a cs ∧ ok a

section
variable {H α β : Type} {enc : TypeId × Value → H} {P : Program} {w : World} {base : Nat} {spare : Nat → Bool} {held : Bool} {t : TypeId}
theorem says_int {k : IntKind} (ht : P.underlying t = some (.int k)) : Says enc P w base spare held t (Kd.int k) (fun n => (Lit.int k n).wf = true) := fun fuel cs x h => by
  obtain ⟨n, rfl, _, hw⟩ := DataW.trod_int ht h
  exact ⟨n, rfl, hw⟩
theorem says_bool (ht : P.underlying t = some .bool) : Says enc P w base spare held t Kd.bool (fun _ => True) := fun fuel cs x h => by
  obtain ⟨b, rfl, _⟩ := DataW.trod_bool ht h
  exact ⟨b, rfl, trivial⟩
theorem says_string (ht : P.underlying t = some .string) : Says enc P w base spare held t Kd.string (fun s => s.size ≤ maxLen) := fun fuel cs x h => by
  obtain ⟨s, rfl, _, hs⟩ := DataW.trod_string ht h
  exact ⟨s, rfl, hs⟩
theorem says_slice {e : TypeId} {d : Kd α} {ok : α → Prop} (ht : P.underlying t = some (.slice e)) (hs : P.cellsOf e = d.sz) (h : Says enc P w base spare held e d ok) :
    Says enc P w base spare held t (Kd.slice e d) (fun xs => xs.length ≤ maxLen ∧ ∀ x ∈ xs, ok x) := fun fuel cs x hx => by
  rcases open_slice ht hx with ⟨rfl, _⟩ | ⟨a, len, cap, m, n, D, Pl, rfl, _, hl, hm, hmm, _, hi⟩
  · exact ⟨[], ⟨none, 0, rfl, Nat.le_refl _, rfl, Nat.zero_le _, fun hp => absurd hp (Nat.lt_irrefl _)⟩, Nat.zero_le _, fun _ hx => by cases hx⟩
  · have hlm : len ≤ m := by rw [hmm]; split <;> omega
    have key : ∀ i : Fin len, ∃ x : α, (∃ c, c.length = d.sz ∧ d.K w x c ∧ ∀ j u, c[j]? = some u → w.cell? (a.add (i.1 * d.sz + j)) = some u) ∧ ok x := by
      intro i
      obtain ⟨cs', hc, ht'⟩ := hi i.1 (by omega)
      obtain ⟨x, hK, hok⟩ := h n cs' _ ht'
      obtain ⟨_, hcl, hat⟩ := World.cells?_some hc
      refine ⟨x, ⟨cs', d.K_len hK, hK, fun j u hj => ?_⟩, hok⟩
      have hjl : j < cs'.length := (List.getElem?_eq_some_iff.1 hj).1
      have := hat j (by omega)
      rw [hs, Go.Deep.add_add] at this
      rw [this, hj]
    refine ⟨List.ofFn fun i : Fin len => Classical.choose (key i), ⟨some a, cap, by simp, by simpa using hl, by simp, by simp only [maxLen] at hm; simp; omega, fun _ => ⟨a, rfl, fun j p hj => ?_⟩⟩, by simp; omega, fun x hx => ?_⟩
    · rw [List.getElem?_ofFn] at hj
      split at hj
      · rename_i hlt
        injection hj with hj
        subst hj
        exact (Classical.choose_spec (key ⟨j, hlt⟩)).1
      · cases hj
    · obtain ⟨i, rfl⟩ := List.mem_ofFn.1 hx
      exact (Classical.choose_spec (key i)).2
/-- The fields fs, from cell off on, say the kind d. -/
def Part (enc : TypeId × Value → H) (P : Program) (w : World) (base : Nat) (spare : Nat → Bool) (held : Bool) (fs : List Field) (off : Nat) (d : Kd β) (ok : β → Prop) : Prop :=
  ∀ (n : Nat) (cs : List Value), cs.length = off + d.sz → (∀ f ∈ fs, ∃ y, DataW.trod enc P w base spare held n f.type ((cs.drop f.offset).take (P.cellsOf f.type)) = some y) → ∃ b, d.K w b (cs.drop off) ∧ ok b
theorem part_one {f : Field} {d : Kd α} {ok : α → Prop} {off : Nat} (ho : f.offset = off) (hs : P.cellsOf f.type = d.sz) (h : Says enc P w base spare held f.type d ok) : Part enc P w base spare held [f] off d ok := fun n cs hl hf => by
  obtain ⟨y, hy⟩ := hf f (List.mem_singleton_self _)
  rw [ho, hs, List.take_of_length_le (by rw [List.length_drop]; omega)] at hy
  exact h n _ y hy
theorem part_cons {f : Field} {fs : List Field} {d : Kd α} {d2 : Kd β} {ok : α → Prop} {ok2 : β → Prop} {off : Nat} (ho : f.offset = off) (hs : P.cellsOf f.type = d.sz) (h : Says enc P w base spare held f.type d ok) (h2 : Part enc P w base spare held fs (off + d.sz) d2 ok2) :
    Part enc P w base spare held (f :: fs) off (Kd.pair d d2) (fun x => ok x.1 ∧ ok2 x.2) := fun n cs hl hf => by
  obtain ⟨y, hy⟩ := hf f List.mem_cons_self
  obtain ⟨a, ha, oa⟩ := h n _ y hy
  have hl' : cs.length = off + (d.sz + d2.sz) := hl
  obtain ⟨b, hb, ob⟩ := h2 n cs (by omega) (fun g hg => hf g (List.mem_cons_of_mem _ hg))
  rw [ho, hs] at ha
  refine ⟨(a, b), ⟨(cs.drop off).take d.sz, cs.drop (off + d.sz), ?_, ha, hb⟩, oa, ob⟩
  rw [← List.drop_drop, List.take_append_drop]
theorem says_struct {fs : Array Field} {d : Kd β} {ok : β → Prop} (ht : P.underlying t = some (.struct fs)) (hs : P.cellsOf t = d.sz) (h : Part enc P w base spare held fs.toList 0 d ok) (f : α → β) (g : β → α) (hfg : ∀ b, f (g b) = b) :
    Says enc P w base spare held t (Kd.iso d f) (fun x => ok (f x)) := fun fuel cs x hx => by
  obtain ⟨xs, n, _, _, hl, hlen, hf⟩ := DataW.trod_struct ht hx
  obtain ⟨b, hb, ob⟩ := h n cs (by omega) (fun fl hfl => by
    obtain ⟨i, hi, he⟩ := List.mem_iff_getElem.1 hfl
    have hi' : i < fs.size := by simpa using hi
    have h1 := hf i fl (by rw [← he]; simp [hi'])
    rw [List.getElem?_eq_getElem (by omega)] at h1
    exact ⟨_, h1⟩)
  refine ⟨g b, ?_, ?_⟩
  · show d.K w (f (g b)) cs
    rw [hfg]
    exact hb
  · show ok (f (g b))
    rw [hfg]
    exact ob
theorem says_imp {d : Kd α} {ok ok' : α → Prop} (h : Says enc P w base spare held t d ok) (hi : ∀ a, ok a → ok' a) : Says enc P w base spare held t d ok' := fun fuel cs x hx => by
  obtain ⟨a, ha, o⟩ := h fuel cs x hx
  exact ⟨a, ha, hi a o⟩
end
end Go.Proofs.Ytfckmpfanaknpaa.Opens
