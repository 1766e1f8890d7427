/- The program's ways are the reference's: plain. -/
import Derived.Test.YtbhbkaonlillhaaGreatDoorCFg
namespace Go.Proofs.YtbhbkaonlillhaaGreatDoor
open Go Go.Abs Go.Proofs Go.Tm
set_option linter.unusedSimpArgs false
set_option linter.unusedVariables false
theorem editB_who {e : Edt} (h : editB e = true) (h8 : e.kind = 8) : e.who = 0 := by
  unfold editB at h
  simp [h8] at h
  exact h.2.2.2
theorem turned_write {t : Tree} {e : Edt} {k : Nat} {x : Nod} {g : Int} (h : editB e = true) (hk : e.kind = 7 ∨ e.kind = 8 ∨ e.kind = 9) : turnedT t e k x g = writeT t e k x g := by
  unfold turnedT writeT
  rcases hk with h7 | h8 | h9
  · simp only [h7]
    unfold addC
    by_cases h1 : x.dir = true
    · simp [h1]
    by_cases h2 : x.writer = 0
    · simp [h1, h2]
    by_cases h3 : roomFor t x.id e.num = false ∨ 1000 < x.len + e.num
    · simp [h1, h2, h3]
    by_cases h4 : (40 : Int) < (x.pieces.length : Int) + ((spans x.schema e.num).length : Int)
    · simp [h1, h2, h3, h4]
    · simp [h1, h2, h3, h4]
  · have hw := editB_who h h8
    simp only [h8, hw]
    by_cases h1 : x.dir = true
    · simp [h1]
    by_cases h2 : x.writer = 0
    · simp [h1, h2]
    · simp [h1, h2]
  · simp only [h9]
    by_cases h1 : x.dir = true
    · simp [h1]
    by_cases h2 : x.writer = 0
    · simp [h1, h2]
    · simp [h1, h2]
theorem turned_set {t : Tree} {e : Edt} {k : Nat} {x : Nod} {g : Int} (hk : e.kind = 5 ∨ e.kind = 6) : turnedT t e k x g = setT t e k x := by
  unfold turnedT
  rw [if_pos hk]
theorem belowOf_has {t : Tree} {id : Int} (h : okT t.nodes t.next = true) (hs : (nd t.nodes id).isSome = true) {x : Nod} (hx : x ∈ t.nodes) : (belowOf t id).contains x.id = below t.nodes x.id id := by
  have e : belowOf t id = belows t.nodes id := by unfold belowOf; rw [if_pos ⟨h, hs⟩]
  rw [e]
  cases hb : below t.nodes x.id id with
  | true =>
    rw [List.contains_iff_mem]
    exact List.mem_map.2 ⟨x, List.mem_filter.2 ⟨hx, hb⟩, rfl⟩
  | false =>
    rw [Bool.eq_false_iff]
    intro hc
    rw [List.contains_iff_mem] at hc
    obtain ⟨y, hy, he⟩ := List.mem_map.1 hc
    have := (List.mem_filter.1 hy).2
    simp only [he] at this
    rw [hb] at this
    cases this
theorem drop_eq {t : Tree} {id : Int} (h : okT t.nodes t.next = true) (hs : (nd t.nodes id).isSome = true) : (t.nodes.filter fun x => !(belowOf t id).contains x.id) = (dropT t id).nodes :=
  List.filter_congr fun x hx => by rw [belowOf_has h hs hx]
end Go.Proofs.YtbhbkaonlillhaaGreatDoor
