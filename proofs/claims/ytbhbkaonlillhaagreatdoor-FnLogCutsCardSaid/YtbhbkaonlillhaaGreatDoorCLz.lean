/- Small words for rows. -/
import Derived.Test.YtbhbkaonlillhaaGreatDoorCFa
import Derived.Test.YtbhbkaonlillhaaGreatDoorAbc
namespace Go.Proofs.YtbhbkaonlillhaaGreatDoor
open Go Go.Abs Go.Proofs Go.Tm
theorem mg_keep {W : World} (hg : MG W) : GK MG W.heap.size := by
  obtain ⟨m, hm⟩ := hg
  have h0 : 0 < W.heap.size := by
    unfold World.cell? at hm
    split at hm
    · rename_i h
      exact (Array.getElem?_eq_some_iff.1 h).1
    · cases hm
  rintro a b ⟨n, hn⟩ _ hk _ _
  refine ⟨n, ?_⟩
  unfold World.cell? at hn ⊢
  rw [hk 0 h0]
  exact hn
theorem rl_mk1 {R : AV → Value → Prop} {x : AV} {u : Value} (h1 : R x u) : RL R [x] [u] := ⟨rfl, fun i a b ha hb => by
  cases i with
  | zero => cases ha; cases hb; exact h1
  | succ i => simp at ha⟩
theorem rl_mk3 {R : AV → Value → Prop} {x y z : AV} {u v s : Value} (h1 : R x u) (h2 : R y v) (h3 : R z s) : RL R [x, y, z] [u, v, s] := ⟨rfl, fun i a b ha hb => by
  match i with
  | 0 => cases ha; cases hb; exact h1
  | 1 => cases ha; cases hb; exact h2
  | 2 => cases ha; cases hb; exact h3
  | i + 3 => simp at ha⟩
end Go.Proofs.YtbhbkaonlillhaaGreatDoor
