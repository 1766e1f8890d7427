/- A result may be told as one that is only read from now on. -/
import Derived.Test.YtbhbkaonlillhaaGreatDoorCEn
namespace Go.Abs
open Go
set_option linter.unusedVariables false
set_option linter.unusedSimpArgs false
variable {Z : TypeId → Nat}
mutual
def shA : AV → AV
  | .c x => .c (share x)
  | .agg xs => .agg (shAL xs)
  | .tup xs => .tup (shAL xs)
  | y => y
def shAL : List AV → List AV
  | [] => []
  | x :: r => shA x :: shAL r
end
theorem shAL_eq : ∀ l, shAL l = l.map shA
  | [] => rfl
  | x :: r => by simp [shAL, shAL_eq r]
theorem PK.lt {w : World} {S : Nat → Prop} {y : AV} {v : Value} {fp : Nat → Prop} (h : PK Z w S y v fp) : ∀ k, fp k → k < w.heap.size := by
  induction h with
  | c h => exact h.lt
  | nils => exact fun _ h => h.elim
  | @agg xs vs fps hl h1 h hout hd ih =>
    rintro k ⟨i, hk⟩
    by_cases hi : i < xs.length
    · exact ih i _ _ (List.getElem?_eq_getElem hi) (List.getElem?_eq_getElem (by omega)) k hk
    · exact absurd hk (hout i (by omega) k)
  | @tup xs vs fps hl h hout hd ih =>
    rintro k ⟨i, hk⟩
    by_cases hi : i < xs.length
    · exact ih i _ _ (List.getElem?_eq_getElem hi) (List.getElem?_eq_getElem (by omega)) k hk
    · exact absurd hk (hout i (by omega) k)
theorem PK.share {w : World} {S S' : Nat → Prop} {y : AV} {v : Value} {fp : Nat → Prop} (h : PK Z w S y v fp) (hS : ∀ k, S k → S' k) (hf : ∀ k, fp k → S' k) : PK Z w S' (shA y) v (fun _ => False) := by
  have no : (fun k => ∃ i : Nat, False) = fun _ : Nat => False := by funext k; simp
  induction h with
  | c h => simp only [shA]; exact .c (h.share hS hf)
  | nils => simp only [shA]; exact .nils
  | @agg xs vs fps hl h1 h hout hd ih =>
    simp only [shA, shAL_eq]
    have := PK.agg (Z := Z) (w := w) (S := S') (xs := xs.map shA) (vs := vs) (fun _ _ => False) (by simpa using hl) h1 (fun i x v hx hv => by
      rw [List.getElem?_map] at hx
      obtain ⟨x0, hx0, rfl⟩ := Option.map_eq_some_iff.1 hx
      exact ih i x0 v hx0 hv fun k hk => hf k ⟨i, hk⟩) (fun _ _ _ h => h) (fun _ _ _ h => h.elim)
    rwa [no] at this
  | @tup xs vs fps hl h hout hd ih =>
    simp only [shA, shAL_eq]
    have := PK.tup (Z := Z) (w := w) (S := S') (xs := xs.map shA) (vs := vs) (fun _ _ => False) (by simpa using hl) (fun i x v hx hv => by
      rw [List.getElem?_map] at hx
      obtain ⟨x0, hx0, rfl⟩ := Option.map_eq_some_iff.1 hx
      exact ih i x0 v hx0 hv fun k hk => hf k ⟨i, hk⟩) (fun _ _ _ h => h) (fun _ _ _ h => h.elim)
    rwa [no] at this
theorem okRes_shA (y : AV) (h : okRes y = true) : okRes (shA y) = true := by
  cases y <;> simp_all [shA, okRes]
section
variable {P : Program} {G : World → Prop} {B0 : Nat} {f : FuncId} {args : List AV} {Post Post' : AV → Rows → Prop}
/-- What a function hands back is only read from now on. -/
theorem Does.shr (h : Does Z P G B0 f args [] [] Post) (hp : ∀ y r, Post y r → Post' (shA y) r) : Does Z P G B0 f args [] [] Post' := by
  refine ⟨h.1, fun w S vals fps cb vs hK hG hB hL hI hA => (h.2 w S vals fps cb vs hK hG hB hL hI hA).mono ?_⟩
  rintro e' w' ⟨res, rts', v, S', vals', fps', cb', fp, he, hpo, hok, hl, hI', hpr, hfl⟩
  have hlf : ∀ k, ¬ (entOf w S [] [] vals fps cb).lf k := by
    rintro k (⟨r, c, hk⟩ | ⟨r, hr, _⟩)
    · exact hI.rr.out r c (by simp [cellAt]) k hk
    · simp at hr
  obtain rfl : rts' = [] := by simpa using hl
  cases hpr with
  | pk hpk =>
    refine ⟨shA res, [], v, fun k => S' k ∨ fp k, vals', fps', cb', fun _ => False, he, hp _ _ hpo, okRes_shA res hok, rfl, ?_, .pk (hpk.share (fun k hk => .inl hk) fun k hk => .inr hk), ⟨fun k hk => hk.elim, fun k hk => hk.elim, fun k hk => hk.elim⟩⟩
    refine ⟨hI'.dfr, hI'.nt, hI'.fr, fun k hk => .inl (hI'.s0 k hk), fun k hk => hk.elim (hI'.slt k) (hpk.lt k), fun k _ => hlf k, fun k hk => hk.elim (hI'.sn k) fun hk => .inr ((hfl.own k hk).resolve_left (hlf k)), ⟨fun i c cell hc => by simp [cellAt] at hc, hI'.rr.out, hI'.rr.dj⟩, hI'.own, fun r cells hr => by simp at hr, fun r hr => by simp at hr, hI'.bxn, fun r hr => by simp at hr, fun r r' hr => by simp at hr, fun t => ?_, hI'.lnl, hI'.lent⟩
    exact .dead
  | nb fps2 hb hsz hS hh hout hd hg =>
    have h2 := hp _ _ hpo
    simp only [shA] at h2
    exact ⟨_, [], _, S', vals', fps', cb', _, he, h2, hok, rfl, hI', .nb fps2 hb hsz hS hh hout hd hg, hfl⟩
end
end Go.Abs
namespace Go.Proofs.YtbhbkaonlillhaaGreatDoor
open Go Go.Abs Go.Proofs Go.Tm
theorem shA_tr (t : Tree) : shA (trA true t) = trA false t := by simp [shA, shAL, trA, ndsE, share]
theorem shA_ints (l : List Int) : shA (.c (intsE true l)) = .c (intsE false l) := by simp [shA, intsE, share]
theorem shA_strs (l : List ByteArray) : shA (.c (strsE true l)) = .c (strsE false l) := by simp [shA, strsE, share]
end Go.Proofs.YtbhbkaonlillhaaGreatDoor
