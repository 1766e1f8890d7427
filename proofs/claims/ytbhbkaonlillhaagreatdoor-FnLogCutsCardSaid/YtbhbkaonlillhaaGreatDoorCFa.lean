/- Contracts: paths, by the program and the library. -/
import Derived.Test.YtbhbkaonlillhaaGreatDoorCEy
import Derived.Test.YtbhbkaonlillhaaGreatDoorCEk
import Derived.Test.YtbhbkaonlillhaaGreatDoorTm
import Derived.Test.YtbhbkaonlillhaaGreatDoorAbc
namespace Go.Proofs.YtbhbkaonlillhaaGreatDoor
open Go Go.Abs Go.Proofs Go.Tm
set_option linter.unusedSimpArgs false
set_option linter.unusedVariables false
set_option maxRecDepth 10000
variable {Z : TypeId → Nat} {G : World → Prop} {B0 : Nat}
/-- The cell of global MaxLen holds a number. -/
def MG (w : World) : Prop := ∃ m, w.cell? ⟨0, 0, none⟩ = some (.int .i64 m)
theorem fr_self (w : World) : Fr (fun _ => False) w w := Fr.refl _ _
theorem cutPrefix_spec (hZ : ZOk Tryz.prog Z) (p : ByteArray) (hp : p.size ≤ 1048576) : Does Z Tryz.prog G B0 155 [sA p, sA ⟨#[47]⟩] [] [] (fun y _ => y = .tup [sA (cutP p), bA (Lib.hasPrefix p.data.toList [47])]) := by
  have hcs : (cutP p).size ≤ p.size := by
    unfold cutP Lib.trimPrefix
    have : p.data.toList.length = p.size := Array.length_toList
    split
    · show (List.toArray _).size ≤ _
      simp only [List.size_toArray, List.length_drop]; omega
    · show (List.toArray _).size ≤ _
      simp only [List.size_toArray]; omega
  have := Does.sc (Z := Z) (P := Tryz.prog) (G := G) (B0 := B0) (f := 155) (xs := [.string p, .string ⟨#[47]⟩]) (y := .tup [sA (cutP p), bA (Lib.hasPrefix p.data.toList [47])]) (v := .tuple #[.string (cutP p), .bool (Lib.hasPrefix p.data.toList [47])]) (by kernel_rfl) rfl
    (fun w S => by
      have := PK.tup (Z := Z) (w := w) (S := S) (xs := [sA (cutP p), bA (Lib.hasPrefix p.data.toList [47])]) (vs := [.string (cutP p), .bool (Lib.hasPrefix p.data.toList [47])]) (fun _ _ => False) rfl (fun i x v hx hv => by
        match i with
        | 0 => cases hx; cases hv; exact .c (.sc (decide_eq_true (show (cutP p).size ≤ maxLen by unfold maxLen; omega)))
        | 1 => cases hx; cases hv; exact .c (.sc rfl)
        | i + 2 => cases hx) (fun _ _ _ h => h) (fun _ _ _ h => h.elim)
      have e : (fun k => ∃ i, (fun _ _ => False : Nat → Nat → Prop) i k) = fun _ => False := by funext k; simp
      rw [e] at this
      exact this)
    (fun w _ _ => (Tryz.strings_CutPrefix p ⟨#[47]⟩ w).mono fun en w' ⟨h1, h2⟩ => by
      subst h2
      exact ⟨h1, fr_self _⟩)
  exact this
theorem hasPrefix_spec (hZ : ZOk Tryz.prog Z) (p q : ByteArray) : Does Z Tryz.prog G B0 243 [sA p, sA q] [] [] (fun y _ => y = bA (Lib.hasPrefix p.data.toList q.data.toList)) :=
  Does.sc (Z := Z) (P := Tryz.prog) (G := G) (B0 := B0) (f := 243) (xs := [.string p, .string q]) (v := .bool (Lib.hasPrefix p.data.toList q.data.toList)) (by kernel_rfl) rfl (fun w S => .c (.sc rfl))
    (fun w _ _ => (Tryz.strings_HasPrefix p q w).mono fun en w' ⟨h1, h2⟩ => by
      subst h2
      exact ⟨h1, fr_self _⟩)
theorem splitB_sz (sep : ByteArray) : ∀ (k : Nat) (s : ByteArray), ∀ x ∈ Lib.splitB sep 0 k s, x.size ≤ s.size
  | 0, s, x, h => by simp [Lib.splitB] at h; subst h; exact Nat.le_refl _
  | k + 1, s, x, h => by
    unfold Lib.splitB at h
    split at h
    · simp at h; subst h; exact Nat.le_refl _
    · rcases List.mem_cons.1 h with rfl | h
      · rw [ByteArray.size_extract]; omega
      · have := splitB_sz sep k _ x h
        rw [ByteArray.size_extract] at this
        omega
theorem pcs_len (s : ByteArray) : (pcs s).length = Lib.countB s ⟨#[47]⟩ + 1 := Lib.splitB_all _ (by decide) _ _ _ rfl
theorem split_size (s : ByteArray) (h : s.size ≤ 1048576) : (pcs s).length ≤ 1048577 ∧ ∀ x ∈ pcs s, x.size ≤ 1048576 := by
  refine ⟨?_, fun x hx => Nat.le_trans (splitB_sz _ _ _ x hx) h⟩
  rw [pcs_len]
  have := Lib.countB_le ⟨#[47]⟩ (by decide) s.size s (Nat.le_refl _)
  omega
theorem split_spec (hZ : ZOk Tryz.prog Z) (hG : ∀ w, G w → MG w) (p : ByteArray) (hp : p.size ≤ 1048576) : Does Z Tryz.prog G B0 156 [sA p, sA ⟨#[47]⟩] [] [] (fun y _ => y = .c (strsE true (pcs p))) := by
  have hsz := split_size p hp
  have h := Does.scRow (Z := Z) (P := Tryz.prog) (G := G) (B0 := B0) (f := 156) (xs := [.string p, .string ⟨#[47]⟩]) (e := 9) (enc := Value.string) (ys := pcs p) (by kernel_rfl) (hZ.sz (ag := false) (by kernel_rfl)) (fun a ha => decide_eq_true (show a.size ≤ maxLen by unfold maxLen; have := hsz.2 a ha; omega))
    (fun w hg _ => by
      obtain ⟨m, hm⟩ := hG w hg
      refine (Tryz.strings_Split p ⟨#[47]⟩ m w (by omega) hm (by decide)).mono fun en w' ⟨h1, h2⟩ => ?_
      subst h2
      rw [← pcs_len] at h1
      refine ⟨_, h1, ⟨by simp, .inr ⟨_, _, _, rfl, Nat.zero_le _, heap_alloc_new w _, Nat.le_refl _, by unfold maxLen; omega, by simp [pcs], by simp [pcs]⟩⟩, ⟨rfl, rfl, rfl, by simp, fun k hk _ => heap_alloc_old w _ hk⟩, fun g hg => ?_⟩
      cases hg
      exact Nat.le_refl _)
  simpa [strsE, scs, scA] using h
theorem SplitFn_spec (hZ : ZOk Tryz.prog Z) (s : ByteArray) : Does Z Tryz.prog G B0 158 [sA s] [] [] (fun y _ => y = bA (!nmB s)) := by
  refine Does.body hZ Tryz.func158 rfl rfl (Nat.le_of_ble_eq_true rfl) ?_
  simp [Tryz.f158]
  refine CallA.snapE (iNameOk_spec hZ s) (by simp) (by simp) ?_
  simp
theorem idxStr_spec (hZ : ZOk Tryz.prog Z) (l : List ByteArray) : Does Z Tryz.prog G B0 196 [.c (strsE false l), .fn 158 [] []] [] [] (fun y _ => y = iA (idxF (fun s => !nmB s) l 0)) := by
  generalize hr : idxF (fun s => !nmB s) l 0 = r
  refine Does.bodyF hZ Tryz.func196 rfl rfl (Nat.le_of_ble_eq_true rfl) fun hf => ?_
  simp [strsE] at hf
  simp [Tryz.f196, strsE]
  refine LoopA.run hZ (fun i : Nat => ⟨19, [(0, .c (strsE false l)), (1, .fn 158 [] []), (7, iA l.length), (8, iA i)], [], []⟩) (fun i => i ≤ l.length ∧ idxF (fun s => !nmB s) (l.drop i) i = r) (fun i => l.length - i) 0 (by simpa using hr) (Sub.by [] (by simp [strsE])) fun i ⟨hi, he⟩ => ?_
  simp [strsE]
  refine Br.dec (fun h => ?_) (fun h => ?_)
  · have hw := w_inc h hf.1
    have hx : l[i]? = some l[i] := List.getElem?_eq_getElem h
    rw [List.drop_eq_getElem_cons h, idxF] at he
    generalize l[i] = s at hx he
    simp [hx]
    refine CallA.snapE (SplitFn_spec hZ s) (by simp) (by simp) ?_
    simp
    refine Br.bool (fun h2 => ?_) (fun h2 => ?_) <;> simp [h2] at he ⊢
    · exact Again.mk (i + 1) ⟨by omega, he⟩ (by omega) (Sub.by [] (by simp [hw, strsE]))
    · exact he
  · rw [List.drop_eq_nil_of_le (show l.length ≤ i by omega), idxF] at he
    subst he
    simp
theorem anyStr_spec (hZ : ZOk Tryz.prog Z) (l : List ByteArray) : Does Z Tryz.prog G B0 157 [.c (strsE false l), .fn 158 [] []] [] [] (fun y _ => y = bA (l.any fun s => !nmB s)) := by
  refine Does.bodyF hZ Tryz.func157 rfl rfl (Nat.le_of_ble_eq_true rfl) fun hf => ?_
  simp [Tryz.f157, strsE]
  refine CallA.snapE (idxStr_spec hZ l) (by simp [strsE]) (by simp) ?_
  simp [← idxF_any _ l 0]
theorem iSplitPath_spec (hZ : ZOk Tryz.prog Z) (hG : ∀ w, G w → MG w) (p : ByteArray) (hp : p.size ≤ 1048576) : Does Z Tryz.prog G B0 91 [sA p] [] [] (fun y _ => y = .tup [.c (strsE true ((splitP p).getD [])), bA (splitP p).isSome] ∨ (y = .tup [.nils, bA (splitP p).isSome] ∧ (splitP p).getD [] = [])) := by
  refine Does.bodyF hZ Tryz.func91 rfl rfl (Nat.le_of_ble_eq_true rfl) fun hf => ?_
  simp [Tryz.f91]
  refine CallA.snapE (cutPrefix_spec hZ p hp) (by simp) (by simp) ?_
  simp
  refine Br.bool (fun h1 => ?_) (fun h1 => ?_) <;> simp [h1]
  rotate_left
  · simp [splitP_pre h1]
  have hcz : (cutP p).size ≤ 1048576 := by rw [cut_eq h1, ByteArray.size_extract]; omega
  have hsz := split_size (cutP p) hcz
  refine Br.dec (fun h2 => ?_) (fun h2 => ?_) <;> simp [splitP_cut h1, h2]
  refine CallA.snapE (split_spec hZ hG (cutP p) hcz) (by simp) (by simp [noShr_strL]) ?_
  simp [strsE]
  refine Br.dec (fun h3 => ?_) (fun h3 => ?_) <;> simp [h3, finP, strsE]
  · have : ¬ (pcs (cutP p)).length ≤ 4 := by omega
    rw [if_neg (by rintro ⟨_, h⟩; exact this h)]
    simp
    exact fun _ => by omega
  · have h4 : (pcs (cutP p)).length ≤ 4 := by omega
    refine CallA.snapE (anyStr_spec hZ (pcs (cutP p))) (by simp [strsE]) (by simp) ?_
    simp
    refine Br.bool (fun h5 => ?_) (fun h5 => ?_) <;> simp [h5]
    · rw [if_neg (by rintro ⟨h, _⟩; rw [List.any_eq_true] at h5; obtain ⟨x, hx, h6⟩ := h5; rw [h x hx] at h6; cases h6)]
      simp
      intro hall
      obtain ⟨x, hx, h6⟩ := List.any_eq_true.1 h5
      rw [hall x hx] at h6; cases h6
    · rw [if_pos ⟨fun x hx => by rw [List.any_eq_false] at h5; simpa using h5 x hx, h4⟩]
      simp
      exact ⟨fun x hx => by rw [List.any_eq_false] at h5; simpa using h5 x hx, h4⟩
theorem iSplitPath_spec2 (hZ : ZOk Tryz.prog Z) (hG : ∀ w, G w → MG w) (p : ByteArray) (hp : p.size ≤ 1048576) : Does Z Tryz.prog G B0 91 [sA p] [] [] (fun y _ => y = .tup [.c (strsE true ((splitP p).getD [])), bA (splitP p).isSome]) :=
  (iSplitPath_spec hZ hG p hp).denil 9 fun y _ h => by
    rcases h with rfl | ⟨rfl, h⟩
    · simp [denil, denilL, strsE]
    · simp [denil, denilL, strsE, h]
end Go.Proofs.YtbhbkaonlillhaaGreatDoor
