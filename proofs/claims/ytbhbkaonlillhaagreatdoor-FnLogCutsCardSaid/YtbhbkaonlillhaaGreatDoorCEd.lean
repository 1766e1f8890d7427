/- Contracts of sizes, names, places of nodes. -/
import Derived.Test.YtbhbkaonlillhaaGreatDoorCEb
namespace Go.Proofs.YtbhbkaonlillhaaGreatDoor
open Go Go.Abs Go.Proofs Go.Tm
set_option linter.unusedSimpArgs false
set_option linter.unusedVariables false
variable {Z : TypeId → Nat} {G : World → Prop} {B0 : Nat}

theorem szPieceS_spec (hZ : ZOk Tryz.prog Z) (l : List Pc) (k : Int) (hk : 0 ≤ k ∧ k ≤ 1048576) : Does Z Tryz.prog G B0 216 [.c (pcsL l), iA k] [] [] (fun y _ => ∃ v, y = iA v ∧ v ≤ k ∧ (0 ≤ v → l.length ≤ 1048576)) := by
  refine Does.bodyF hZ Tryz.func216 rfl rfl (Nat.le_of_ble_eq_true rfl) fun hf => ?_
  simp [pcsL] at hf
  simp [Tryz.f216, pcsL]
  have hw : IntKind.i64.wrap (k - l.length) = k - l.length := wrap_i64 (by omega)
  refine Br.dec (fun h => ?_) (fun h => ?_) <;> simp [hw] at h ⊢ <;> omega

theorem szInode_spec (hZ : ZOk Tryz.prog Z) (n : Nod) (k : Int) (hk : 0 ≤ k ∧ k ≤ 1048576) : Does Z Tryz.prog G B0 169 [ndLA n, iA k] [] [] (fun y _ => ∃ v, y = iA v ∧ v ≤ k ∧ (0 ≤ v → n.pieces.length ≤ 1048576)) := by
  refine Does.bodyF hZ Tryz.func169 rfl rfl (Nat.le_of_ble_eq_true rfl) fun hf => ?_
  simp [ndLA, ndL, pcsL] at hf
  simp [Tryz.f169, ndLA, ndL, pcsL]
  have hw : IntKind.i64.wrap (k - n.name.size) = k - n.name.size := wrap_i64 (by omega)
  refine Br.dec (fun h => ?_) (fun h => ?_) <;> simp [hw] at h ⊢
  · omega
  · refine CallA.snap (args' := [.c (pcsL n.pieces), iA (k - n.name.size)]) (by simp [pcsL]) (szPieceS_spec hZ n.pieces _ (by omega)) ?_
    rintro y ⟨v, rfl, h1, h2⟩
    refine ⟨by simp, ?_⟩
    simp
    refine Br.dec (fun h => ?_) (fun h => ?_) <;> simp
    · omega
    · exact ⟨by omega, fun hh => h2 hh⟩

theorem szInodeS_spec (hZ : ZOk Tryz.prog Z) (l : List Nod) (k : Int) (hk : 0 ≤ k ∧ k ≤ 1048576) : Does Z Tryz.prog G B0 105 [.c (ndsL l), iA k] [] [] (fun y _ => ∃ v, y = iA v ∧ v ≤ k ∧ (0 ≤ v → Sm l)) := by
  refine Does.bodyF hZ Tryz.func105 rfl rfl (Nat.le_of_ble_eq_true rfl) fun hf => ?_
  simp [ndsL] at hf
  simp [Tryz.f105, ndsL]
  have hw : IntKind.i64.wrap (k - l.length) = k - l.length := wrap_i64 (by omega)
  refine Br.dec (fun h => ?_) (fun h => ?_) <;> simp [hw] at h ⊢
  · omega
  refine LoopA.run hZ (fun p : Nat × Int => ⟨27, [(0, .c (ndsL l)), (1, iA p.2), (5, iA p.1)], [], []⟩) (fun p => 0 ≤ p.2 ∧ p.2 ≤ k ∧ ∀ x ∈ l.take p.1, x.pieces.length ≤ 1048576) (fun p => l.length - p.1) (0, k - l.length) (by simp; omega) (Sub.by [] (by simp [ndsL, hw])) fun ⟨i, j⟩ ⟨h0, h1, h2⟩ => ?_
  dsimp only at h0 h1 h2
  simp [ndsL]
  refine Br.dec (fun h => ?_) (fun h => ?_)
  · have hx : l[i]? = some l[i] := List.getElem?_eq_getElem h
    have hw2 := w_inc h hf.1
    simp [hx, ndL]
    refine CallA.snap (args' := [ndLA l[i], iA j]) (by simp [ndLA, ndL]) (szInode_spec hZ l[i] _ (by omega)) ?_
    rintro y ⟨v, rfl, h3, h4⟩
    refine ⟨by simp, ?_⟩
    simp
    refine Br.dec (fun h5 => ?_) (fun h5 => ?_) <;> simp
    · omega
    · refine Again.mk (i + 1, v) ⟨by dsimp only; omega, by dsimp only; omega, fun x hx2 => ?_⟩ (by dsimp only; omega) (Sub.by [] (by simp [hw2, ndsL]))
      dsimp only at hx2
      rw [List.take_add_one, hx] at hx2
      rcases List.mem_append.1 hx2 with hx2 | hx2
      · exact h2 x hx2
      · simp at hx2; subst hx2; exact h4 (by omega)
  · simp
    rw [List.take_of_length_le (by omega)] at h2
    exact ⟨h1, fun _ => ⟨by omega, h2⟩⟩

theorem szTree_spec (hZ : ZOk Tryz.prog Z) (t : Tree) (k : Int) (hk : 0 ≤ k ∧ k ≤ 1048576) : Does Z Tryz.prog G B0 38 [trL t, iA k] [] [] (fun y _ => ∃ v, y = iA v ∧ v ≤ k ∧ (0 ≤ v → Sm t.nodes)) := by
  refine Does.body hZ Tryz.func38 rfl rfl (Nat.le_of_ble_eq_true rfl) ?_
  simp [Tryz.f38, trL, ndsL]
  refine CallA.snap (args' := [.c (ndsL t.nodes), iA k]) (by simp [ndsL]) (szInodeS_spec hZ t.nodes k hk) ?_
  rintro y ⟨v, rfl, h1, h2⟩
  refine ⟨by simp, ?_⟩
  simp
  refine Br.dec (fun h5 => ?_) (fun h5 => ?_) <;> simp
  · omega
  · exact ⟨h1, h2⟩

def schK (c : Int) : Int := if c = 1 then 2 else if c = 2 then 3 else if c = 3 then 4 else 0
def schM (c : Int) : Int := if c = 1 then 1 else if c = 2 then 2 else if c = 3 then 2 else 0
def schB (c : Int) : Bool := decide (c = 1 ∨ c = 2 ∨ c = 3)
theorem SchemaOf_spec (hZ : ZOk Tryz.prog Z) (c : Int) : Does Z Tryz.prog G B0 160 [iA c] [] [] (fun y _ => y = .tup [iA (schK c), iA (schM c), bA (schB c)]) := by
  refine Does.body hZ Tryz.func160 rfl rfl (Nat.le_of_ble_eq_true rfl) ?_
  simp [Tryz.f160, schK, schM, schB]
  refine Br.dec (fun h => ?_) (fun h => ?_) <;> simp [h]
  refine Br.dec (fun h => ?_) (fun h => ?_) <;> simp [h]
  refine Br.dec (fun h => ?_) (fun h => ?_) <;> simp [h]
theorem iSchemaOf_spec (hZ : ZOk Tryz.prog Z) (c : Int) : Does Z Tryz.prog G B0 214 [iA c] [] [] (fun y _ => y = .tup [iA (schK c), iA (schM c), bA (schB c)]) := by
  refine Does.body hZ Tryz.func214 rfl rfl (Nat.le_of_ble_eq_true rfl) ?_
  simp [Tryz.f214, schK, schM, schB]
  refine Br.dec (fun h => ?_) (fun h => ?_) <;> simp [h]
  refine Br.dec (fun h => ?_) (fun h => ?_) <;> simp [h]
  refine Br.dec (fun h => ?_) (fun h => ?_) <;> simp [h]
theorem gs_eq (c : Int) : IntKind.i64.wrap (IntKind.i64.wrap (schK c * 4) * 2) = gs c := by
  unfold schK gs
  split <;> (try split) <;> (try split) <;> rfl
theorem GroupSize_spec (hZ : ZOk Tryz.prog Z) (c : Int) : Does Z Tryz.prog G B0 95 [iA c] [] [] (fun y _ => y = iA (gs c)) := by
  refine Does.body hZ Tryz.func95 rfl rfl (Nat.le_of_ble_eq_true rfl) ?_
  simp [Tryz.f95]
  refine CallA.snapE (SchemaOf_spec hZ c) (by simp) (by simp) ?_
  simp [gs_eq]
theorem iGroupSize_spec (hZ : ZOk Tryz.prog Z) (c : Int) : Does Z Tryz.prog G B0 166 [iA c] [] [] (fun y _ => y = iA (gs c)) := by
  refine Does.body hZ Tryz.func166 rfl rfl (Nat.le_of_ble_eq_true rfl) ?_
  simp [Tryz.f166]
  refine CallA.snapE (iSchemaOf_spec hZ c) (by simp) (by simp) ?_
  simp [gs_eq]

theorem nmB_no {s : ByteArray} {i : Nat} (h : i < s.size) (hc : okCh (byteAt s i) = false) : nmB s = false := by
  unfold nmB
  rw [Bool.and_eq_false_iff]
  exact .inl (by rw [List.all_eq_false]; exact ⟨i, by simpa using h, by simp [hc]⟩)
theorem nmB_yes {s : ByteArray} (h : ∀ j, j < s.size → okCh (byteAt s j) = true) : nmB s = inB s.size 1 8 := by
  unfold nmB
  rw [show (List.range s.size).all (fun i => okCh (byteAt s i)) = true from List.all_eq_true.2 fun i hi => h i (by simpa using hi)]
  simp
theorem NameOk_spec (hZ : ZOk Tryz.prog Z) (s : ByteArray) : Does Z Tryz.prog G B0 168 [sA s] [] [] (fun y _ => y = bA (nmB s)) := by
  refine Does.bodyF hZ Tryz.func168 rfl rfl (Nat.le_of_ble_eq_true rfl) fun hf => ?_
  simp at hf
  simp [Tryz.f168]
  refine LoopA.run hZ (fun i : Nat => ⟨35, [(0, sA s), (3, iA i)], [], []⟩) (fun i => ∀ j, j < i → okCh (byteAt s j) = true) (fun i => s.size - i) 0 (by simp) (Sub.by [] (by simp)) fun i hi => ?_
  simp
  refine Br.dec (fun h => ?_) (fun h => ?_)
  · have hw := w_inc h hf
    have go : okCh (byteAt s i) = true → ∀ j, j < i + 1 → okCh (byteAt s j) = true := fun hc j hj => by
      rcases Nat.lt_succ_iff_lt_or_eq.1 hj with c | rfl
      · exact hi j c
      · exact hc
    have no : okCh (byteAt s i) = false → nmB s = false := nmB_no h
    simp [h]
    refine Br.dec (fun h1 => ?_) (fun h1 => ?_) <;> simp [h1, h]
    · refine Br.dec (fun h2 => ?_) (fun h2 => ?_) <;> simp [h2, h]
      · exact no (by simp [okCh]; omega)
      · refine Br.dec (fun h3 => ?_) (fun h3 => ?_) <;> simp [h3]
        · exact no (by simp [okCh]; omega)
        · exact Again.mk (i + 1) (go (by simp [okCh]; omega)) (by omega) (Sub.by [] (by simp [hw]))
    · refine Br.dec (fun h2 => ?_) (fun h2 => ?_) <;> simp [h2, h]
      · refine Br.dec (fun h3 => ?_) (fun h3 => ?_) <;> simp [h3, h]
        · exact no (by simp [okCh]; omega)
        · refine Br.dec (fun h4 => ?_) (fun h4 => ?_) <;> simp [h4]
          · exact no (by simp [okCh]; omega)
          · exact Again.mk (i + 1) (go (by simp [okCh]; omega)) (by omega) (Sub.by [] (by simp [hw]))
      · exact Again.mk (i + 1) (go (by simp [okCh]; omega)) (by omega) (Sub.by [] (by simp [hw]))
  · simp
    refine CallA.snapE (l01In_spec hZ s.size 1 8) (by simp) (by simp) ?_
    simp [nmB_yes (s := s) (fun j hj => hi j (by omega))]
theorem iNameOk_spec (hZ : ZOk Tryz.prog Z) (s : ByteArray) : Does Z Tryz.prog G B0 117 [sA s] [] [] (fun y _ => y = bA (nmB s)) := by
  refine Does.bodyF hZ Tryz.func117 rfl rfl (Nat.le_of_ble_eq_true rfl) fun hf => ?_
  simp at hf
  simp [Tryz.f117]
  refine LoopA.run hZ (fun i : Nat => ⟨31, [(0, sA s), (3, iA i)], [], []⟩) (fun i => ∀ j, j < i → okCh (byteAt s j) = true) (fun i => s.size - i) 0 (by simp) (Sub.by [] (by simp)) fun i hi => ?_
  simp
  refine Br.dec (fun h => ?_) (fun h => ?_)
  · have hw := w_inc h hf
    have go : okCh (byteAt s i) = true → ∀ j, j < i + 1 → okCh (byteAt s j) = true := fun hc j hj => by
      rcases Nat.lt_succ_iff_lt_or_eq.1 hj with c | rfl
      · exact hi j c
      · exact hc
    have no : okCh (byteAt s i) = false → nmB s = false := nmB_no h
    simp [h]
    refine Br.dec (fun h1 => ?_) (fun h1 => ?_) <;> simp [h1, h]
    · refine Br.dec (fun h2 => ?_) (fun h2 => ?_) <;> simp [h2, h]
      · exact no (by simp [okCh]; omega)
      · refine Br.dec (fun h3 => ?_) (fun h3 => ?_) <;> simp [h3]
        · exact no (by simp [okCh]; omega)
        · exact Again.mk (i + 1) (go (by simp [okCh]; omega)) (by omega) (Sub.by [] (by simp [hw]))
    · refine Br.dec (fun h2 => ?_) (fun h2 => ?_) <;> simp [h2, h]
      · refine Br.dec (fun h3 => ?_) (fun h3 => ?_) <;> simp [h3, h]
        · exact no (by simp [okCh]; omega)
        · refine Br.dec (fun h4 => ?_) (fun h4 => ?_) <;> simp [h4]
          · exact no (by simp [okCh]; omega)
          · exact Again.mk (i + 1) (go (by simp [okCh]; omega)) (by omega) (Sub.by [] (by simp [hw]))
      · exact Again.mk (i + 1) (go (by simp [okCh]; omega)) (by omega) (Sub.by [] (by simp [hw]))
  · simp
    refine CallA.snapE (within_spec hZ s.size 1 8) (by simp) (by simp) ?_
    simp [nmB_yes (s := s) (fun j hj => hi j (by omega))]

theorem l10At_spec (hZ : ZOk Tryz.prog Z) (t : Tree) (id : Int) : Does Z Tryz.prog G B0 102 [trA false t, iA id] [] [] (fun y _ => y = iA (atI t.nodes id)) := by
  generalize hr : atI t.nodes id = r
  refine Does.bodyF hZ Tryz.func102 rfl rfl (Nat.le_of_ble_eq_true rfl) fun hf => ?_
  simp [trA, ndsE] at hf
  simp [Tryz.f102, trA, ndsE]
  refine LoopA.run hZ (fun i : Nat => ⟨22, [(1, iA id), (2, .ptr [(0, 0)]), (4, iA 0), (5, iA i)], [[ndsE false t.nodes, iC t.next]], [true]⟩) (fun i => atF id (t.nodes.drop i) i = r) (fun i => t.nodes.length - i) 0 (by simpa [atI] using hr) (Sub.by [0] (by simp [ndsE])) fun i hi => ?_
  simp [ndsE]
  refine Br.dec (fun h => ?_) (fun h => ?_)
  · have hx : t.nodes[i]? = some t.nodes[i] := List.getElem?_eq_getElem h
    have hw := w_inc h hf.1
    rw [List.drop_eq_getElem_cons h, atF] at hi
    simp [hx, ndE]
    refine Br.dec (fun h2 => ?_) (fun h2 => ?_) <;> simp [h2] at hi ⊢
    · exact hi
    · exact Again.mk (i + 1) hi (by omega) (Sub.by [0] (by simp [hw, ndsE]))
  · rw [List.drop_eq_nil_of_le (show t.nodes.length ≤ i by omega), atF] at hi
    simp [hi]

theorem idxNd_spec (hZ : ZOk Tryz.prog Z) (l : List Nod) (p : Nod → Bool) (g : FuncId) (caps : List AV) (hcl : closL caps = true) (hg : ∀ x ∈ l, Does Z Tryz.prog G B0 g (ndA false x :: caps) [] [] (fun y _ => y = bA (p x))) :
    Does Z Tryz.prog G B0 93 [.c (ndsE false l), .fn g [] caps] [] [] (fun y _ => y = iA (idxF p l 0)) := by
  generalize hr : idxF p l 0 = r
  refine Does.bodyF hZ Tryz.func93 rfl rfl (Nat.le_of_ble_eq_true rfl) fun hf => ?_
  simp [ndsE] at hf
  simp [Tryz.f93, ndsE]
  refine LoopA.run hZ (fun i : Nat => ⟨19, [(0, .c (ndsE false l)), (1, .fn g [] caps), (7, iA l.length), (8, iA i)], [], []⟩) (fun i => idxF p (l.drop i) i = r) (fun i => l.length - i) 0 (by simpa using hr) (Sub.by [] (by simp [ndsE, renL_clos _ _ hcl, (renL_clos [] _ hcl).2])) fun i hi => ?_
  simp [ndsE]
  refine Br.dec (fun h => ?_) (fun h => ?_)
  · have hx : l[i]? = some l[i] := List.getElem?_eq_getElem h
    have hw := w_inc h hf.1
    rw [List.drop_eq_getElem_cons h, idxF] at hi
    simp [hx, ndE]
    refine CallA.snapE (hg _ (List.getElem_mem h)) (by simp [ndA, ndE, snapL_clos _ _ hcl]) (by simp) ?_
    simp
    refine Br.bool (fun h2 => ?_) (fun h2 => ?_) <;> simp [h2] at hi ⊢
    · exact hi
    · exact Again.mk (i + 1) hi (by omega) (Sub.by [] (by simp [hw, ndsE, renL_clos _ _ hcl, (renL_clos [] _ hcl).2]))
  · rw [List.drop_eq_nil_of_le (show l.length ≤ i by omega), idxF] at hi
    simp [hi]

theorem nodeAt1_spec (hZ : ZOk Tryz.prog Z) (x : Nod) (id : Int) : Does Z Tryz.prog G B0 159 [ndA false x, .sptr [iC id] 0] [] [] (fun y _ => y = bA (decide (x.id = id))) := by
  refine Does.body hZ Tryz.func159 rfl rfl (Nat.le_of_ble_eq_true rfl) ?_
  simp [Tryz.f159, ndA, ndE, pcsE]

theorem nodeAt_spec (hZ : ZOk Tryz.prog Z) (t : Tree) (id : Int) : Does Z Tryz.prog G B0 92 [trA false t, iA id] [] [] (fun y _ => y = iA (atI t.nodes id)) := by
  refine Does.body hZ Tryz.func92 rfl rfl (Nat.le_of_ble_eq_true rfl) ?_
  simp [Tryz.f92, trA, ndsE]
  refine CallA.snapE (idxNd_spec hZ t.nodes (fun x => decide (x.id = id)) 159 [.sptr [iC id] 0] (by simp) (fun x _ => nodeAt1_spec hZ x id)) (by simp [ndsE]) (by simp) ?_
  simp [idxF_at, atI]
end Go.Proofs.YtbhbkaonlillhaaGreatDoor
