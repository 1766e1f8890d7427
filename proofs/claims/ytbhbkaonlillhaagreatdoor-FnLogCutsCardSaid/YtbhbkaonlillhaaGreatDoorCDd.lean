/- Contracts: drawn trees. -/
import Derived.Test.YtbhbkaonlillhaaGreatDoorCDc
import Derived.Test.YtbhbkaonlillhaaGreatDoorCEy
namespace Go.Proofs.YtbhbkaonlillhaaGreatDoor
open Go Go.Abs Go.Proofs Go.Tm
set_option linter.unusedSimpArgs false
set_option linter.unusedVariables false
set_option maxRecDepth 10000
variable {Z : TypeId → Nat} {G : World → Prop} {B0 : Nat}
def newT : Tree := ⟨[⟨1, 0, ⟨#[]⟩, true, 1, 0, 0, [], 0⟩], 2⟩
theorem smE_good {e : Edt} (h : GoodE e) : SmE e := by
  exact ⟨Nat.le_trans h.p6 (by omega), Nat.le_trans h.t6 (by omega)⟩
theorem TreeNew_spec (hZ : ZOk Tryz.prog Z) : Does Z Tryz.prog G B0 24 [] [] [] (fun y _ => y = trA true newT) := by
  refine Does.bodyF hZ Tryz.func24 rfl rfl (Nat.le_of_ble_eq_true rfl) fun hf => ?_
  simp [Tryz.f24, newT, trA, ndsE, ndE, pcsE]
theorem iTreeNew_spec (hZ : ZOk Tryz.prog Z) : Does Z Tryz.prog G B0 27 [] [] [] (fun y _ => y = trA true newT) := by
  refine Does.bodyF hZ Tryz.func27 rfl rfl (Nat.le_of_ble_eq_true rfl) fun hf => ?_
  simp [Tryz.f27, newT, trA, ndsE, ndE, pcsE]
def GoodT (t : Tree) : Prop := ∃ g n, Go.Tm.Good t g n ∧ n ≤ 14
theorem good_draw {l : List Edt} (hg : ∀ e ∈ l, GoodE e) (hl : (l.length : Int) < 14) : GoodT (applyAll newT l 1).1 :=
  ⟨_, _, good_all l (newT, 1) 0 good_new hg, by omega⟩
theorem l10Tree_spec (hZ : ZOk Tryz.prog Z) (c : Cur) : Does Z Tryz.prog G B0 108 [.ptr [(0, 0)]] [curE c] [true] (fun y r => ∃ t c', y = trA true t ∧ GoodT t ∧ r = [curE c']) := by
  refine Does.bodyR hZ Tryz.func108 rfl rfl (Nat.le_of_ble_eq_true rfl) fun ha hf => ?_
  simp [Tryz.f108]
  refine CallA.snapE (TreeNew_spec hZ) (by simp) (by simp [trA, noShr_nds]) ?_
  simp [trA, newT, ndsE, ndE, pcsE]
  refine CallA.rootsP [0] (l11Edits_spec hZ c 14 (by omega)) (by simp [curE, byE]) ?_
  rintro y r ⟨l, c1, rfl, ⟨hg, hl⟩, rfl⟩ _
  have hs : Sm newT.nodes := okT_sm good_new.ok
  simp [curE, byE, edsE]
  refine CallA.snapE (ApplyAll_spec hZ newT l 1 hs fun e he => smE_good (hg e he)) (by simp [trA, newT, ndsE, ndE, pcsE, edsE]; rfl) (by simp [trA, noShr_nds]) ?_
  have hd := good_draw hg hl
  generalize (applyAll newT l 1).1 = t at hd
  simp [trA, ndsE]
  exact ⟨t, ⟨rfl, rfl⟩, hd, c1, rfl, rfl, rfl⟩
theorem DrawRightTree_spec (hZ : ZOk Tryz.prog Z) (b : List Int) : Does Z Tryz.prog G B0 53 [.c (byE b)] [] [] (fun y _ => ∃ t, y = trA true t ∧ GoodT t) := by
  refine Does.bodyF hZ Tryz.func53 rfl rfl (Nat.le_of_ble_eq_true rfl) fun hf => ?_
  simp [Tryz.f53, byE]
  have hN := l01New_spec (Z := Z) (G := G) (B0 := B0) hZ b
  unfold byE at hN
  refine CallA.clos (by simp) hN ?_
  rintro y ⟨c, rfl⟩
  simp [curE, byE]
  refine CallA.rootsP [1] (l10Tree_spec hZ c) (by simp [curE, byE]) ?_
  rintro y r ⟨t, c1, rfl, hd, rfl⟩ _
  simp [curE, byE, trA, ndsE]
  exact ⟨t, ⟨rfl, rfl⟩, hd⟩
theorem DrawEdits_spec (hZ : ZOk Tryz.prog Z) (b : List Int) : Does Z Tryz.prog G B0 16 [.c (byE b)] [] [] (fun y _ => ∃ l, y = .c (edsE true l) ∧ (∀ e ∈ l, GoodE e) ∧ (l.length : Int) < 14) := by
  refine Does.bodyF hZ Tryz.func16 rfl rfl (Nat.le_of_ble_eq_true rfl) fun hf => ?_
  simp [Tryz.f16, byE]
  have hN := l01New_spec (Z := Z) (G := G) (B0 := B0) hZ b
  unfold byE at hN
  refine CallA.clos (by simp) hN ?_
  rintro y ⟨c, rfl⟩
  simp [curE, byE]
  refine CallA.rootsP [0] (l11Edits_spec hZ c 14 (by omega)) (by simp [curE, byE]) ?_
  rintro y r ⟨l, c1, rfl, ⟨hg, hl⟩, rfl⟩ _
  simp [curE, byE, edsE]
  exact ⟨l, rfl, hg, hl⟩
theorem DrawPlaces_spec (hZ : ZOk Tryz.prog Z) (b : List Int) : Does Z Tryz.prog G B0 17 [.c (byE b)] [] [] (fun y _ => ∃ p, y = .c (intsE true p) ∧ p.length = 12 ∧ ∀ v ∈ p, 0 ≤ v ∧ v < 10000) := by
  refine Does.bodyF hZ Tryz.func17 rfl rfl (Nat.le_of_ble_eq_true rfl) fun hf => ?_
  simp [Tryz.f17, byE]
  have hN := l01New_spec (Z := Z) (G := G) (B0 := B0) hZ b
  unfold byE at hN
  refine CallA.clos (by simp) hN ?_
  rintro y ⟨c, rfl⟩
  simp [curE, byE]
  refine CallA.rootsP [0] (l01Byte_spec hZ c) (by simp [curE, byE]) ?_
  rintro y r ⟨v, c1, rfl, hv, rfl⟩ _
  simp [curE, byE]
  refine LoopA.run hZ (fun p : Cur × List Int => ⟨21, [(3, .ptr [(0, 0)]), (4, .bor [(1, 0)] 0 p.2.length), (5, iA p.2.length)], [curE p.1, [intsE true p.2]], [true, false]⟩) (fun p => p.2.length ≤ 12 ∧ ∀ v ∈ p.2, 0 ≤ v ∧ v < 10000) (fun p => 12 - p.2.length) (c1, []) (by simp) (Sub.by [0, 2] (by simp [intsE, curE, byE])) fun ⟨c, l⟩ ⟨hl, hg⟩ => ?_
  dsimp only at hl hg
  simp [intsE]
  have hw : IntKind.i64.wrap ((l.length : Int) + 1) = (l.length : Int) + 1 := wrap_i64 (by omega)
  refine Br.dec (fun h => ?_) (fun h => ?_) <;> simp [h]
  · refine CallA.rootsP [0] (l01Below_spec hZ c 10000 (by omega)) (by simp [curE, byE]) ?_
    rintro y r ⟨v, c2, rfl, hv, rfl⟩ _
    have hv3 := hv.1 (by omega)
    simp [curE, byE]
    refine Need.mk (by omega) ?_
    simp [hw]
    exact Again.mk (c2, l ++ [v]) ⟨by simp; omega, fun x hx => by
      rcases List.mem_append.1 hx with hx | hx
      · exact hg x hx
      · simp at hx; subst hx; omega⟩ (by simp; omega) (Sub.by [0, 4] (by simp [intsE, curE, byE, hw, iC]))
  · exact ⟨l, rfl, by omega, hg⟩
end Go.Proofs.YtbhbkaonlillhaaGreatDoor
