/- Contracts of the laws' functions on records, files, acts. -/
import Derived.Test.YtbhbkaonlillhaaGreatDoorCEh
import Derived.Test.YtbhbkaonlillhaaGreatDoorTm
namespace Go.Proofs.YtbhbkaonlillhaaGreatDoor
open Go Go.Abs Go.Proofs Go.Tm
set_option linter.unusedSimpArgs false
set_option linter.unusedVariables false
set_option maxRecDepth 10000
variable {Z : TypeId → Nat} {G : World → Prop} {B0 : Nat}
def edE (x : Edt) : List Cell := [iC x.kind, sC x.path, sC x.to, iC x.num, iC x.who]
def edsE (own : Bool) (l : List Edt) : Cell := .row own 35 (l.map edE)
def edA (x : Edt) : AV := .agg ((edE x).map .c)
@[simp] theorem share_eds (l : List Edt) : shareLL (l.map edE) = l.map edE := by simp [shareLL_eq, edE, share]
theorem noShr_eds (l : List Edt) : noShr (edsE true l) = true := by simp [edsE, edE, noShrLL_mem]
def edsL (l : List Edt) : Cell := .row false 62 (l.map edE)

theorem toEdit_spec (hZ : ZOk Tryz.prog Z) (x : Edt) : Does Z Tryz.prog G B0 42 [edA x] [] [] (fun y _ => y = edA x) := by
  refine Does.body hZ Tryz.func42 rfl rfl (Nat.le_of_ble_eq_true rfl) ?_
  simp [Tryz.f42, edA, edE]
theorem toEditS_spec (hZ : ZOk Tryz.prog Z) (l : List Edt) (hp : l.length ≤ 1048576) : Does Z Tryz.prog G B0 61 [.c (edsL l)] [] [] (fun y _ => y = .c (edsE true l)) := by
  refine Does.bodyF hZ Tryz.func61 rfl rfl (Nat.le_of_ble_eq_true rfl) fun hf => ?_
  simp [edsL] at hf
  simp [Tryz.f61, edsL]
  refine Need.mk (by omega) ?_
  simp
  have hl : (l.map edE).length = (List.replicate l.length [iC 0, sC ⟨#[]⟩, sC ⟨#[]⟩, iC 0, iC 0]).length := by simp
  refine LoopA.run hZ (fun i : Nat => ⟨23, [(0, .c (edsL l)), (3, .bor [(0, 0)] 0 l.length), (4, iA i)], [[.row true 35 (mix (l.map edE) (List.replicate l.length [iC 0, sC ⟨#[]⟩, sC ⟨#[]⟩, iC 0, iC 0]) i)]], [false]⟩) (fun i => i ≤ l.length) (fun i => l.length - i) 0 (by simp) (Sub.by [0] (by simp [edsL, mix_zero])) fun i hi => ?_
  simp [edsL]
  refine Br.dec (fun h => ?_) (fun h => ?_)
  · have hw := w_inc h hf.1
    have hx : l[i]? = some l[i] := List.getElem?_eq_getElem h
    have hm := mix_at (i := i) hl
    simp [hx, edE]
    refine CallA.snapE (toEdit_spec hZ l[i]) (by simp [edA, edE]) (by simp [edA, edE]) ?_
    simp [edA, edE, h, hm]
    exact Again.mk (i + 1) (by omega) (by omega) (Sub.by [0] (by simp [edsL, hw, List.modify_modify_eq]; exact mix_step hl (by simp [hx, h, edE])))
  · simp [mix_all (i := i) hl (by simp; omega), edsE]

theorem szEdit_spec (hZ : ZOk Tryz.prog Z) (x : Edt) (k : Int) (hk : 0 ≤ k ∧ k ≤ 1048576) : Does Z Tryz.prog G B0 39 [edA x, iA k] [] [] (fun y _ => ∃ v, y = iA v ∧ v ≤ k ∧ (0 ≤ v → x.path.size ≤ 1048576 ∧ x.to.size ≤ 1048576)) := by
  refine Does.bodyF hZ Tryz.func39 rfl rfl (Nat.le_of_ble_eq_true rfl) fun hf => ?_
  simp [edA, edE] at hf
  simp [Tryz.f39, edA, edE]
  have hw : IntKind.i64.wrap (k - x.path.size) = k - x.path.size := wrap_i64 (by omega)
  refine Br.dec (fun h => ?_) (fun h => ?_) <;> simp [hw] at h ⊢
  · omega
  have hw2 : IntKind.i64.wrap (k - x.path.size - x.to.size) = k - x.path.size - x.to.size := wrap_i64 (by omega)
  refine Br.dec (fun h2 => ?_) (fun h2 => ?_) <;> simp [hw, hw2] at h2 ⊢
  · omega
  · omega
theorem szEditS_spec (hZ : ZOk Tryz.prog Z) (l : List Edt) (k : Int) (hk : 0 ≤ k ∧ k ≤ 1048576) : Does Z Tryz.prog G B0 60 [.c (edsL l), iA k] [] [] (fun y _ => ∃ v, y = iA v ∧ v ≤ k ∧ (0 ≤ v → l.length ≤ 1048576 ∧ ∀ x ∈ l, x.path.size ≤ 1048576 ∧ x.to.size ≤ 1048576)) := by
  refine Does.bodyF hZ Tryz.func60 rfl rfl (Nat.le_of_ble_eq_true rfl) fun hf => ?_
  simp [edsL] at hf
  simp [Tryz.f60, edsL]
  have hw : IntKind.i64.wrap (k - l.length) = k - l.length := wrap_i64 (by omega)
  refine Br.dec (fun h => ?_) (fun h => ?_) <;> simp [hw] at h ⊢
  · omega
  refine LoopA.run hZ (fun p : Nat × Int => ⟨27, [(0, .c (edsL l)), (1, iA p.2), (5, iA p.1)], [], []⟩) (fun p => 0 ≤ p.2 ∧ p.2 ≤ k ∧ ∀ x ∈ l.take p.1, x.path.size ≤ 1048576 ∧ x.to.size ≤ 1048576) (fun p => l.length - p.1) (0, k - l.length) (by simp; omega) (Sub.by [] (by simp [edsL, hw])) fun ⟨i, j⟩ ⟨h0, h1, h2⟩ => ?_
  dsimp only at h0 h1 h2
  simp [edsL]
  refine Br.dec (fun h => ?_) (fun h => ?_)
  · have hx : l[i]? = some l[i] := List.getElem?_eq_getElem h
    generalize l[i] = x at hx
    have hw2 := w_inc h hf.1
    simp [hx, edE]
    refine CallA.snap (args' := [edA x, iA j]) (by simp [edA, edE]) (szEdit_spec hZ x _ (by omega)) ?_
    rintro y ⟨v, rfl, h3, h4⟩
    refine ⟨by simp, ?_⟩
    simp
    refine Br.dec (fun h5 => ?_) (fun h5 => ?_) <;> simp
    · omega
    · refine Again.mk (i + 1, v) ⟨by dsimp only; omega, by dsimp only; omega, fun z hx2 => ?_⟩ (by dsimp only; omega) (Sub.by [] (by simp [hw2, edsL]))
      dsimp only at hx2
      rw [List.take_add_one, hx] at hx2
      rcases List.mem_append.1 hx2 with hx2 | hx2
      · exact h2 z hx2
      · simp at hx2; subst hx2; exact h4 (by omega)
  · simp
    rw [List.take_of_length_le (by omega)] at h2
    exact ⟨h1, fun _ => ⟨by omega, h2⟩⟩

theorem eqEdit_spec (hZ : ZOk Tryz.prog Z) (x y : Edt) : Does Z Tryz.prog G B0 131 [edA x, edA y] [] [] (fun z _ => z = bA (decide (x = y))) := by
  refine Does.body hZ Tryz.func131 rfl rfl (Nat.le_of_ble_eq_true rfl) ?_
  obtain ⟨a0, a1, a2, a3, a4⟩ := x
  obtain ⟨b0, b1, b2, b3, b4⟩ := y
  simp [Tryz.f131, edA, edE]
  refine Br.dec (fun h => ?_) (fun h => ?_) <;> simp [h]
  refine Br.dec (fun h => ?_) (fun h => ?_) <;> simp [h]
  refine Br.dec (fun h => ?_) (fun h => ?_) <;> simp [h]
  refine Br.dec (fun h => ?_) (fun h => ?_) <;> simp [h]
  refine Br.dec (fun h => ?_) (fun h => ?_) <;> simp [h]
theorem eqEditS_spec (hZ : ZOk Tryz.prog Z) (p q : List Edt) : Does Z Tryz.prog G B0 62 [.c (edsE false p), .c (edsE false q)] [] [] (fun y _ => y = bA (decide (p = q))) := by
  refine Does.bodyF hZ Tryz.func62 rfl rfl (Nat.le_of_ble_eq_true rfl) fun hf => ?_
  simp [edsE] at hf
  simp [Tryz.f62, edsE]
  refine Br.dec (fun h => ?_) (fun h => ?_)
  · have hl : p.length = q.length := by omega
    simp
    refine LoopA.run hZ (fun i : Nat => ⟨27, [(0, .c (edsE false p)), (1, .c (edsE false q)), (4, bA false), (5, iA i)], [], []⟩) (fun i => i ≤ p.length ∧ p.take i = q.take i) (fun i => p.length - i) 0 (by simp) (Sub.by [] (by simp [edsE])) fun i ⟨hi, he⟩ => ?_
    simp [edsE]
    refine Br.dec (fun h => ?_) (fun h => ?_)
    · have hw := w_inc h hf.1.1
      have hx : p[i]? = some p[i] := List.getElem?_eq_getElem h
      have hy : q[i]? = some q[i] := List.getElem?_eq_getElem (by omega)
      refine W_draw hZ hmo 0 8 [(0, []), (0, []), (0, []), (0, []), (0, []), (0, []), (0, []), (0, [])] (by kernel_rfl) ?_
      simp [hx, hy, edE]
      refine CallA.snapE (eqEdit_spec hZ p[i] q[i]) (by simp [edA, edE]) (by simp) ?_
      simp
      refine Br.dec (fun h2 => ?_) (fun h2 => ?_)
      · simp
        exact Again.mk (i + 1) ⟨by omega, by rw [List.take_add_one, List.take_add_one, he, hx, hy, h2]⟩ (by omega) (Sub.by [] (by simp [hw, edsE]))
      · have hne : p ≠ q := by rintro rfl; simp at h2
        simp [hne]
    · simp
      rwa [List.take_of_length_le (by omega), List.take_of_length_le (by omega)] at he
  · have hl : p ≠ q := fun e => h (by rw [e])
    simp [hl]

theorem markEditS_spec (hZ : ZOk Tryz.prog Z) (l : List Edt) (k : Int) (hk : k ≤ 9223372036854775807) : Does Z Tryz.prog G B0 63 [.bor [(0, 0)] 0 l.length, iA k] [[edsE true l]] [false] (fun y r => y = iA (scan mkEdt k l).2 ∧ r = [[edsE true (scan mkEdt k l).1]]) := by
  refine Does.bodyR hZ Tryz.func63 rfl rfl (Nat.le_of_ble_eq_true rfl) fun ha hf => ?_
  simp [edsE] at hf
  simp [Tryz.f63, edsE]
  have hle := w64_le
  simp only [w64] at hle
  have hl : ((scan mkEdt k l).1.map edE).length = (l.map edE).length := by simp [scan_len]
  refine LoopA.run hZ (fun i : Nat => ⟨50, [(0, .bor [(0, 0)] 0 l.length), (1, iA (scan mkEdt k (l.take i)).2), (5, iA i)], [[.row true 35 (mix ((scan mkEdt k l).1.map edE) (l.map edE) i)]], [false]⟩) (fun i => i ≤ l.length ∧ (scan mkEdt k (l.take i)).2 ≤ 9223372036854775807) (fun i => l.length - i) 0 (by simpa [scan] using hk) (Sub.by [0] (by simp [mix_zero, scan])) fun i ⟨hi, hk2⟩ => ?_
  simp
  refine Br.dec (fun h => ?_) (fun h => ?_)
  · have hw := w_inc h hf.1
    have hx : l[i]? = some l[i] := List.getElem?_eq_getElem h
    have hm := mix_at (i := i) hl
    simp [hx, hm, h, edE]
    refine CallA.snapE (markText_spec hZ _ (hle _)) (by simp; rfl) (by simp) ?_
    simp [hx, hm, h, edE]
    refine CallA.snapE (markText_spec hZ _ (hle _)) (by simp; rfl) (by simp) ?_
    simp [hx, hm, h, edE]
    exact Again.mk (i + 1) ⟨by omega, by rw [scan_take mkEdt l k i _ hx]; exact w64_le _⟩ (by omega) (Sub.by [0] (by simp [hw, List.modify_modify_eq, scan_take mkEdt l k i _ hx, mkEdt, w64]; exact mix_step hl (by simp [scan_at, hx, h, mkEdt, edE, w64])))
  · simp
    rw [List.take_of_length_le (by omega), mix_all hl (by simp [scan_len]; omega)]
    simp
def fiE (x : Fil) : List Cell := [sC x.name, sC x.text, iC x.kept]
def fisE (own : Bool) (l : List Fil) : Cell := .row own 161 (l.map fiE)
def fiA (x : Fil) : AV := .agg ((fiE x).map .c)
@[simp] theorem share_fis (l : List Fil) : shareLL (l.map fiE) = l.map fiE := by simp [shareLL_eq, fiE, share]
theorem noShr_fis (l : List Fil) : noShr (fisE true l) = true := by simp [fisE, fiE, noShrLL_mem]
def fisL (l : List Fil) : Cell := .row false 191 (l.map fiE)

theorem toFile_spec (hZ : ZOk Tryz.prog Z) (x : Fil) : Does Z Tryz.prog G B0 188 [fiA x] [] [] (fun y _ => y = fiA x) := by
  refine Does.body hZ Tryz.func188 rfl rfl (Nat.le_of_ble_eq_true rfl) ?_
  simp [Tryz.f188, fiA, fiE]
theorem toFileS_spec (hZ : ZOk Tryz.prog Z) (l : List Fil) (hp : l.length ≤ 1048576) : Does Z Tryz.prog G B0 140 [.c (fisL l)] [] [] (fun y _ => y = .c (fisE true l)) := by
  refine Does.bodyF hZ Tryz.func140 rfl rfl (Nat.le_of_ble_eq_true rfl) fun hf => ?_
  simp [fisL] at hf
  simp [Tryz.f140, fisL]
  refine Need.mk (by omega) ?_
  simp
  have hl : (l.map fiE).length = (List.replicate l.length [sC ⟨#[]⟩, sC ⟨#[]⟩, iC 0]).length := by simp
  refine LoopA.run hZ (fun i : Nat => ⟨23, [(0, .c (fisL l)), (3, .bor [(0, 0)] 0 l.length), (4, iA i)], [[.row true 161 (mix (l.map fiE) (List.replicate l.length [sC ⟨#[]⟩, sC ⟨#[]⟩, iC 0]) i)]], [false]⟩) (fun i => i ≤ l.length) (fun i => l.length - i) 0 (by simp) (Sub.by [0] (by simp [fisL, mix_zero])) fun i hi => ?_
  simp [fisL]
  refine Br.dec (fun h => ?_) (fun h => ?_)
  · have hw := w_inc h hf.1
    have hx : l[i]? = some l[i] := List.getElem?_eq_getElem h
    have hm := mix_at (i := i) hl
    simp [hx, fiE]
    refine CallA.snapE (toFile_spec hZ l[i]) (by simp [fiA, fiE]) (by simp [fiA, fiE]) ?_
    simp [fiA, fiE, h, hm]
    exact Again.mk (i + 1) (by omega) (by omega) (Sub.by [0] (by simp [fisL, hw, List.modify_modify_eq]; exact mix_step hl (by simp [hx, h, fiE])))
  · simp [mix_all (i := i) hl (by simp; omega), fisE]

theorem szFile_spec (hZ : ZOk Tryz.prog Z) (x : Fil) (k : Int) (hk : 0 ≤ k ∧ k ≤ 1048576) : Does Z Tryz.prog G B0 187 [fiA x, iA k] [] [] (fun y _ => ∃ v, y = iA v ∧ v ≤ k ∧ (0 ≤ v → x.name.size ≤ 1048576 ∧ x.text.size ≤ 1048576)) := by
  refine Does.bodyF hZ Tryz.func187 rfl rfl (Nat.le_of_ble_eq_true rfl) fun hf => ?_
  simp [fiA, fiE] at hf
  simp [Tryz.f187, fiA, fiE]
  have hw : IntKind.i64.wrap (k - x.name.size) = k - x.name.size := wrap_i64 (by omega)
  refine Br.dec (fun h => ?_) (fun h => ?_) <;> simp [hw] at h ⊢
  · omega
  have hw2 : IntKind.i64.wrap (k - x.name.size - x.text.size) = k - x.name.size - x.text.size := wrap_i64 (by omega)
  refine Br.dec (fun h2 => ?_) (fun h2 => ?_) <;> simp [hw, hw2] at h2 ⊢
  · omega
  · omega
theorem szFileS_spec (hZ : ZOk Tryz.prog Z) (l : List Fil) (k : Int) (hk : 0 ≤ k ∧ k ≤ 1048576) : Does Z Tryz.prog G B0 139 [.c (fisL l), iA k] [] [] (fun y _ => ∃ v, y = iA v ∧ v ≤ k ∧ (0 ≤ v → l.length ≤ 1048576 ∧ ∀ x ∈ l, x.name.size ≤ 1048576 ∧ x.text.size ≤ 1048576)) := by
  refine Does.bodyF hZ Tryz.func139 rfl rfl (Nat.le_of_ble_eq_true rfl) fun hf => ?_
  simp [fisL] at hf
  simp [Tryz.f139, fisL]
  have hw : IntKind.i64.wrap (k - l.length) = k - l.length := wrap_i64 (by omega)
  refine Br.dec (fun h => ?_) (fun h => ?_) <;> simp [hw] at h ⊢
  · omega
  refine LoopA.run hZ (fun p : Nat × Int => ⟨27, [(0, .c (fisL l)), (1, iA p.2), (5, iA p.1)], [], []⟩) (fun p => 0 ≤ p.2 ∧ p.2 ≤ k ∧ ∀ x ∈ l.take p.1, x.name.size ≤ 1048576 ∧ x.text.size ≤ 1048576) (fun p => l.length - p.1) (0, k - l.length) (by simp; omega) (Sub.by [] (by simp [fisL, hw])) fun ⟨i, j⟩ ⟨h0, h1, h2⟩ => ?_
  dsimp only at h0 h1 h2
  simp [fisL]
  refine Br.dec (fun h => ?_) (fun h => ?_)
  · have hx : l[i]? = some l[i] := List.getElem?_eq_getElem h
    generalize l[i] = x at hx
    have hw2 := w_inc h hf.1
    simp [hx, fiE]
    refine CallA.snap (args' := [fiA x, iA j]) (by simp [fiA, fiE]) (szFile_spec hZ x _ (by omega)) ?_
    rintro y ⟨v, rfl, h3, h4⟩
    refine ⟨by simp, ?_⟩
    simp
    refine Br.dec (fun h5 => ?_) (fun h5 => ?_) <;> simp
    · omega
    · refine Again.mk (i + 1, v) ⟨by dsimp only; omega, by dsimp only; omega, fun z hx2 => ?_⟩ (by dsimp only; omega) (Sub.by [] (by simp [hw2, fisL]))
      dsimp only at hx2
      rw [List.take_add_one, hx] at hx2
      rcases List.mem_append.1 hx2 with hx2 | hx2
      · exact h2 z hx2
      · simp at hx2; subst hx2; exact h4 (by omega)
  · simp
    rw [List.take_of_length_le (by omega)] at h2
    exact ⟨h1, fun _ => ⟨by omega, h2⟩⟩

theorem eqFile_spec (hZ : ZOk Tryz.prog Z) (x y : Fil) : Does Z Tryz.prog G B0 189 [fiA x, fiA y] [] [] (fun z _ => z = bA (decide (x = y))) := by
  refine Does.body hZ Tryz.func189 rfl rfl (Nat.le_of_ble_eq_true rfl) ?_
  obtain ⟨a0, a1, a2⟩ := x
  obtain ⟨b0, b1, b2⟩ := y
  simp [Tryz.f189, fiA, fiE]
  refine Br.dec (fun h => ?_) (fun h => ?_) <;> simp [h]
  refine Br.dec (fun h => ?_) (fun h => ?_) <;> simp [h]
  refine Br.dec (fun h => ?_) (fun h => ?_) <;> simp [h]
theorem eqFileS_spec (hZ : ZOk Tryz.prog Z) (p q : List Fil) : Does Z Tryz.prog G B0 142 [.c (fisE false p), .c (fisE false q)] [] [] (fun y _ => y = bA (decide (p = q))) := by
  refine Does.bodyF hZ Tryz.func142 rfl rfl (Nat.le_of_ble_eq_true rfl) fun hf => ?_
  simp [fisE] at hf
  simp [Tryz.f142, fisE]
  refine Br.dec (fun h => ?_) (fun h => ?_)
  · have hl : p.length = q.length := by omega
    simp
    refine LoopA.run hZ (fun i : Nat => ⟨27, [(0, .c (fisE false p)), (1, .c (fisE false q)), (4, bA false), (5, iA i)], [], []⟩) (fun i => i ≤ p.length ∧ p.take i = q.take i) (fun i => p.length - i) 0 (by simp) (Sub.by [] (by simp [fisE])) fun i ⟨hi, he⟩ => ?_
    simp [fisE]
    refine Br.dec (fun h => ?_) (fun h => ?_)
    · have hw := w_inc h hf.1.1
      have hx : p[i]? = some p[i] := List.getElem?_eq_getElem h
      have hy : q[i]? = some q[i] := List.getElem?_eq_getElem (by omega)
      refine W_draw hZ hmo 0 8 [(0, []), (0, []), (0, []), (0, []), (0, []), (0, []), (0, []), (0, [])] (by kernel_rfl) ?_
      simp [hx, hy, fiE]
      refine CallA.snapE (eqFile_spec hZ p[i] q[i]) (by simp [fiA, fiE]) (by simp) ?_
      simp
      refine Br.dec (fun h2 => ?_) (fun h2 => ?_)
      · simp
        exact Again.mk (i + 1) ⟨by omega, by rw [List.take_add_one, List.take_add_one, he, hx, hy, h2]⟩ (by omega) (Sub.by [] (by simp [hw, fisE]))
      · have hne : p ≠ q := by rintro rfl; simp at h2
        simp [hne]
    · simp
      rwa [List.take_of_length_le (by omega), List.take_of_length_le (by omega)] at he
  · have hl : p ≠ q := fun e => h (by rw [e])
    simp [hl]

theorem markFileS_spec (hZ : ZOk Tryz.prog Z) (l : List Fil) (k : Int) (hk : k ≤ 9223372036854775807) : Does Z Tryz.prog G B0 143 [.bor [(0, 0)] 0 l.length, iA k] [[fisE true l]] [false] (fun y r => y = iA (scan mkFil k l).2 ∧ r = [[fisE true (scan mkFil k l).1]]) := by
  refine Does.bodyR hZ Tryz.func143 rfl rfl (Nat.le_of_ble_eq_true rfl) fun ha hf => ?_
  simp [fisE] at hf
  simp [Tryz.f143, fisE]
  have hle := w64_le
  simp only [w64] at hle
  have hl : ((scan mkFil k l).1.map fiE).length = (l.map fiE).length := by simp [scan_len]
  refine LoopA.run hZ (fun i : Nat => ⟨36, [(0, .bor [(0, 0)] 0 l.length), (1, iA (scan mkFil k (l.take i)).2), (5, iA i)], [[.row true 161 (mix ((scan mkFil k l).1.map fiE) (l.map fiE) i)]], [false]⟩) (fun i => i ≤ l.length ∧ (scan mkFil k (l.take i)).2 ≤ 9223372036854775807) (fun i => l.length - i) 0 (by simpa [scan] using hk) (Sub.by [0] (by simp [mix_zero, scan])) fun i ⟨hi, hk2⟩ => ?_
  simp
  refine Br.dec (fun h => ?_) (fun h => ?_)
  · have hw := w_inc h hf.1
    have hx : l[i]? = some l[i] := List.getElem?_eq_getElem h
    have hm := mix_at (i := i) hl
    simp [hx, hm, h, fiE]
    refine CallA.snapE (markText_spec hZ _ hk2) (by simp) (by simp) ?_
    simp [hx, hm, h, fiE]
    refine CallA.snapE (markText_spec hZ _ (hle _)) (by simp; rfl) (by simp) ?_
    simp [hx, hm, h, fiE]
    exact Again.mk (i + 1) ⟨by omega, by rw [scan_take mkFil l k i _ hx]; exact w64_le _⟩ (by omega) (Sub.by [0] (by simp [hw, List.modify_modify_eq, scan_take mkFil l k i _ hx, mkFil, w64]; exact mix_step hl (by simp [scan_at, hx, h, mkFil, fiE, w64])))
  · simp
    rw [List.take_of_length_le (by omega), mix_all hl (by simp [scan_len]; omega)]
    simp
def akE (x : Akt) : List Cell := [iC x.kind, sC x.name, sC x.text, sC x.to]
def aksE (own : Bool) (l : List Akt) : Cell := .row own 86 (l.map akE)
def akA (x : Akt) : AV := .agg ((akE x).map .c)
@[simp] theorem share_aks (l : List Akt) : shareLL (l.map akE) = l.map akE := by simp [shareLL_eq, akE, share]
theorem noShr_aks (l : List Akt) : noShr (aksE true l) = true := by simp [aksE, akE, noShrLL_mem]

theorem eqAct_spec (hZ : ZOk Tryz.prog Z) (x y : Akt) : Does Z Tryz.prog G B0 141 [akA x, akA y] [] [] (fun z _ => z = bA (decide (x = y))) := by
  refine Does.body hZ Tryz.func141 rfl rfl (Nat.le_of_ble_eq_true rfl) ?_
  obtain ⟨a0, a1, a2, a3⟩ := x
  obtain ⟨b0, b1, b2, b3⟩ := y
  simp [Tryz.f141, akA, akE]
  refine Br.dec (fun h => ?_) (fun h => ?_) <;> simp [h]
  refine Br.dec (fun h => ?_) (fun h => ?_) <;> simp [h]
  refine Br.dec (fun h => ?_) (fun h => ?_) <;> simp [h]
  refine Br.dec (fun h => ?_) (fun h => ?_) <;> simp [h]
theorem eqActS_spec (hZ : ZOk Tryz.prog Z) (p q : List Akt) : Does Z Tryz.prog G B0 69 [.c (aksE false p), .c (aksE false q)] [] [] (fun y _ => y = bA (decide (p = q))) := by
  refine Does.bodyF hZ Tryz.func69 rfl rfl (Nat.le_of_ble_eq_true rfl) fun hf => ?_
  simp [aksE] at hf
  simp [Tryz.f69, aksE]
  refine Br.dec (fun h => ?_) (fun h => ?_)
  · have hl : p.length = q.length := by omega
    simp
    refine LoopA.run hZ (fun i : Nat => ⟨27, [(0, .c (aksE false p)), (1, .c (aksE false q)), (4, bA false), (5, iA i)], [], []⟩) (fun i => i ≤ p.length ∧ p.take i = q.take i) (fun i => p.length - i) 0 (by simp) (Sub.by [] (by simp [aksE])) fun i ⟨hi, he⟩ => ?_
    simp [aksE]
    refine Br.dec (fun h => ?_) (fun h => ?_)
    · have hw := w_inc h hf.1.1
      have hx : p[i]? = some p[i] := List.getElem?_eq_getElem h
      have hy : q[i]? = some q[i] := List.getElem?_eq_getElem (by omega)
      refine W_draw hZ hmo 0 8 [(0, []), (0, []), (0, []), (0, []), (0, []), (0, []), (0, []), (0, [])] (by kernel_rfl) ?_
      simp [hx, hy, akE]
      refine CallA.snapE (eqAct_spec hZ p[i] q[i]) (by simp [akA, akE]) (by simp) ?_
      simp
      refine Br.dec (fun h2 => ?_) (fun h2 => ?_)
      · simp
        exact Again.mk (i + 1) ⟨by omega, by rw [List.take_add_one, List.take_add_one, he, hx, hy, h2]⟩ (by omega) (Sub.by [] (by simp [hw, aksE]))
      · have hne : p ≠ q := by rintro rfl; simp at h2
        simp [hne]
    · simp
      rwa [List.take_of_length_le (by omega), List.take_of_length_le (by omega)] at he
  · have hl : p ≠ q := fun e => h (by rw [e])
    simp [hl]

theorem markActS_spec (hZ : ZOk Tryz.prog Z) (l : List Akt) (k : Int) (hk : k ≤ 9223372036854775807) : Does Z Tryz.prog G B0 72 [.bor [(0, 0)] 0 l.length, iA k] [[aksE true l]] [false] (fun y r => y = iA (scan mkAkt k l).2 ∧ r = [[aksE true (scan mkAkt k l).1]]) := by
  refine Does.bodyR hZ Tryz.func72 rfl rfl (Nat.le_of_ble_eq_true rfl) fun ha hf => ?_
  simp [aksE] at hf
  simp [Tryz.f72, aksE]
  have hle := w64_le
  simp only [w64] at hle
  have hl : ((scan mkAkt k l).1.map akE).length = (l.map akE).length := by simp [scan_len]
  refine LoopA.run hZ (fun i : Nat => ⟨44, [(0, .bor [(0, 0)] 0 l.length), (1, iA (scan mkAkt k (l.take i)).2), (5, iA i)], [[.row true 86 (mix ((scan mkAkt k l).1.map akE) (l.map akE) i)]], [false]⟩) (fun i => i ≤ l.length ∧ (scan mkAkt k (l.take i)).2 ≤ 9223372036854775807) (fun i => l.length - i) 0 (by simpa [scan] using hk) (Sub.by [0] (by simp [mix_zero, scan])) fun i ⟨hi, hk2⟩ => ?_
  simp
  refine Br.dec (fun h => ?_) (fun h => ?_)
  · have hw := w_inc h hf.1
    have hx : l[i]? = some l[i] := List.getElem?_eq_getElem h
    have hm := mix_at (i := i) hl
    simp [hx, hm, h, akE]
    refine CallA.snapE (markText_spec hZ _ (hle _)) (by simp; rfl) (by simp) ?_
    simp [hx, hm, h, akE]
    refine CallA.snapE (markText_spec hZ _ (hle _)) (by simp; rfl) (by simp) ?_
    simp [hx, hm, h, akE]
    refine CallA.snapE (markText_spec hZ _ (hle _)) (by simp; rfl) (by simp) ?_
    simp [hx, hm, h, akE]
    exact Again.mk (i + 1) ⟨by omega, by rw [scan_take mkAkt l k i _ hx]; exact w64_le _⟩ (by omega) (Sub.by [0] (by simp [hw, List.modify_modify_eq, scan_take mkAkt l k i _ hx, mkAkt, w64]; exact mix_step hl (by simp [scan_at, hx, h, mkAkt, akE, w64])))
  · simp
    rw [List.take_of_length_le (by omega), mix_all hl (by simp [scan_len]; omega)]
    simp

def diL (l : List Fil) : AV := .agg [.c (fisL l)]
def diA (own : Bool) (l : List Fil) : AV := .agg [.c (fisE own l)]
theorem szDisk_spec (hZ : ZOk Tryz.prog Z) (l : List Fil) (k : Int) (hk : 0 ≤ k ∧ k ≤ 1048576) : Does Z Tryz.prog G B0 67 [diL l, iA k] [] [] (fun y _ => ∃ v, y = iA v ∧ v ≤ k ∧ (0 ≤ v → l.length ≤ 1048576 ∧ ∀ x ∈ l, x.name.size ≤ 1048576 ∧ x.text.size ≤ 1048576)) := by
  refine Does.body hZ Tryz.func67 rfl rfl (Nat.le_of_ble_eq_true rfl) ?_
  simp [Tryz.f67, diL, fisL]
  refine CallA.snap (args' := [.c (fisL l), iA k]) (by simp [fisL]) (szFileS_spec hZ l k hk) ?_
  rintro y ⟨v, rfl, h1, h2⟩
  refine ⟨by simp, ?_⟩
  simp
  refine Br.dec (fun h5 => ?_) (fun h5 => ?_) <;> simp
  · omega
  · exact ⟨h1, h2⟩
theorem toDisk_spec (hZ : ZOk Tryz.prog Z) (l : List Fil) (hp : l.length ≤ 1048576) : Does Z Tryz.prog G B0 68 [diL l] [] [] (fun y _ => y = diA true l) := by
  refine Does.body hZ Tryz.func68 rfl rfl (Nat.le_of_ble_eq_true rfl) ?_
  simp [Tryz.f68, diL, fisL]
  refine CallA.snapE (toFileS_spec hZ l hp) (by simp [fisL]) (by simp [noShr_fis]) ?_
  simp [diA, fisE]
theorem eqDisk_spec (hZ : ZOk Tryz.prog Z) (p q : List Fil) : Does Z Tryz.prog G B0 70 [diA false p, diA false q] [] [] (fun y _ => y = bA (decide (p = q))) := by
  refine Does.body hZ Tryz.func70 rfl rfl (Nat.le_of_ble_eq_true rfl) ?_
  simp [Tryz.f70, diA, fisE]
  refine CallA.snapE (eqFileS_spec hZ p q) (by simp [fisE]) (by simp) ?_
  simp
  refine Br.dec (fun h => ?_) (fun h => ?_) <;> simp [h]
theorem markDisk_spec (hZ : ZOk Tryz.prog Z) (l : List Fil) (k : Int) (hk : k ≤ 9223372036854775807) : Does Z Tryz.prog G B0 71 [.agg [.bor [(0, 0)] 0 l.length], iA k] [[fisE true l]] [false] (fun y r => y = iA (scan mkFil k l).2 ∧ r = [[fisE true (scan mkFil k l).1]]) := by
  refine ⟨by kernel_rfl, fun w S vals fps cb vs hK hG hB hL hI hA => ?_⟩
  obtain ⟨v0, v1, rfl, h0, h1⟩ := hA.two
  obtain ⟨us, rfl, hx⟩ := h0.agg_inv
  obtain ⟨v2, rfl, h2⟩ := hx.one
  obtain rfl := h1.int_inv
  have hu := Tryz.underlying30
  go_enter Tryz.func71, Tryz.ntmps71
  go_wp2_with (first | (go_at_call 143; refine (under_call hI (Fr.alloc _ _) (markFileS_spec hZ l k hk) hK hG hB hL (RL.mk2 h2 h1)).mono ?_; rintro e w' ⟨res, rts', v, S', vals', fps', cb', fp, rfl, hp, hg⟩))
  go_ret
  exact ⟨res, rts', _, S', vals', fps', cb', fp, rfl, hp, hg⟩
theorem heldActS_spec (hZ : ZOk Tryz.prog Z) (l : List Akt) (k : Int) (hk : k ≤ 9223372036854775807) : Does Z Tryz.prog G B0 73 [.c (aksE false l), iA k] [] [] (fun y _ => y = iA (hscan hdAkt k l)) := by
  generalize hr : hscan hdAkt k l = r
  refine Does.bodyF hZ Tryz.func73 rfl rfl (Nat.le_of_ble_eq_true rfl) fun hf => ?_
  simp [aksE] at hf
  simp [Tryz.f73, aksE]
  refine LoopA.run hZ (fun p : Nat × Int => ⟨52, [(0, .c (aksE false l)), (1, iA p.2), (5, iA p.1)], [], []⟩) (fun p => hscan hdAkt p.2 (l.drop p.1) = r ∧ p.2 ≤ 9223372036854775807) (fun p => l.length - p.1) (0, k) ⟨by simpa using hr, hk⟩ (Sub.by [] (by simp [aksE])) fun ⟨i, j⟩ ⟨he, hj⟩ => ?_
  dsimp only at he hj
  simp [aksE]
  refine Br.dec (fun h => ?_) (fun h => ?_)
  · have hw := w_inc h hf.1
    have hx : l[i]? = some l[i] := List.getElem?_eq_getElem h
    rw [List.drop_eq_getElem_cons h, hscan, hdAkt] at he
    generalize l[i] = x at hx he
    have hle := w64_le
    simp only [w64] at he hle
    simp [hx, akE]
    refine Br.dec (fun h2 => ?_) (fun h2 => ?_) <;> simp [h2, hx, akE] at he ⊢
    rotate_left
    · exact he
    refine W_draw hZ hmo 1 7 [(0, []), (0, []), (0, []), (0, []), (0, []), (0, []), (0, [])] (by kernel_rfl) ?_
    simp [hx, akE]
    refine CallD.snapE (markText_spec hZ _ (hle _)) (by simp; rfl) (by simp) ?_
    simp
    refine Br.dec (fun h3 => ?_) (fun h3 => ?_) <;> simp [h3, hx, akE] at he ⊢
    rotate_left
    · exact he
    refine W_draw hZ hmo 1 7 [(1, []), (1, []), (1, []), (1, []), (1, []), (1, []), (1, [])] (by kernel_rfl) ?_
    simp [hx, akE]
    refine CallD.snapE (markText_spec hZ _ (hle _)) (by simp; rfl) (by simp) ?_
    simp
    refine Br.dec (fun h4 => ?_) (fun h4 => ?_) <;> simp [h4, hx, akE] at he ⊢
    rotate_left
    · exact he
    refine W_draw hZ hmo 1 7 [(2, []), (2, []), (2, []), (2, []), (2, []), (2, []), (2, [])] (by kernel_rfl) ?_
    simp [hx, akE]
    refine CallD.snapE (markText_spec hZ _ (hle _)) (by simp; rfl) (by simp) ?_
    simp
    refine Br.dec (fun h5 => ?_) (fun h5 => ?_) <;> simp [h5, hx, akE] at he ⊢
    · exact Again.mk (i + 1, w64 (w64 (w64 (w64 (j + 1) + 1) + 1) + 1)) ⟨he, w64_le _⟩ (by dsimp only; omega) (Sub.by [] (by simp [hw, aksE, w64]))
    · exact he
  · rw [List.drop_eq_nil_of_le (show l.length ≤ i by omega), hscan] at he
    simp [he]
end Go.Proofs.YtbhbkaonlillhaaGreatDoor
