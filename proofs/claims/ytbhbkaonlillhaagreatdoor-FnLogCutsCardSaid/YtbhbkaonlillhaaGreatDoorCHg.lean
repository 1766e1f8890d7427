/- Contracts. -/
import Derived.Test.YtbhbkaonlillhaaGreatDoorCHc
import Derived.Test.YtbhbkaonlillhaaGreatDoorCFc
/- Contracts: short texts, records as texts. -/
namespace Go.Proofs.YtbhbkaonlillhaaGreatDoor
open Go Go.Abs Go.Proofs Go.Tm
set_option linter.unusedSimpArgs false
set_option linter.unusedVariables false
set_option maxRecDepth 10000
variable {Z : TypeId → Nat} {G : World → Prop} {B0 : Nat}
theorem iReadShort_spec (hZ : ZOk Tryz.prog Z) (p : ByteArray) (a : Int) (hp : p.size ≤ 4294967280) : Does Z Tryz.prog G B0 184 [sA p, iA a] [] [] (fun y _ => y = .tup [sA (rsV p a).1, iA (rsV p a).2.1, bA (rsV p a).2.2]) := by
  refine Does.bodyF hZ Tryz.func184 rfl rfl (Nat.le_of_ble_eq_true rfl) fun hf => ?_
  simp [Tryz.f184]
  first | refine CallA.snapE (iReadVar_spec hZ p a hp) (by first | (simp []; done) | fail) (by first | (simp []; done) | fail) ?_ | refine CallD.snapE (iReadVar_spec hZ p a hp) (by first | (simp []; done) | fail) (by first | (simp []; done) | fail) ?_
  have h := rv_ok p a
  unfold rsV
  generalize rvV p a = v at h ⊢
  obtain ⟨n, nx, b⟩ := v
  cases b with
  | false => simp
  | true =>
    obtain ⟨h0, h1, h2, h3, h4, _⟩ := h rfl
    dsimp only at h1 h2 h3 h4
    have e1 : IntKind.i64.wrap ((p.size : Int) - nx) = (p.size : Int) - nx := wrap_i64 (by omega)
    have e2 : IntKind.i64.wrap (nx + n) = nx + n := wrap_i64 (by omega)
    simp [e1, e2]
    refine Br.dec (fun c1 => ?_) (fun c1 => ?_) <;> simp [c1, e1, e2]
    refine Br.dec (fun c2 => ?_) (fun c2 => ?_) <;> simp [c2, e1, e2]
    have k1 : 0 ≤ nx := by omega
    have k2 : nx + n ≤ p.size := by omega
    have k3 : nx ≤ nx + n := by omega
    simp [h1, k1, k2, k3, e2]
theorem ShortText_spec (hZ : ZOk Tryz.prog Z) (s : ByteArray) (hs : s.size ≤ 20000) : Does Z Tryz.prog G B0 152 [sA s] [] [] (fun y _ => y = .tup [sA (varT s.size ++ s), bA true]) := by
  refine Does.bodyF hZ Tryz.func152 rfl rfl (Nat.le_of_ble_eq_true rfl) fun hf => ?_
  simp [Tryz.f152]
  have h1 : ¬ (20000 : Int) < s.size := by omega
  have h2 : ¬ 20000 < s.size := by omega
  have hv := varT_size (s.size : Int)
  have e1 : (varT s.size).size + s.size ≤ 9223372036854775807 := by omega
  simp [h1, h2]
  first | refine CallA.snapE (VarText_spec hZ s.size (by omega)) (by first | (simp []; done) | fail) (by first | (simp []; done) | fail) ?_ | refine CallD.snapE (VarText_spec hZ s.size (by omega)) (by first | (simp []; done) | fail) (by first | (simp []; done) | fail) ?_
  simp [e1]
/-- What is written of a record. -/
def etV (e : Edt) : ByteArray := if editB e = true then editT e else ⟨#[]⟩
theorem EditText_spec (hZ : ZOk Tryz.prog Z) (e : Edt) (he : SmE e) : Does Z Tryz.prog G B0 78 [edA e] [] [] (fun y _ => y = .tup [sA (etV e), bA (editB e)]) := by
  refine Does.bodyF hZ Tryz.func78 rfl rfl (Nat.le_of_ble_eq_true rfl) fun hf => ?_
  simp [Tryz.f78, edA, edE]
  first | refine CallA.snapE (EditOk_spec hZ e he) (by first | (simp [edA, edE]; done) | fail) (by first | (simp []; done) | fail) ?_ | refine CallD.snapE (EditOk_spec hZ e he) (by first | (simp [edA, edE]; done) | fail) (by first | (simp []; done) | fail) ?_
  simp
  unfold etV
  refine Br.bool (fun h1 => ?_) (fun h1 => ?_) <;> simp [h1]
  obtain ⟨f1, f2, f3, f4, f5⟩ := editB_small h1
  have v1 := varT_size (e.path.size : Int)
  have v2 := varT_size (e.to.size : Int)
  have v3 := varT_size e.num
  have w1 := w_u8 (n := e.kind) (by omega)
  have w2 := w_u8 (n := e.who) (by omega)
  refine W_drawB hZ hmo 2 rfl 4 27 [(2, []), (2, []), (2, []), (2, []), (2, []), (2, []), (2, []), (3, [2]), (3, []), (3, []), (3, []), (3, []), (4, [2, 3]), (4, []), (4, []), (4, [2, 3]), (4, []), (4, []), (4, []), (4, [3]), (5, [2, 3, 4]), (5, []), (5, []), (5, [2, 3, 4]), (5, []), (5, []), (5, [3, 4])] (by kernel_rfl) ?_
  simp [w1, w2]
  first | refine CallA.snapE (l01Var_spec hZ e.path.size (by omega)) (by first | (simp []; done) | fail) (by first | (simp []; done) | fail) ?_ | refine CallD.snapE (l01Var_spec hZ e.path.size (by omega)) (by first | (simp []; done) | fail) (by first | (simp []; done) | fail) ?_
  have hB : (bytesText [e.kind % 256, e.who % 256]).size = 2 := by rw [bytesText_size]; rfl
  have s1 : (bytesText [e.kind % 256, e.who % 256]).size + (varT e.path.size).size ≤ 9223372036854775807 := by omega
  have s2 : (bytesText [e.kind % 256, e.who % 256]).size + (varT e.path.size).size + e.path.size ≤ 9223372036854775807 := by omega
  simp [s1, s2]
  first | refine CallA.snapE (l01Var_spec hZ e.to.size (by omega)) (by first | (simp []; done) | fail) (by first | (simp []; done) | fail) ?_ | refine CallD.snapE (l01Var_spec hZ e.to.size (by omega)) (by first | (simp []; done) | fail) (by first | (simp []; done) | fail) ?_
  have s3 : (bytesText [e.kind % 256, e.who % 256]).size + (varT e.path.size).size + e.path.size + (varT e.to.size).size ≤ 9223372036854775807 := by omega
  have s4 : (bytesText [e.kind % 256, e.who % 256]).size + (varT e.path.size).size + e.path.size + (varT e.to.size).size + e.to.size ≤ 9223372036854775807 := by omega
  simp [s3, s4]
  first | refine CallA.snapE (l01Var_spec hZ e.num (by omega)) (by first | (simp []; done) | fail) (by first | (simp []; done) | fail) ?_ | refine CallD.snapE (l01Var_spec hZ e.num (by omega)) (by first | (simp []; done) | fail) (by first | (simp []; done) | fail) ?_
  have s5 : (bytesText [e.kind % 256, e.who % 256]).size + (varT e.path.size).size + e.path.size + (varT e.to.size).size + e.to.size + (varT e.num).size ≤ 9223372036854775807 := by omega
  have hE : editT e = bytesText [e.kind % 256, e.who % 256] ++ varT e.path.size ++ e.path ++ varT e.to.size ++ e.to ++ varT e.num := by unfold editT; simp only [ByteArray.append_assoc]
  simp [s5, hE]
theorem iEditText_spec (hZ : ZOk Tryz.prog Z) (hG : ∀ w, G w → MG w) (e : Edt) (he : SmE e) : Does Z Tryz.prog G B0 84 [edA e] [] [] (fun y _ => y = .tup [sA (etV e), bA (editB e)]) := by
  refine Does.bodyF hZ Tryz.func84 rfl rfl (Nat.le_of_ble_eq_true rfl) fun hf => ?_
  simp [Tryz.f84, edA, edE]
  first | refine CallA.snapE (iEditOk_spec hZ hG e he) (by first | (simp [edA, edE]; done) | fail) (by first | (simp []; done) | fail) ?_ | refine CallD.snapE (iEditOk_spec hZ hG e he) (by first | (simp [edA, edE]; done) | fail) (by first | (simp []; done) | fail) ?_
  simp
  unfold etV
  refine Br.bool (fun h1 => ?_) (fun h1 => ?_) <;> simp [h1]
  obtain ⟨f1, f2, f3, f4, f5⟩ := editB_small h1
  have v1 := varT_size (e.path.size : Int)
  have v2 := varT_size (e.to.size : Int)
  have v3 := varT_size e.num
  have w1 := w_u8 (n := e.kind) (by omega)
  have w2 := w_u8 (n := e.who) (by omega)
  first | refine CallA.snapE (ShortText_spec hZ e.path (by omega)) (by first | (simp []; done) | fail) (by first | (simp []; done) | fail) ?_ | refine CallD.snapE (ShortText_spec hZ e.path (by omega)) (by first | (simp []; done) | fail) (by first | (simp []; done) | fail) ?_
  simp
  first | refine CallA.snapE (ShortText_spec hZ e.to (by omega)) (by first | (simp []; done) | fail) (by first | (simp []; done) | fail) ?_ | refine CallD.snapE (ShortText_spec hZ e.to (by omega)) (by first | (simp []; done) | fail) (by first | (simp []; done) | fail) ?_
  simp
  first | refine CallA.snapE (VarText_spec hZ e.num (by omega)) (by first | (simp []; done) | fail) (by first | (simp []; done) | fail) ?_ | refine CallD.snapE (VarText_spec hZ e.num (by omega)) (by first | (simp []; done) | fail) (by first | (simp []; done) | fail) ?_
  have hB : (bytesText [e.kind % 256, e.who % 256]).size = 2 := by rw [bytesText_size]; rfl
  have s1 : (bytesText [e.kind % 256, e.who % 256]).size + ((varT e.path.size).size + e.path.size) ≤ 9223372036854775807 := by omega
  have s2 : (bytesText [e.kind % 256, e.who % 256]).size + ((varT e.path.size).size + e.path.size) + ((varT e.to.size).size + e.to.size) ≤ 9223372036854775807 := by omega
  have s3 : (bytesText [e.kind % 256, e.who % 256]).size + ((varT e.path.size).size + e.path.size) + ((varT e.to.size).size + e.to.size) + (varT e.num).size ≤ 9223372036854775807 := by omega
  simp [w1, w2, s1, s2, s3, editT]
end Go.Proofs.YtbhbkaonlillhaaGreatDoor

/- Contracts: records read from texts. -/
namespace Go.Proofs.YtbhbkaonlillhaaGreatDoor
open Go Go.Abs Go.Proofs Go.Tm
set_option linter.unusedSimpArgs false
set_option linter.unusedVariables false
set_option maxRecDepth 10000
variable {Z : TypeId → Nat} {G : World → Prop} {B0 : Nat}
theorem rEdt_sm (p : ByteArray) : SmE (rEdt p) := by
  have h1 := rs_size p 2
  have h2 := rs_size p (rsV p 2).2.1
  exact ⟨by unfold rEdt; dsimp only; omega, by unfold rEdt; dsimp only; omega⟩
theorem reV_short (p : ByteArray) (h0 : (p.size : Int) < 2) : reV p = (zEdt, false) := by unfold reV; rw [if_pos h0]
set_option maxHeartbeats 1000000 in
theorem iReadEdit_spec (hZ : ZOk Tryz.prog Z) (hG : ∀ w, G w → MG w) (p : ByteArray) (hp : p.size ≤ 4294967280) : Does Z Tryz.prog G B0 134 [sA p] [] [] (fun y _ => y = .tup [edA (reV p).1, bA (reV p).2]) := by
  refine Does.bodyF hZ Tryz.func134 rfl rfl (Nat.le_of_ble_eq_true rfl) fun hf => ?_
  simp [Tryz.f134]
  refine Br.dec (fun h0 => ?_) (fun h0 => ?_) <;> simp [h0]
  · simp [reV_short p h0, zEdt, edA, edE]
  have r0 := byteAt_range p 0
  have r1 := byteAt_range p 1
  have z0 : (0 : Int) < p.size := by omega
  have z0n : 0 < p.size := by omega
  have z1 : (1 : Int) < p.size := by omega
  have z1n : 1 < p.size := by omega
  have w0 : IntKind.i64.wrap (byteAt p 0) = byteAt p 0 := wrap_i64 (by omega)
  have w1 : IntKind.i64.wrap (byteAt p 1) = byteAt p 1 := wrap_i64 (by omega)
  first | refine CallA.snapE (iReadShort_spec hZ p 2 hp) (by first | (simp []; done) | fail) (by first | (simp []; done) | fail) ?_ | refine CallD.snapE (iReadShort_spec hZ p 2 hp) (by first | (simp []; done) | fail) (by first | (simp []; done) | fail) ?_
  simp
  first | refine CallA.snapE (iReadShort_spec hZ p (rsV p 2).2.1 hp) (by first | (simp []; done) | fail) (by first | (simp []; done) | fail) ?_ | refine CallD.snapE (iReadShort_spec hZ p (rsV p 2).2.1 hp) (by first | (simp []; done) | fail) (by first | (simp []; done) | fail) ?_
  simp
  first | refine CallA.snapE (iReadVar_spec hZ p (rsV p (rsV p 2).2.1).2.1 hp) (by first | (simp []; done) | fail) (by first | (simp []; done) | fail) ?_ | refine CallD.snapE (iReadVar_spec hZ p (rsV p (rsV p 2).2.1).2.1 hp) (by first | (simp []; done) | fail) (by first | (simp []; done) | fail) ?_
  simp
  refine W_drawB hZ hmo 4 rfl 1 11 [(4, []), (4, []), (4, []), (4, []), (4, []), (4, []), (4, []), (4, []), (4, []), (4, []), (4, [])] (by kernel_rfl) ?_
  simp [z0, z0n, z1, z1n, w0, w1]
  have hr : reV p = if (rsV p 2).2.2 = true ∧ (rsV p (rsV p 2).2.1).2.2 = true ∧ (rEnd p).2.2 = true ∧ (rEnd p).2.1 = (p.size : Int) ∧ editB (rEdt p) = true then (rEdt p, true) else (zEdt, false) := by unfold reV; rw [if_neg h0]
  unfold rEnd at hr
  cases c1 : (rsV p 2).2.2 with
  | false =>
    have e : reV p = (zEdt, false) := by rw [hr, if_neg]; intro c; rw [c1] at c; exact absurd c.1 (by decide)
    simp [e, zEdt, edA, edE]
  | true =>
  simp
  cases c2 : (rsV p (rsV p 2).2.1).2.2 with
  | false =>
    have e : reV p = (zEdt, false) := by rw [hr, if_neg]; intro c; rw [c2] at c; exact absurd c.2.1 (by decide)
    simp [e, zEdt, edA, edE]
  | true =>
  simp
  cases c3 : (rvV p (rsV p (rsV p 2).2.1).2.1).2.2 with
  | false =>
    have e : reV p = (zEdt, false) := by rw [hr, if_neg]; intro c; rw [c3] at c; exact absurd c.2.2.1 (by decide)
    simp [e, zEdt, edA, edE]
  | true =>
  simp
  by_cases c5 : (rvV p (rsV p (rsV p 2).2.1).2.1).2.1 = (p.size : Int)
  rotate_left
  · have e : reV p = (zEdt, false) := by rw [hr, if_neg]; exact fun c => c5 c.2.2.2.1
    simp [c5, e, zEdt, edA, edE]
  simp [c5]
  first | refine CallA.snapE (iEditOk_spec hZ hG (rEdt p) (rEdt_sm p)) (by first | (simp [edA, edE, rEdt]; done) | fail) (by first | (simp []; done) | fail) ?_ | refine CallD.snapE (iEditOk_spec hZ hG (rEdt p) (rEdt_sm p)) (by first | (simp [edA, edE, rEdt]; done) | fail) (by first | (simp []; done) | fail) ?_
  cases c4 : editB (rEdt p) with
  | false =>
    have e : reV p = (zEdt, false) := by rw [hr, if_neg]; intro c; rw [c4] at c; exact absurd c.2.2.2.2 (by decide)
    simp [e, zEdt, edA, edE]
  | true =>
    have e : reV p = (rEdt p, true) := by rw [hr, if_pos ⟨c1, c2, c3, c5, c4⟩]
    simp [e, edA, edE, rEdt]
end Go.Proofs.YtbhbkaonlillhaaGreatDoor

/- Contracts: the frames of a file. -/
namespace Go.Proofs.YtbhbkaonlillhaaGreatDoor
open Go Go.Abs Go.Proofs Go.Tm
set_option linter.unusedSimpArgs false
set_option linter.unusedVariables false
set_option maxRecDepth 10000
variable {Z : TypeId → Nat} {G : World → Prop} {B0 : Nat}
set_option maxHeartbeats 2000000 in
theorem iUnframe_spec (hZ : ZOk Tryz.prog Z) (p : ByteArray) (hp : p.size ≤ 4294967280) : Does Z Tryz.prog G B0 133 [sA p] [] [] (fun y _ => y = .tup [.c (strsE true (unV p).1), iA (unV p).2] ∨ (y = .tup [.nils, iA (unV p).2] ∧ (unV p).1 = [])) := by
  refine Does.bodyF hZ Tryz.func133 rfl rfl (Nat.le_of_ble_eq_true rfl) fun hf => ?_
  simp [Tryz.f133]
  unfold unV
  refine Br.dec (fun h0 => ?_) (fun h0 => ?_) <;> simp [h0, strsE]
  generalize hr : unL p (p.size + 1) [] 0 = r
  refine LoopA.run hZ (fun q : List ByteArray × Nat => ⟨71, [(0, sA p), (4, .bor [(0, 0)] 0 q.1.length), (5, iA q.2)], [[strsE true q.1]], [false]⟩) (fun q => q.2 ≤ p.size ∧ q.1.length ≤ q.2 ∧ ∃ f, p.size + 1 ≤ f + q.2 ∧ unL p f q.1 q.2 = r) (fun q => p.size - q.2) ([], 0) ⟨Nat.zero_le _, Nat.zero_le _, p.size + 1, by dsimp only; omega, hr⟩ ((Sub.nil 4 9 rfl).trans (by first | exact Sub.by [0] (by first | (simp [strsE]; done) | fail) | exact Sub.by [1] (by first | (simp [strsE]; done) | fail))) fun ⟨o, a⟩ ⟨ha, hol, f, hfu, he⟩ => ?_
  dsimp only at ha hol hfu he
  obtain ⟨m, rfl⟩ : ∃ m, f = m + 1 := ⟨f - 1, by omega⟩
  rw [unL] at he
  simp [strsE]
  first | refine CallA.snapE (iReadVar_spec hZ p a hp) (by first | (simp []; done) | fail) (by first | (simp []; done) | fail) ?_ | refine CallD.snapE (iReadVar_spec hZ p a hp) (by first | (simp []; done) | fail) (by first | (simp []; done) | fail) ?_
  have h := rv_ok p a
  generalize rvV p a = v at h he ⊢
  obtain ⟨n, nx, b⟩ := v
  dsimp only at h he ⊢
  cases b with
  | false =>
    rw [if_neg (by simp)] at he
    subst he
    simp
  | true =>
    obtain ⟨g0, g1, g2, g3, g4, _⟩ := h rfl
    rw [if_pos rfl] at he
    have e1 : IntKind.i64.wrap ((p.size : Int) - nx) = (p.size : Int) - nx := wrap_i64 (by omega)
    have e2 : IntKind.i64.wrap ((p.size : Int) - nx - 4) = (p.size : Int) - nx - 4 := wrap_i64 (by omega)
    have e3 : IntKind.i64.wrap (nx + 4) = nx + 4 := wrap_i64 (by omega)
    have e4 : IntKind.i64.wrap (nx + 4 + n) = nx + 4 + n := wrap_i64 (by omega)
    simp [e1, e2, e3, e4]
    refine Br.dec (fun c2 => ?_) (fun c2 => ?_) <;> simp [c2, e1, e2, e3, e4]
    · rw [if_pos c2] at he; subst he; simp [strsE]
    rw [if_neg c2] at he
    have k1 : 0 ≤ nx + 4 := by omega
    have k2 : nx + 4 ≤ nx + 4 + n := by omega
    have k3 : nx + 4 + n ≤ p.size := by omega
    have k4 : (a : Int) ≤ nx + 4 + n := by omega
    have k5 : ((nx + 4 + n).toNat : Int) = nx + 4 + n := by omega
    simp [k1, k2, k3, e3, e4]
    generalize hx : p.extract (nx + 4).toNat (nx + 4 + n).toNat = x at he ⊢
    have hxs : x.size ≤ 20000 := by rw [← hx, ByteArray.size_extract]; omega
    first | refine CallA.snapE (iFrame_spec hZ x) (by first | (simp []; done) | fail) (by first | (simp []; done) | fail) ?_ | refine CallD.snapE (iFrame_spec hZ x) (by first | (simp []; done) | fail) (by first | (simp []; done) | fail) ?_
    simp
    rw [Int.toNat_natCast] at he
    cases c3 : (frV x).2 with
    | false =>
      rw [if_neg (by rw [c3]; simp)] at he
      subst he
      simp [strsE]
    | true =>
      simp [e3, e4, k3, k4]
      by_cases c4 : (frV x).1 = p.extract a (nx + 4 + n).toNat
      · rw [if_pos ⟨c3, c4⟩] at he
        simp [c4, e3, e4]
        refine Need.mk ⟨by omega, by omega⟩ ?_
        simp [e3, e4]
        exact Again.mk (o ++ [x], (nx + 4 + n).toNat) ⟨by dsimp only; omega, by simp; omega, m, by dsimp only; omega, by dsimp only; rw [k5]; exact he⟩ (by dsimp only; omega) (by first | exact Sub.by [4] (by first | (simp [strsE, e3, e4, k5]; done) | fail))
      · rw [if_neg (fun c => c4 c.2)] at he
        subst he
        simp [c4, strsE]
theorem iUnframe_spec2 (hZ : ZOk Tryz.prog Z) (p : ByteArray) (hp : p.size ≤ 4294967280) : Does Z Tryz.prog G B0 133 [sA p] [] [] (fun y _ => y = .tup [.c (strsE true (unV p).1), iA (unV p).2]) :=
  (iUnframe_spec hZ p hp).denil 9 fun y _ h => by
    rcases h with rfl | ⟨rfl, h⟩
    · simp [denil, denilL, strsE]
    · simp [denil, denilL, strsE, h]
end Go.Proofs.YtbhbkaonlillhaaGreatDoor

/- Contracts: what writes a record into the log; the records of a log. -/
namespace Go.Proofs.YtbhbkaonlillhaaGreatDoor
open Go Go.Abs Go.Proofs Go.Tm
set_option linter.unusedSimpArgs false
set_option linter.unusedVariables false
set_option maxRecDepth 10000
variable {Z : TypeId → Nat} {G : World → Prop} {B0 : Nat}
/-- What is written into the log for a record. -/
def laV (e : Edt) : List Akt := if editB e = true then aktsOf e else []
theorem et_fr (e : Edt) : (frV (etV e)).2 = editB e := by
  cases h : editB e with
  | false =>
    unfold etV; rw [h, if_neg (by simp)]
    exact congrArg Prod.snd (fr_no rfl)
  | true =>
    have := editT_size h
    unfold etV; rw [h, if_pos rfl, fr_ok (by omega)]
theorem LogActs_spec (hZ : ZOk Tryz.prog Z) (e : Edt) (he : SmE e) : Does Z Tryz.prog G B0 18 [edA e] [] [] (fun y _ => y = .tup [.c (aksE true (laV e)), bA (editB e)]) := by
  refine Does.bodyF hZ Tryz.func18 rfl rfl (Nat.le_of_ble_eq_true rfl) fun hf => ?_
  simp [Tryz.f18, edA, edE]
  first | refine CallA.snapE (EditText_spec hZ e he) (by first | (simp [edA, edE]; done) | fail) (by first | (simp []; done) | fail) ?_ | refine CallD.snapE (EditText_spec hZ e he) (by first | (simp [edA, edE]; done) | fail) (by first | (simp []; done) | fail) ?_
  simp
  first | refine CallA.snapE (Frame_spec hZ (etV e)) (by first | (simp []; done) | fail) (by first | (simp []; done) | fail) ?_ | refine CallD.snapE (Frame_spec hZ (etV e)) (by first | (simp []; done) | fail) (by first | (simp []; done) | fail) ?_
  have h2 := et_fr e
  simp [h2]
  cases h : editB e with
  | false => simp [laV, h, aksE]
  | true =>
    have e1 : etV e = editT e := by unfold etV; rw [if_pos h]
    simp [laV, h, aksE, aktsOf, akE, e1, sLog]
theorem iLogActs_spec (hZ : ZOk Tryz.prog Z) (hG : ∀ w, G w → MG w) (e : Edt) (he : SmE e) : Does Z Tryz.prog G B0 21 [edA e] [] [] (fun y _ => y = .tup [.c (aksE true (laV e)), bA (editB e)] ∨ (y = .tup [.nils, bA (editB e)] ∧ laV e = [])) := by
  refine Does.bodyF hZ Tryz.func21 rfl rfl (Nat.le_of_ble_eq_true rfl) fun hf => ?_
  simp [Tryz.f21, edA, edE]
  first | refine CallA.snapE (iEditText_spec hZ hG e he) (by first | (simp [edA, edE]; done) | fail) (by first | (simp []; done) | fail) ?_ | refine CallD.snapE (iEditText_spec hZ hG e he) (by first | (simp [edA, edE]; done) | fail) (by first | (simp []; done) | fail) ?_
  simp
  cases h : editB e with
  | false => simp [laV, h, aksE]
  | true =>
    simp
    have h2 := et_fr e
    first | refine CallA.snapE (iFrame_spec hZ (etV e)) (by first | (simp []; done) | fail) (by first | (simp []; done) | fail) ?_ | refine CallD.snapE (iFrame_spec hZ (etV e)) (by first | (simp []; done) | fail) (by first | (simp []; done) | fail) ?_
    have e1 : etV e = editT e := by unfold etV; rw [if_pos h]
    simp [laV, h, aksE, aktsOf, akE, e1, sLog]
theorem iLogActs_spec2 (hZ : ZOk Tryz.prog Z) (hG : ∀ w, G w → MG w) (e : Edt) (he : SmE e) : Does Z Tryz.prog G B0 21 [edA e] [] [] (fun y _ => y = .tup [.c (aksE true (laV e)), bA (editB e)]) :=
  (iLogActs_spec hZ hG e he).denil 86 fun y _ h => by
    rcases h with rfl | ⟨rfl, h⟩
    · simp [denil, denilL, aksE]
    · simp [denil, denilL, aksE, h]
set_option maxHeartbeats 2000000 in
theorem iReadLog_spec (hZ : ZOk Tryz.prog Z) (hG : ∀ w, G w → MG w) (p : ByteArray) (hp : p.size ≤ 4294967280) : Does Z Tryz.prog G B0 64 [sA p] [] [] (fun y _ => y = .tup [.c (edsE true (rlV p).1), iA (rlV p).2]) := by
  refine Does.bodyF hZ Tryz.func64 rfl rfl (Nat.le_of_ble_eq_true rfl) fun hf => ?_
  simp [Tryz.f64]
  first | refine CallA.snapE (iUnframe_spec2 hZ p hp) (by first | (simp []; done) | fail) (by first | (simp [noShr_strs]; done) | fail) ?_ | refine CallD.snapE (iUnframe_spec2 hZ p hp) (by first | (simp []; done) | fail) (by first | (simp [noShr_strs]; done) | fail) ?_
  have hu := unV_ok p
  unfold rlV
  generalize unV p = v at hu ⊢
  obtain ⟨l, n⟩ := v
  obtain ⟨hl, ht⟩ := hu
  dsimp only at hl ht ⊢
  generalize hr : rlL l ([], 0) = r
  simp [strsE]
  refine LoopA.run hZ (fun q : Nat × List Edt × Int => ⟨48, [(6, .bor [(0, 0)] 0 q.2.1.length), (7, iA q.2.2), (19, .bor [(1, 0)] 0 l.length), (20, iA l.length), (21, iA q.1)], [[edsE true q.2.1], [strsE true l]], [false, false]⟩) (fun q => q.1 ≤ l.length ∧ q.2.1.length ≤ q.1 ∧ (0 ≤ q.2.2 ∧ q.2.2 ≤ 9013 * q.1) ∧ rlL (l.drop q.1) q.2 = r) (fun q => l.length - q.1) (0, [], 0) ⟨Nat.zero_le _, Nat.zero_le _, by simp, by simpa using hr⟩ ((Sub.nil 6 35 rfl).trans (by first | exact Sub.by [0,1] (by first | (simp [strsE, edsE]; done) | fail) | exact Sub.by [0,2] (by first | (simp [strsE, edsE]; done) | fail) | exact Sub.by [0,3] (by first | (simp [strsE, edsE]; done) | fail) | exact Sub.by [1,0] (by first | (simp [strsE, edsE]; done) | fail) | exact Sub.by [1,2] (by first | (simp [strsE, edsE]; done) | fail))) fun ⟨i, o, a⟩ ⟨hi, hol, ha, hb⟩ => ?_
  dsimp only at hi hol ha hb
  simp [strsE, edsE]
  refine Br.dec (fun h => ?_) (fun h => ?_)
  rotate_left
  · rw [List.drop_eq_nil_of_le (show l.length ≤ i by omega)] at hb
    simp [rlL] at hb
    subst hb
    simp [h, edsE]
  have hx : l[i]? = some l[i] := List.getElem?_eq_getElem h
  have htx := ht _ (List.getElem_mem h)
  rw [List.drop_eq_getElem_cons h, rlL] at hb
  have hw : IntKind.i64.wrap ((i : Int) + 1) = ((i + 1 : Nat) : Int) := wrap_i64 (by omega)
  generalize l[i] = x at hx htx hb
  simp [hx]
  refine Need.mk h ?_
  simp [hx]
  first | refine CallA.snapE (iReadEdit_spec hZ hG x (by omega)) (by first | (simp []; done) | fail) (by first | (simp [edA, edE]; done) | fail) ?_ | refine CallD.snapE (iReadEdit_spec hZ hG x (by omega)) (by first | (simp []; done) | fail) (by first | (simp [edA, edE]; done) | fail) ?_
  simp [edA, edE]
  cases h2 : (reV x).2 with
  | false =>
    rw [h2, if_neg (by simp)] at hb
    subst hb
    simp [edsE]
  | true =>
    rw [h2, if_pos rfl] at hb
    have hfs := fr_size x
    have hwa : IntKind.i64.wrap (a + ((frV x).1.size : Int)) = a + ((frV x).1.size : Int) := wrap_i64 (by omega)
    simp [hx]
    refine Need.mk ⟨by omega, by omega⟩ ?_
    simp
    first | refine CallA.snapE (iFrame_spec hZ x) (by first | (simp []; done) | fail) (by first | (simp []; done) | fail) ?_ | refine CallD.snapE (iFrame_spec hZ x) (by first | (simp []; done) | fail) (by first | (simp []; done) | fail) ?_
    simp [hwa]
    exact Again.mk (i + 1, o ++ [(reV x).1], a + ((frV x).1.size : Int)) ⟨by dsimp only; omega, by simp; omega, by dsimp only; omega, hb⟩ (by dsimp only; omega) (by first | exact Sub.by [3,1] (by first | (simp [strsE, edsE, edE, hw, hwa]; done) | fail) | exact Sub.by [4,1] (by first | (simp [strsE, edsE, edE, hw, hwa]; done) | fail) | exact Sub.by [5,1] (by first | (simp [strsE, edsE, edE, hw, hwa]; done) | fail) | exact Sub.by [6,1] (by first | (simp [strsE, edsE, edE, hw, hwa]; done) | fail))
end Go.Proofs.YtbhbkaonlillhaaGreatDoor

