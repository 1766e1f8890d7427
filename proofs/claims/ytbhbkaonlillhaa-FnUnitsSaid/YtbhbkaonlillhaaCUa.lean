/- How hosts and units stand in cells; contracts of the laws' small functions. -/
import Derived.Test.YtbhbkaonlillhaaCTy
import Derived.Test.YtbhbkaonlillhaaTn
import Derived.Test.YtbhbkaonlillhaaTm
import Derived.Test.YtbhbkaonlillhaaAbc
import Derived.WalkKit
import Derived.ProofKit
namespace Go.Proofs.Ytbhbkaonlillhaa
open Go Go.Abs Go.Proofs Go.Tm
set_option linter.unusedSimpArgs false
set_option linter.unusedVariables false
variable {Z : TypeId → Nat} {G : World → Prop} {B0 : Nat}
abbrev iC (x : Int) : Cell := .sc (.int .i64 x)
abbrev sC (x : ByteArray) : Cell := .sc (.string x)
abbrev bC (x : Bool) : Cell := .sc (.bool x)
abbrev iA (x : Int) : AV := .c (iC x)
abbrev sA (x : ByteArray) : AV := .c (sC x)
abbrev bA (x : Bool) : AV := .c (bC x)
def intsE (own : Bool) (l : List Int) : Cell := .row own 3 (l.map fun x => [iC x])
def unE (u : Un) : List Cell := [iC u.group, iC u.index, sC u.text, iC u.sum]
def unsE (own : Bool) (l : List Un) : Cell := .row own 39 (l.map unE)
def unsL (l : List Un) : Cell := .row false 36 (l.map unE)
def unA (u : Un) : AV := .agg ((unE u).map .c)
def hsA (own : Bool) (h : Hst) : AV := .agg [iA h.id, bA h.up, .c (unsE own h.units)]
def hsL (h : Hst) : AV := .agg [iA h.id, bA h.up, .c (unsL h.units)]
@[simp] theorem share_uns (l : List Un) : shareLL (l.map unE) = l.map unE := by simp [shareLL_eq, unE, share]
@[simp] theorem share_ints (l : List Int) : shareLL (l.map fun x => [iC x]) = l.map fun x => [iC x] := by simp [shareLL_eq, share]
theorem noShr_ints (l : List Int) : noShr (intsE true l) = true := by simp [intsE, noShrLL_mem]
theorem noShr_uns (l : List Un) : noShr (unsE true l) = true := by simp [unsE, noShrLL_mem, unE]
theorem w_one : IntKind.i64.wrap 1 = 1 := rfl
theorem w_inc {i n : Nat} (h : i < n) (hn : n ≤ 9223372036854775807) : IntKind.i64.wrap ((i : Int) + 1) = ((i + 1 : Nat) : Int) := wrap_i64 (by omega)
theorem w_dec {i n : Nat} (h : i < n) (hn : n ≤ 9223372036854775807) (h0 : 0 < i) : IntKind.i64.wrap ((i : Int) - 1) = ((i - 1 : Nat) : Int) := by
  rw [wrap_i64 (by omega)]; omega

theorem l01In_spec (hZ : ZOk Try.prog Z) (x lo hi : Int) : Does Z Try.prog G B0 94 [iA x, iA lo, iA hi] [] [] (fun y _ => y = bA (inB x lo hi)) := by
  refine Does.body hZ Try.func94 rfl rfl (Nat.le_of_ble_eq_true rfl) ?_
  simp [Try.f94, inB]
  refine Br.dec (fun h => ?_) (fun h => ?_) <;> simp [h]
theorem within_spec (hZ : ZOk Try.prog Z) (x lo hi : Int) : Does Z Try.prog G B0 73 [iA x, iA lo, iA hi] [] [] (fun y _ => y = bA (inB x lo hi)) := by
  refine Does.body hZ Try.func73 rfl rfl (Nat.le_of_ble_eq_true rfl) ?_
  simp [Try.f73, inB]
  refine Br.dec (fun h => ?_) (fun h => ?_) <;> simp [h]

theorem markText_spec (hZ : ZOk Try.prog Z) (k : Int) (hk : k ≤ 9223372036854775807) : Does Z Try.prog G B0 88 [iA k] [] [] (fun y _ => y = sA (mkText k)) := by
  refine Does.body hZ Try.func88 rfl rfl (Nat.le_of_ble_eq_true rfl) ?_
  simp [Try.f88]
  refine Br.dec (fun h => ?_) (fun h => ?_)
  · simp [mkText, h]
  · simp
    refine LoopA.run hZ (fun p : Int × ByteArray × Nat => ⟨20, [(0, iA p.1), (3, sA p.2.1)], [], []⟩) (fun p => mkDig p.2.2 p.1 p.2.1 = mkDig k.toNat k ⟨#[]⟩ ∧ p.1.toNat ≤ p.2.2 ∧ ((p.2.1.size = 0 ∧ p.1 = k) ∨ p.2.1.size + p.1.toNat ≤ 9223372036854775806) ∧ 0 ≤ p.1) (fun p => p.1.toNat) (k, ⟨#[]⟩, k.toNat) (by simp; omega) (Sub.by [] (by simp)) fun ⟨j, o, n⟩ ⟨he, hn, hs, h0⟩ => ?_
    dsimp only at he hn hs h0
    simp
    refine Br.dec (fun h2 => ?_) (fun h2 => ?_)
    · have e1 : j.tdiv 10 = j / 10 := Int.tdiv_eq_ediv_of_nonneg (by omega)
      obtain ⟨n, rfl⟩ : ∃ m, n = m + 1 := ⟨n - 1, by omega⟩
      rw [mkDig, if_pos h2, e1] at he
      have e2 : IntKind.i64.wrap (j / 10) = j / 10 := wrap_i64 (by omega)
      simp [bytesText_size]
      refine Need.mk (by omega) ?_
      simp [e1, e2]
      exact Again.mk (_, _, n) ⟨he, by dsimp only; omega, by simp [bytesText_size]; omega, by dsimp only; omega⟩ (by dsimp only; omega) (Sub.by [] (by simp [w64]))
    · simp
      refine Need.mk (by omega) ?_
      simp [mkText, h]
      rw [← he]
      cases n <;> simp [mkDig, h2]


theorem toUnit_spec (hZ : ZOk Try.prog Z) (u : Un) : Does Z Try.prog G B0 19 [unA u] [] [] (fun y _ => y = unA u) := by
  refine Does.body hZ Try.func19 rfl rfl (Nat.le_of_ble_eq_true rfl) ?_
  simp [Try.f19, unA, unE]
theorem toUnitS_spec (hZ : ZOk Try.prog Z) (p : List Un) (hp : p.length ≤ 1048576) : Does Z Try.prog G B0 55 [.c (unsL p)] [] [] (fun y _ => y = .c (unsE true p)) := by
  refine Does.bodyF hZ Try.func55 rfl rfl (Nat.le_of_ble_eq_true rfl) fun hf => ?_
  simp [unsL] at hf
  simp [Try.f55, unsL]
  refine Need.mk (by omega) ?_
  simp
  have hl : (p.map unE).length = (List.replicate p.length [iC 0, iC 0, sC ⟨#[]⟩, iC 0]).length := by simp
  refine LoopA.run hZ (fun i : Nat => ⟨23, [(0, .c (unsL p)), (3, .bor [(0, 0)] 0 p.length), (4, iA i)], [[.row true 39 (mix (p.map unE) (List.replicate p.length [iC 0, iC 0, sC ⟨#[]⟩, iC 0]) i)]], [false]⟩) (fun i => i ≤ p.length) (fun i => p.length - i) 0 (by simp) (Sub.by [0] (by simp [unsL, mix_zero])) fun i hi => ?_
  simp [unsL]
  refine Br.dec (fun h => ?_) (fun h => ?_)
  · have hw := w_inc h hf.1
    have hx : p[i]? = some p[i] := List.getElem?_eq_getElem h
    have hm := mix_at (i := i) hl
    simp [hx, unE]
    refine CallA.snapE (toUnit_spec hZ p[i]) (by simp [unA, unE]) (by simp [unA, unE]) ?_
    simp [unA, unE, h, hm]
    exact Again.mk (i + 1) (by omega) (by omega) (Sub.by [0] (by simp [unsL, hw, List.modify_modify_eq]; exact mix_step hl (by simp [hx, h, unE])))
  · simp [mix_all (i := i) hl (by simp; omega), unsE]
theorem toHost_spec (hZ : ZOk Try.prog Z) (h : Hst) (hp : h.units.length ≤ 1048576) : Does Z Try.prog G B0 12 [hsL h] [] [] (fun y _ => y = hsA true h) := by
  refine Does.body hZ Try.func12 rfl rfl (Nat.le_of_ble_eq_true rfl) ?_
  simp [Try.f12, hsL, unsL]
  refine CallA.snapE (toUnitS_spec hZ h.units hp) (by simp [unsL]) (by simp [noShr_uns]) ?_
  simp [hsA, unsE]
theorem szUnit_spec (hZ : ZOk Try.prog Z) (u : Un) (k : Int) (hk : 0 ≤ k ∧ k ≤ 1048576) : Does Z Try.prog G B0 17 [unA u, iA k] [] [] (fun y _ => ∃ v, y = iA v ∧ v ≤ k) := by
  refine Does.bodyF hZ Try.func17 rfl rfl (Nat.le_of_ble_eq_true rfl) fun hf => ?_
  simp [unA, unE] at hf
  simp [Try.f17, unA, unE]
  have hw : IntKind.i64.wrap (k - u.text.size) = k - u.text.size := wrap_i64 (by omega)
  refine Br.dec (fun h => ?_) (fun h => ?_) <;> simp [hw] at h ⊢ <;> omega
theorem szUnitS_spec (hZ : ZOk Try.prog Z) (l : List Un) (k : Int) (hk : 0 ≤ k ∧ k ≤ 1048576) : Does Z Try.prog G B0 52 [.c (unsL l), iA k] [] [] (fun y _ => ∃ v, y = iA v ∧ v ≤ k ∧ (0 ≤ v → l.length ≤ 1048576)) := by
  refine Does.bodyF hZ Try.func52 rfl rfl (Nat.le_of_ble_eq_true rfl) fun hf => ?_
  simp [unsL] at hf
  simp [Try.f52, unsL]
  have hw : IntKind.i64.wrap (k - l.length) = k - l.length := wrap_i64 (by omega)
  refine Br.dec (fun h => ?_) (fun h => ?_) <;> simp [hw] at h ⊢
  · omega
  refine LoopA.run hZ (fun p : Nat × Int => ⟨27, [(0, .c (unsL l)), (1, iA p.2), (5, iA p.1)], [], []⟩) (fun p => 0 ≤ p.2 ∧ p.2 ≤ k) (fun p => l.length - p.1) (0, k - l.length) (by simp; omega) (Sub.by [] (by simp [unsL, hw])) fun ⟨i, j⟩ ⟨h0, h1⟩ => ?_
  dsimp only at h0 h1
  simp [unsL]
  refine Br.dec (fun h => ?_) (fun h => ?_)
  · have hx : l[i]? = some l[i] := List.getElem?_eq_getElem h
    have hw2 := w_inc h hf.1
    simp [hx, unE]
    refine CallA.snap (args' := [unA l[i], iA j]) (by simp [unA, unE]) (szUnit_spec hZ l[i] _ (by omega)) ?_
    rintro y ⟨v, rfl, h3⟩
    refine ⟨by simp, ?_⟩
    simp
    refine Br.dec (fun h5 => ?_) (fun h5 => ?_) <;> simp
    · omega
    · exact Again.mk (i + 1, v) ⟨by dsimp only; omega, by dsimp only; omega⟩ (by dsimp only; omega) (Sub.by [] (by simp [hw2, unsL]))
  · simp
    omega
theorem szHost_spec (hZ : ZOk Try.prog Z) (h : Hst) (k : Int) (hk : 0 ≤ k ∧ k ≤ 1048576) : Does Z Try.prog G B0 10 [hsL h, iA k] [] [] (fun y _ => ∃ v, y = iA v ∧ v ≤ k ∧ (0 ≤ v → h.units.length ≤ 1048576)) := by
  refine Does.body hZ Try.func10 rfl rfl (Nat.le_of_ble_eq_true rfl) ?_
  simp [Try.f10, hsL, unsL]
  refine CallA.snap (args' := [.c (unsL h.units), iA k]) (by simp [unsL]) (szUnitS_spec hZ h.units k hk) ?_
  rintro y ⟨v, rfl, h1, h2⟩
  refine ⟨by simp, ?_⟩
  simp
  refine Br.dec (fun h5 => ?_) (fun h5 => ?_) <;> simp
  · omega
  · exact ⟨h1, h2⟩
theorem eqUnit_spec (hZ : ZOk Try.prog Z) (x y : Un) : Does Z Try.prog G B0 93 [unA x, unA y] [] [] (fun z _ => z = bA (decide (x = y))) := by
  refine Does.body hZ Try.func93 rfl rfl (Nat.le_of_ble_eq_true rfl) ?_
  obtain ⟨a1, a2, a3, a4⟩ := x
  obtain ⟨b1, b2, b3, b4⟩ := y
  simp [Try.f93, unA, unE, bytes_eq]
  refine Br.dec (fun h => ?_) (fun h => ?_) <;> simp [h]
  refine Br.dec (fun h => ?_) (fun h => ?_) <;> simp [h]
  refine Br.dec (fun h => ?_) (fun h => ?_) <;> simp [h]
  refine Br.dec (fun h => ?_) (fun h => ?_) <;> simp [h]
theorem eqUnitS_spec (hZ : ZOk Try.prog Z) (p q : List Un) : Does Z Try.prog G B0 58 [.c (unsE false p), .c (unsE false q)] [] [] (fun y _ => y = bA (decide (p = q))) := by
  refine Does.bodyF hZ Try.func58 rfl rfl (Nat.le_of_ble_eq_true rfl) fun hf => ?_
  simp [unsE] at hf
  simp [Try.f58, unsE]
  refine Br.dec (fun h => ?_) (fun h => ?_)
  · have hl : p.length = q.length := by omega
    simp
    refine LoopA.run hZ (fun i : Nat => ⟨27, [(0, .c (unsE false p)), (1, .c (unsE false q)), (4, bA false), (5, iA i)], [], []⟩) (fun i => i ≤ p.length ∧ p.take i = q.take i) (fun i => p.length - i) 0 (by simp) (Sub.by [] (by simp [unsE])) fun i ⟨hi, he⟩ => ?_
    simp [unsE]
    refine Br.dec (fun h => ?_) (fun h => ?_)
    · have hw := w_inc h hf.1.1
      have hx : p[i]? = some p[i] := List.getElem?_eq_getElem h
      have hy : q[i]? = some q[i] := List.getElem?_eq_getElem (by omega)
      refine W_draw hZ hmo 0 8 [(0, []), (0, []), (0, []), (0, []), (0, []), (0, []), (0, []), (0, [])] (by kernel_rfl) ?_
      simp [hx, hy, unE]
      refine CallA.snapE (eqUnit_spec hZ p[i] q[i]) (by simp [unA, unE]) (by simp) ?_
      simp
      refine Br.dec (fun h2 => ?_) (fun h2 => ?_)
      · simp
        exact Again.mk (i + 1) ⟨by omega, by rw [List.take_add_one, List.take_add_one, he, hx, hy, h2]⟩ (by omega) (Sub.by [] (by simp [hw, unsE]))
      · have hne : p ≠ q := by rintro rfl; simp at h2
        simp [hne]
    · simp
      rwa [List.take_of_length_le (by omega), List.take_of_length_le (by omega)] at he
  · have hl : p ≠ q := fun e => h (by rw [e])
    simp [hl]
theorem eqHost_spec (hZ : ZOk Try.prog Z) (p q : Hst) : Does Z Try.prog G B0 14 [hsA false p, hsA false q] [] [] (fun y _ => y = bA (decide (p = q))) := by
  refine Does.body hZ Try.func14 rfl rfl (Nat.le_of_ble_eq_true rfl) ?_
  obtain ⟨a, b, c⟩ := p
  obtain ⟨d, e, f⟩ := q
  simp [Try.f14, hsA, unsE]
  refine Br.dec (fun h => ?_) (fun h => ?_) <;> simp [h, bool_beq]
  refine Br.dec (fun h => ?_) (fun h => ?_) <;> simp [h, bool_beq]
  refine CallA.snapE (eqUnitS_spec hZ c f) (by simp [unsE]) (by simp) ?_
  simp
  refine Br.dec (fun h => ?_) (fun h => ?_) <;> simp [h]
theorem markUnitS_spec (hZ : ZOk Try.prog Z) (l : List Un) (k : Int) (hk : k ≤ 9223372036854775807) : Does Z Try.prog G B0 59 [.bor [(0, 0)] 0 l.length, iA k] [[unsE true l]] [false] (fun y r => y = iA (scan mkUn k l).2 ∧ r = [[unsE true (scan mkUn k l).1]]) := by
  refine Does.bodyR hZ Try.func59 rfl rfl (Nat.le_of_ble_eq_true rfl) fun ha hf => ?_
  simp [unsE] at hf
  simp [Try.f59, unsE]
  have hl : ((scan mkUn k l).1.map unE).length = (l.map unE).length := by simp [scan_len]
  refine LoopA.run hZ (fun i : Nat => ⟨42, [(0, .bor [(0, 0)] 0 l.length), (1, iA (scan mkUn k (l.take i)).2), (5, iA i)], [[.row true 39 (mix ((scan mkUn k l).1.map unE) (l.map unE) i)]], [false]⟩) (fun i => i ≤ l.length ∧ (scan mkUn k (l.take i)).2 ≤ 9223372036854775807) (fun i => l.length - i) 0 (by simpa [scan] using hk) (Sub.by [0] (by simp [mix_zero, scan])) fun i hi => ?_
  simp
  refine Br.dec (fun h => ?_) (fun h => ?_)
  · have hw := w_inc h hf.1
    have hx : l[i]? = some l[i] := List.getElem?_eq_getElem h
    have hm := mix_at (i := i) hl
    simp [hx, hm, h, unE]
    refine CallA.snapE (markText_spec hZ _ (w64_le _)) (by simp; rfl) (by simp) ?_
    simp [hx, hm, h, unE]
    exact Again.mk (i + 1) ⟨by omega, by rw [scan_take mkUn l k i _ hx]; exact w64_le _⟩ (by omega) (Sub.by [0] (by simp [hw, List.modify_modify_eq, scan_take mkUn l k i _ hx, mkUn, w64]; exact mix_step hl (by simp [scan_at, hx, h, mkUn, unE, w64])))
  · simp
    rw [List.take_of_length_le (by omega), mix_all hl (by simp [scan_len]; omega)]
    simp
theorem markHost_spec (hZ : ZOk Try.prog Z) (h : Hst) (k : Int) (hk : k ≤ 9223372036854775807) : Does Z Try.prog G B0 15 [.agg [iA h.id, bA h.up, .bor [(0, 0)] 0 h.units.length], iA k] [[unsE true h.units]] [false] (fun y r => y = iA (scan mkUn k h.units).2 ∧ r = [[unsE true (scan mkUn k h.units).1]]) := by
  refine ⟨by kernel_rfl, fun w S vals fps cb vs hK hG hB hL hI hA => ?_⟩
  obtain ⟨v0, v1, rfl, h0, h1⟩ := hA.two
  obtain ⟨us, rfl, hx⟩ := h0.agg_inv
  obtain ⟨v2, v3, v4, rfl, h2, h3, h4⟩ := RL.three hx
  obtain rfl := h1.int_inv
  obtain rfl := h2.int_inv
  obtain rfl := h3.int_inv
  have hu := Try.underlying28
  go_enter Try.func15, Try.ntmps15
  go_wp2_with (first | (go_at_call 59; refine (under_call hI (Fr.alloc _ _) (markUnitS_spec hZ h.units k hk) hK hG hB hL (RL.mk2 h4 h1)).mono ?_; rintro e w' ⟨res, rts', v, S', vals', fps', cb', fp, rfl, hp, hg⟩))
  go_ret
  exact ⟨res, rts', _, S', vals', fps', cb', fp, rfl, hp, hg⟩
theorem heldUnitS_spec (hZ : ZOk Try.prog Z) (l : List Un) (k : Int) (hk : k ≤ 9223372036854775807) : Does Z Try.prog G B0 60 [.c (unsE false l), iA k] [] [] (fun y _ => y = iA (hscan hdUn k l)) := by
  generalize hr : hscan hdUn k l = r
  refine Does.bodyF hZ Try.func60 rfl rfl (Nat.le_of_ble_eq_true rfl) fun hf => ?_
  simp [unsE] at hf
  simp [Try.f60, unsE]
  refine LoopA.run hZ (fun p : Nat × Int => ⟨50, [(0, .c (unsE false l)), (1, iA p.2), (5, iA p.1)], [], []⟩) (fun p => hscan hdUn p.2 (l.drop p.1) = r ∧ p.2 ≤ 9223372036854775807) (fun p => l.length - p.1) (0, k) ⟨by simpa using hr, hk⟩ (Sub.by [] (by simp [unsE])) fun ⟨i, j⟩ ⟨he, hj⟩ => ?_
  dsimp only at he hj
  simp [unsE]
  refine Br.dec (fun h => ?_) (fun h => ?_)
  · have hw := w_inc h hf.1
    have hx : l[i]? = some l[i] := List.getElem?_eq_getElem h
    rw [List.drop_eq_getElem_cons h, hscan, hdUn] at he
    generalize l[i] = x at hx he
    have hle := w64_le
    simp only [w64] at he hle
    simp [hx, unE]
    refine Br.dec (fun h2 => ?_) (fun h2 => ?_) <;> simp [h2, hx, unE] at he ⊢
    rotate_left
    · exact he
    refine Br.dec (fun h3 => ?_) (fun h3 => ?_) <;> simp [h3, hx, unE] at he ⊢
    rotate_left
    · exact he
    refine W_draw hZ hmo 1 7 [(0, []), (0, []), (0, []), (0, []), (0, []), (0, []), (0, [])] (by kernel_rfl) ?_
    simp [hx, unE]
    refine CallD.snapE (markText_spec hZ _ (hle _)) (by simp; rfl) (by simp) ?_
    simp
    refine Br.dec (fun h4 => ?_) (fun h4 => ?_) <;> simp [h4, hx, unE] at he ⊢
    rotate_left
    · exact he
    refine Br.dec (fun h5 => ?_) (fun h5 => ?_) <;> simp [h5, hx, unE] at he ⊢
    rotate_left
    · exact he
    exact Again.mk (i + 1, IntKind.i64.wrap (IntKind.i64.wrap (IntKind.i64.wrap (IntKind.i64.wrap (j + 1) + 1) + 1) + 1)) ⟨he, hle _⟩ (by dsimp only; omega) (Sub.by [] (by simp [hw, unsE]))
  · rw [List.drop_eq_nil_of_le (show l.length ≤ i by omega), hscan] at he
    simp [he.symm]
theorem heldHost_spec (hZ : ZOk Try.prog Z) (h : Hst) (k : Int) (hk : k ≤ 9223372036854775807) (h0 : 0 ≤ hscan hdUn k h.units) : Does Z Try.prog G B0 16 [hsA false h, iA k] [] [] (fun y _ => y = iA (hscan hdUn k h.units)) := by
  refine Does.body hZ Try.func16 rfl rfl (Nat.le_of_ble_eq_true rfl) ?_
  simp [Try.f16, hsA, unsE]
  refine CallA.snapE (heldUnitS_spec hZ h.units k hk) (by simp [unsE]) (by simp) ?_
  simp
  refine Br.dec (fun h => ?_) (fun h => ?_) <;> simp
  omega
end Go.Proofs.Ytbhbkaonlillhaa
