/- Contracts: draws. -/
import Derived.Test.YtbhbkaonlillhaaGreatDoorCEy
import Derived.Test.YtbhbkaonlillhaaGreatDoorCEk
import Derived.Test.YtbhbkaonlillhaaGreatDoorAbc
namespace Go.Proofs.YtbhbkaonlillhaaGreatDoor
open Go Go.Abs Go.Proofs Go.Tm
set_option linter.unusedSimpArgs false
set_option linter.unusedVariables false
set_option maxRecDepth 10000
variable {Z : TypeId → Nat} {G : World → Prop} {B0 : Nat}
structure Cur where
  b : List Int
  i : Nat
  h : Int
def byE (l : List Int) : Cell := .row false 5 (l.map fun x => [.sc (.int .u8 x)])
def curE (c : Cur) : List Cell := [byE c.b, iC c.i, iC c.h]
theorem l01New_spec (hZ : ZOk Tryz.prog Z) (b : List Int) : Does Z Tryz.prog G B0 75 [.c (byE b)] [] [] (fun y _ => ∃ c, y = .nb (curE c)) := by
  refine Does.bodyF hZ Tryz.func75 rfl rfl (Nat.le_of_ble_eq_true rfl) fun hf => ?_
  simp [byE] at hf
  simp [Tryz.f75, byE]
  refine LoopA.run hZ (fun p : Nat × Int => ⟨32, [(0, .c (byE b)), (3, iA p.2), (4, iA p.1)], [], []⟩) (fun p => p.1 ≤ b.length) (fun p => b.length - p.1) (0, IntKind.i64.wrap (36801 + b.length)) (by simp) (Sub.by [] (by simp [byE])) fun ⟨i, h⟩ hi => ?_
  dsimp only at hi
  simp [byE]
  refine Br.dec (fun h1 => ?_) (fun h1 => ?_) <;> simp [h1]
  · have hx : b[i]? = some b[i] := List.getElem?_eq_getElem h1
    have hw : IntKind.i64.wrap ((i : Int) + 1) = ((i + 1 : Nat) : Int) := wrap_i64 (by omega)
    refine Br.dec (fun h2 => ?_) (fun h2 => ?_) <;> simp [h2]
    · simp [hx]
      exact Again.mk (i + 1, _) (by dsimp only; omega) (by dsimp only; omega) (Sub.by [] (by simp [hw, byE]; rfl))
    · exact ⟨⟨b, 0, h⟩, by simp [curE, byE]⟩
  · exact ⟨⟨b, 0, h⟩, by simp [curE, byE]⟩
theorem l01Byte_spec (hZ : ZOk Tryz.prog Z) (c : Cur) : Does Z Tryz.prog G B0 76 [.ptr [(0, 0)]] [curE c] [true] (fun y r => ∃ v c', y = iA v ∧ (0 ≤ v ∧ v ≤ 255) ∧ r = [curE c']) := by
  refine Does.bodyR hZ Tryz.func76 rfl rfl (Nat.le_of_ble_eq_true rfl) fun ha hf => ?_
  simp [curE, byE] at hf
  simp [Tryz.f76, curE, byE]
  refine W_drawB hZ hmo 1 rfl 0 10 [(1, []), (1, []), (1, []), (1, []), (1, []), (1, []), (1, []), (1, []), (1, []), (1, [])] (by kernel_rfl) ?_
  simp
  refine W_drawB hZ hmo 1 rfl 0 9 [(1, []), (1, []), (1, []), (1, []), (1, []), (1, []), (1, []), (1, []), (1, [])] (by kernel_rfl) ?_
  simp
  refine Br.dec (fun h => ?_) (fun h => ?_)
  · have hx : c.b[c.i]? = some c.b[c.i] := List.getElem?_eq_getElem h
    have hw : IntKind.i64.wrap ((c.i : Int) + 1) = ((c.i + 1 : Nat) : Int) := wrap_i64 (by have := hf.1; omega)
    refine W_drawB hZ hmo 1 rfl 0 12 [(1, []), (1, []), (1, []), (1, []), (1, []), (1, []), (1, []), (1, []), (1, []), (1, []), (1, []), (1, [])] (by kernel_rfl) ?_
    simp [hx, hw]
    exact ⟨and_bound _ 255 (by omega), ⟨c.b, c.i + 1, _⟩, rfl, by simp, rfl⟩
  · simp
    exact ⟨and_bound _ 255 (by omega), ⟨c.b, c.i, IntKind.i64.wrap (IntKind.i64.wrap (c.h * 6364136223846793005) + 1442695040888963407)⟩, rfl, rfl, rfl⟩
theorem tmod_lt {a n : Int} (h : 0 < n) (ha : 0 ≤ a) : 0 ≤ a.tmod n ∧ a.tmod n < n := ⟨Int.tmod_nonneg _ ha, Int.tmod_lt_of_pos _ h⟩
theorem l01Below_spec (hZ : ZOk Tryz.prog Z) (c : Cur) (n : Int) (hn : n ≤ 1000000000) : Does Z Tryz.prog G B0 77 [.ptr [(0, 0)], iA n] [curE c] [true] (fun y r => ∃ v c', y = iA v ∧ ((0 < n → 0 ≤ v ∧ v < n) ∧ (n ≤ 0 → v = 0)) ∧ r = [curE c']) := by
  refine Does.bodyR hZ Tryz.func77 rfl rfl (Nat.le_of_ble_eq_true rfl) fun ha hf => ?_
  simp [Tryz.f77]
  refine Br.dec (fun h1 => ?_) (fun h1 => ?_) <;> simp [h1]
  · exact ⟨c, rfl⟩
  refine Br.dec (fun h2 => ?_) (fun h2 => ?_)
  · simp
    refine CallA.rootsP [0] (l01Byte_spec hZ c) (by simp [curE, byE]) ?_
    rintro y r ⟨v, c', rfl, hv, rfl⟩ _
    have hn0 : ¬ n = 0 := by omega
    simp [curE, byE, hn0]
    exact ⟨fun h => tmod_lt h hv.1, c', rfl, rfl, rfl⟩
  · simp
    refine CallA.rootsP [0] (l01Byte_spec hZ c) (by simp [curE, byE]) ?_
    rintro y r ⟨v1, c1, rfl, hv1, rfl⟩ _
    simp [curE, byE]
    refine CallA.rootsP [0] (l01Byte_spec hZ c1) (by simp [curE, byE]) ?_
    rintro y r ⟨v2, c2, rfl, hv2, rfl⟩ _
    simp [curE, byE]
    refine CallA.rootsP [0] (l01Byte_spec hZ c2) (by simp [curE, byE]) ?_
    rintro y r ⟨v3, c3, rfl, hv3, rfl⟩ _
    simp [curE, byE]
    refine CallA.rootsP [0] (l01Byte_spec hZ c3) (by simp [curE, byE]) ?_
    rintro y r ⟨v4, c4, rfl, hv4, rfl⟩ _
    have hn0 : ¬ n = 0 := by omega
    have e1 : IntKind.i64.wrap (v1 * 16777216) = v1 * 16777216 := wrap_i64 (by omega)
    have e2 : IntKind.i64.wrap (v2 * 65536) = v2 * 65536 := wrap_i64 (by omega)
    have e3 : IntKind.i64.wrap (v3 * 256) = v3 * 256 := wrap_i64 (by omega)
    have e4 : IntKind.i64.wrap (v1 * 16777216 + v2 * 65536) = v1 * 16777216 + v2 * 65536 := wrap_i64 (by omega)
    have e5 : IntKind.i64.wrap (v1 * 16777216 + v2 * 65536 + v3 * 256) = v1 * 16777216 + v2 * 65536 + v3 * 256 := wrap_i64 (by omega)
    have e6 : IntKind.i64.wrap (v1 * 16777216 + v2 * 65536 + v3 * 256 + v4) = v1 * 16777216 + v2 * 65536 + v3 * 256 + v4 := wrap_i64 (by omega)
    simp [curE, byE, hn0, e1, e2, e3, e4, e5, e6]
    exact ⟨fun h => tmod_lt h (by omega), c4, rfl, rfl, rfl⟩
theorem l01Once_spec (hZ : ZOk Tryz.prog Z) (c : Cur) (n : Int) (hn : n ≤ 1000000000) : Does Z Tryz.prog G B0 110 [.ptr [(0, 0)], iA n] [curE c] [true] (fun y r => ∃ v c', y = bA v ∧ r = [curE c']) := by
  refine Does.bodyR hZ Tryz.func110 rfl rfl (Nat.le_of_ble_eq_true rfl) fun ha hf => ?_
  simp [Tryz.f110]
  refine CallA.rootsP [0] (l01Below_spec hZ c n hn) (by simp [curE, byE]) ?_
  rintro y r ⟨v, c', rfl, hv, rfl⟩ _
  simp [curE, byE]
  exact ⟨(Decidable.em (v = 0)).symm, c', rfl, rfl, rfl⟩
theorem l01PickInt_spec (hZ : ZOk Tryz.prog Z) (c : Cur) (l : List Int) (hl : 0 < l.length ∧ l.length ≤ 1000) : Does Z Tryz.prog G B0 172 [.ptr [(0, 0)], .bor [(1, 0)] 0 l.length] [curE c, [intsE true l]] [true, false] (fun y r => ∃ v c', y = iA v ∧ v ∈ l ∧ r = [curE c', [intsE true l]]) := by
  refine Does.bodyR hZ Tryz.func172 rfl rfl (Nat.le_of_ble_eq_true rfl) fun ha hf => ?_
  simp [Tryz.f172, intsE]
  refine CallA.rootsP [0] (l01Below_spec hZ c l.length (by omega)) (by simp [curE, byE]) ?_
  rintro y r ⟨v, c', rfl, hv, rfl⟩ _
  have h1 := hv.1 (by omega)
  obtain ⟨k, rfl⟩ : ∃ k : Nat, v = k := ⟨v.toNat, by omega⟩
  have hk : k < l.length := by omega
  have hx : l[k]? = some l[k] := List.getElem?_eq_getElem hk
  simp [curE, byE, hx]
  refine Need.mk hk ?_
  simp [hx]
  exact ⟨c', rfl, rfl, rfl⟩
theorem l01Pick_spec (hZ : ZOk Tryz.prog Z) (c : Cur) (l : List ByteArray) (hl : 0 < l.length ∧ l.length ≤ 1000) : Does Z Tryz.prog G B0 111 [.ptr [(0, 0)], .bor [(1, 0)] 0 l.length] [curE c, [strsE true l]] [true, false] (fun y r => ∃ v c', y = sA v ∧ v ∈ l ∧ r = [curE c', [strsE true l]]) := by
  refine Does.bodyR hZ Tryz.func111 rfl rfl (Nat.le_of_ble_eq_true rfl) fun ha hf => ?_
  simp [Tryz.f111, strsE]
  refine CallA.rootsP [0] (l01Below_spec hZ c l.length (by omega)) (by simp [curE, byE]) ?_
  rintro y r ⟨v, c', rfl, hv, rfl⟩ _
  have h1 := hv.1 (by omega)
  obtain ⟨k, rfl⟩ : ∃ k : Nat, v = k := ⟨v.toNat, by omega⟩
  have hk : k < l.length := by omega
  have hx : l[k]? = some l[k] := List.getElem?_eq_getElem hk
  simp [curE, byE, hx]
  refine Need.mk hk ?_
  simp [hx]
  exact ⟨c', rfl, rfl, rfl⟩
end Go.Proofs.YtbhbkaonlillhaaGreatDoor
