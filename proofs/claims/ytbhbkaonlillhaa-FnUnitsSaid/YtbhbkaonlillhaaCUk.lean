/- Contracts: draws for hosts and units. -/
import Derived.Test.YtbhbkaonlillhaaCUj
import Derived.Test.YtbhbkaonlillhaaAbc
namespace Go.Proofs.Ytbhbkaonlillhaa
open Go Go.Abs Go.Proofs Go.Tm
set_option linter.unusedSimpArgs false
set_option linter.unusedVariables false
set_option maxRecDepth 10000
variable {Z : TypeId → Nat} {G : World → Prop} {B0 : Nat}
structure Cur where
  b : List Int
  i : Nat
  h : Int
def byE (l : List Int) : Cell := .row false 5 (l.map fun x => [.sc (.int .u8 x)])
def curE (c : Cur) : List Cell := [byE c.b, iC c.i, iC c.h]
theorem l01New_spec (hZ : ZOk Try.prog Z) (b : List Int) : Does Z Try.prog G B0 68 [.c (byE b)] [] [] (fun y _ => ∃ c, y = .nb (curE c)) := by
  refine Does.bodyF hZ Try.func68 rfl rfl (Nat.le_of_ble_eq_true rfl) fun hf => ?_
  simp [byE] at hf
  simp [Try.f68, byE]
  refine LoopA.run hZ (fun p : Nat × Int => ⟨32, [(0, .c (byE b)), (3, iA p.2), (4, iA p.1)], [], []⟩) (fun p => p.1 ≤ b.length) (fun p => b.length - p.1) (0, IntKind.i64.wrap (36801 + b.length)) (by simp) (Sub.by [] (by simp [byE])) fun ⟨i, h⟩ hi => ?_
  dsimp only at hi
  simp [byE]
  refine Br.dec (fun h1 => ?_) (fun h1 => ?_) <;> simp [h1]
  · have hx : b[i]? = some b[i] := List.getElem?_eq_getElem h1
    have hw : IntKind.i64.wrap ((i : Int) + 1) = ((i + 1 : Nat) : Int) := wrap_i64 (by omega)
    refine Br.dec (fun h2 => ?_) (fun h2 => ?_) <;> simp [h2]
    · simp [hx]
      exact Again.mk (i + 1, _) (by dsimp only; omega) (by dsimp only; omega) (Sub.by [] (by simp [hw, byE]; rfl))
    · exact ⟨⟨b, 0, h⟩, by simp [curE, byE]⟩
  · exact ⟨⟨b, 0, h⟩, by simp [curE, byE]⟩
theorem l01Byte_spec (hZ : ZOk Try.prog Z) (c : Cur) : Does Z Try.prog G B0 69 [.ptr [(0, 0)]] [curE c] [true] (fun y r => ∃ v c', y = iA v ∧ (0 ≤ v ∧ v ≤ 255) ∧ r = [curE c']) := by
  refine Does.bodyR hZ Try.func69 rfl rfl (Nat.le_of_ble_eq_true rfl) fun ha hf => ?_
  simp [curE, byE] at hf
  simp [Try.f69, curE, byE]
  first | refine W_drawB hZ hmo 1 rfl 0 10 [(1, []), (1, []), (1, []), (1, []), (1, []), (1, []), (1, []), (1, []), (1, []), (1, [])] (by kernel_rfl) ?_ | refine W_drawB hZ hmo 2 rfl 0 10 [(2, []), (2, []), (2, []), (2, []), (2, []), (2, []), (2, []), (2, []), (2, []), (2, [])] (by kernel_rfl) ?_ | refine W_drawB hZ hmo 3 rfl 0 10 [(3, []), (3, []), (3, []), (3, []), (3, []), (3, []), (3, []), (3, []), (3, []), (3, [])] (by kernel_rfl) ?_ | refine W_drawB hZ hmo 4 rfl 0 10 [(4, []), (4, []), (4, []), (4, []), (4, []), (4, []), (4, []), (4, []), (4, []), (4, [])] (by kernel_rfl) ?_ | refine W_drawB hZ hmo 5 rfl 0 10 [(5, []), (5, []), (5, []), (5, []), (5, []), (5, []), (5, []), (5, []), (5, []), (5, [])] (by kernel_rfl) ?_ | refine W_drawB hZ hmo 6 rfl 0 10 [(6, []), (6, []), (6, []), (6, []), (6, []), (6, []), (6, []), (6, []), (6, []), (6, [])] (by kernel_rfl) ?_ | refine W_drawB hZ hmo 7 rfl 0 10 [(7, []), (7, []), (7, []), (7, []), (7, []), (7, []), (7, []), (7, []), (7, []), (7, [])] (by kernel_rfl) ?_ | refine W_drawB hZ hmo 8 rfl 0 10 [(8, []), (8, []), (8, []), (8, []), (8, []), (8, []), (8, []), (8, []), (8, []), (8, [])] (by kernel_rfl) ?_ | refine W_drawB hZ hmo 9 rfl 0 10 [(9, []), (9, []), (9, []), (9, []), (9, []), (9, []), (9, []), (9, []), (9, []), (9, [])] (by kernel_rfl) ?_ | refine W_drawB hZ hmo 10 rfl 0 10 [(10, []), (10, []), (10, []), (10, []), (10, []), (10, []), (10, []), (10, []), (10, []), (10, [])] (by kernel_rfl) ?_ | refine W_drawB hZ hmo 11 rfl 0 10 [(11, []), (11, []), (11, []), (11, []), (11, []), (11, []), (11, []), (11, []), (11, []), (11, [])] (by kernel_rfl) ?_ | refine W_drawB hZ hmo 12 rfl 0 10 [(12, []), (12, []), (12, []), (12, []), (12, []), (12, []), (12, []), (12, []), (12, []), (12, [])] (by kernel_rfl) ?_ | refine W_drawB hZ hmo 13 rfl 0 10 [(13, []), (13, []), (13, []), (13, []), (13, []), (13, []), (13, []), (13, []), (13, []), (13, [])] (by kernel_rfl) ?_ | refine W_drawB hZ hmo 14 rfl 0 10 [(14, []), (14, []), (14, []), (14, []), (14, []), (14, []), (14, []), (14, []), (14, []), (14, [])] (by kernel_rfl) ?_ | refine W_drawB hZ hmo 15 rfl 0 10 [(15, []), (15, []), (15, []), (15, []), (15, []), (15, []), (15, []), (15, []), (15, []), (15, [])] (by kernel_rfl) ?_ | refine W_drawB hZ hmo 16 rfl 0 10 [(16, []), (16, []), (16, []), (16, []), (16, []), (16, []), (16, []), (16, []), (16, []), (16, [])] (by kernel_rfl) ?_ | refine W_drawB hZ hmo 17 rfl 0 10 [(17, []), (17, []), (17, []), (17, []), (17, []), (17, []), (17, []), (17, []), (17, []), (17, [])] (by kernel_rfl) ?_ | refine W_drawB hZ hmo 18 rfl 0 10 [(18, []), (18, []), (18, []), (18, []), (18, []), (18, []), (18, []), (18, []), (18, []), (18, [])] (by kernel_rfl) ?_ | refine W_drawB hZ hmo 19 rfl 0 10 [(19, []), (19, []), (19, []), (19, []), (19, []), (19, []), (19, []), (19, []), (19, []), (19, [])] (by kernel_rfl) ?_ | refine W_drawB hZ hmo 20 rfl 0 10 [(20, []), (20, []), (20, []), (20, []), (20, []), (20, []), (20, []), (20, []), (20, []), (20, [])] (by kernel_rfl) ?_ | refine W_drawB hZ hmo 21 rfl 0 10 [(21, []), (21, []), (21, []), (21, []), (21, []), (21, []), (21, []), (21, []), (21, []), (21, [])] (by kernel_rfl) ?_ | refine W_drawB hZ hmo 22 rfl 0 10 [(22, []), (22, []), (22, []), (22, []), (22, []), (22, []), (22, []), (22, []), (22, []), (22, [])] (by kernel_rfl) ?_ | refine W_drawB hZ hmo 23 rfl 0 10 [(23, []), (23, []), (23, []), (23, []), (23, []), (23, []), (23, []), (23, []), (23, []), (23, [])] (by kernel_rfl) ?_ | refine W_drawB hZ hmo 24 rfl 0 10 [(24, []), (24, []), (24, []), (24, []), (24, []), (24, []), (24, []), (24, []), (24, []), (24, [])] (by kernel_rfl) ?_ | refine W_drawB hZ hmo 25 rfl 0 10 [(25, []), (25, []), (25, []), (25, []), (25, []), (25, []), (25, []), (25, []), (25, []), (25, [])] (by kernel_rfl) ?_ | refine W_drawB hZ hmo 26 rfl 0 10 [(26, []), (26, []), (26, []), (26, []), (26, []), (26, []), (26, []), (26, []), (26, []), (26, [])] (by kernel_rfl) ?_ | refine W_drawB hZ hmo 27 rfl 0 10 [(27, []), (27, []), (27, []), (27, []), (27, []), (27, []), (27, []), (27, []), (27, []), (27, [])] (by kernel_rfl) ?_ | refine W_drawB hZ hmo 28 rfl 0 10 [(28, []), (28, []), (28, []), (28, []), (28, []), (28, []), (28, []), (28, []), (28, []), (28, [])] (by kernel_rfl) ?_ | refine W_drawB hZ hmo 29 rfl 0 10 [(29, []), (29, []), (29, []), (29, []), (29, []), (29, []), (29, []), (29, []), (29, []), (29, [])] (by kernel_rfl) ?_ | refine W_drawB hZ hmo 30 rfl 0 10 [(30, []), (30, []), (30, []), (30, []), (30, []), (30, []), (30, []), (30, []), (30, []), (30, [])] (by kernel_rfl) ?_ | refine W_drawB hZ hmo 31 rfl 0 10 [(31, []), (31, []), (31, []), (31, []), (31, []), (31, []), (31, []), (31, []), (31, []), (31, [])] (by kernel_rfl) ?_
  simp
  first | refine W_drawB hZ hmo 1 rfl 0 9 [(1, []), (1, []), (1, []), (1, []), (1, []), (1, []), (1, []), (1, []), (1, [])] (by kernel_rfl) ?_ | refine W_drawB hZ hmo 2 rfl 0 9 [(2, []), (2, []), (2, []), (2, []), (2, []), (2, []), (2, []), (2, []), (2, [])] (by kernel_rfl) ?_ | refine W_drawB hZ hmo 3 rfl 0 9 [(3, []), (3, []), (3, []), (3, []), (3, []), (3, []), (3, []), (3, []), (3, [])] (by kernel_rfl) ?_ | refine W_drawB hZ hmo 4 rfl 0 9 [(4, []), (4, []), (4, []), (4, []), (4, []), (4, []), (4, []), (4, []), (4, [])] (by kernel_rfl) ?_ | refine W_drawB hZ hmo 5 rfl 0 9 [(5, []), (5, []), (5, []), (5, []), (5, []), (5, []), (5, []), (5, []), (5, [])] (by kernel_rfl) ?_ | refine W_drawB hZ hmo 6 rfl 0 9 [(6, []), (6, []), (6, []), (6, []), (6, []), (6, []), (6, []), (6, []), (6, [])] (by kernel_rfl) ?_ | refine W_drawB hZ hmo 7 rfl 0 9 [(7, []), (7, []), (7, []), (7, []), (7, []), (7, []), (7, []), (7, []), (7, [])] (by kernel_rfl) ?_ | refine W_drawB hZ hmo 8 rfl 0 9 [(8, []), (8, []), (8, []), (8, []), (8, []), (8, []), (8, []), (8, []), (8, [])] (by kernel_rfl) ?_ | refine W_drawB hZ hmo 9 rfl 0 9 [(9, []), (9, []), (9, []), (9, []), (9, []), (9, []), (9, []), (9, []), (9, [])] (by kernel_rfl) ?_ | refine W_drawB hZ hmo 10 rfl 0 9 [(10, []), (10, []), (10, []), (10, []), (10, []), (10, []), (10, []), (10, []), (10, [])] (by kernel_rfl) ?_ | refine W_drawB hZ hmo 11 rfl 0 9 [(11, []), (11, []), (11, []), (11, []), (11, []), (11, []), (11, []), (11, []), (11, [])] (by kernel_rfl) ?_ | refine W_drawB hZ hmo 12 rfl 0 9 [(12, []), (12, []), (12, []), (12, []), (12, []), (12, []), (12, []), (12, []), (12, [])] (by kernel_rfl) ?_ | refine W_drawB hZ hmo 13 rfl 0 9 [(13, []), (13, []), (13, []), (13, []), (13, []), (13, []), (13, []), (13, []), (13, [])] (by kernel_rfl) ?_ | refine W_drawB hZ hmo 14 rfl 0 9 [(14, []), (14, []), (14, []), (14, []), (14, []), (14, []), (14, []), (14, []), (14, [])] (by kernel_rfl) ?_ | refine W_drawB hZ hmo 15 rfl 0 9 [(15, []), (15, []), (15, []), (15, []), (15, []), (15, []), (15, []), (15, []), (15, [])] (by kernel_rfl) ?_ | refine W_drawB hZ hmo 16 rfl 0 9 [(16, []), (16, []), (16, []), (16, []), (16, []), (16, []), (16, []), (16, []), (16, [])] (by kernel_rfl) ?_ | refine W_drawB hZ hmo 17 rfl 0 9 [(17, []), (17, []), (17, []), (17, []), (17, []), (17, []), (17, []), (17, []), (17, [])] (by kernel_rfl) ?_ | refine W_drawB hZ hmo 18 rfl 0 9 [(18, []), (18, []), (18, []), (18, []), (18, []), (18, []), (18, []), (18, []), (18, [])] (by kernel_rfl) ?_ | refine W_drawB hZ hmo 19 rfl 0 9 [(19, []), (19, []), (19, []), (19, []), (19, []), (19, []), (19, []), (19, []), (19, [])] (by kernel_rfl) ?_ | refine W_drawB hZ hmo 20 rfl 0 9 [(20, []), (20, []), (20, []), (20, []), (20, []), (20, []), (20, []), (20, []), (20, [])] (by kernel_rfl) ?_ | refine W_drawB hZ hmo 21 rfl 0 9 [(21, []), (21, []), (21, []), (21, []), (21, []), (21, []), (21, []), (21, []), (21, [])] (by kernel_rfl) ?_ | refine W_drawB hZ hmo 22 rfl 0 9 [(22, []), (22, []), (22, []), (22, []), (22, []), (22, []), (22, []), (22, []), (22, [])] (by kernel_rfl) ?_ | refine W_drawB hZ hmo 23 rfl 0 9 [(23, []), (23, []), (23, []), (23, []), (23, []), (23, []), (23, []), (23, []), (23, [])] (by kernel_rfl) ?_ | refine W_drawB hZ hmo 24 rfl 0 9 [(24, []), (24, []), (24, []), (24, []), (24, []), (24, []), (24, []), (24, []), (24, [])] (by kernel_rfl) ?_ | refine W_drawB hZ hmo 25 rfl 0 9 [(25, []), (25, []), (25, []), (25, []), (25, []), (25, []), (25, []), (25, []), (25, [])] (by kernel_rfl) ?_ | refine W_drawB hZ hmo 26 rfl 0 9 [(26, []), (26, []), (26, []), (26, []), (26, []), (26, []), (26, []), (26, []), (26, [])] (by kernel_rfl) ?_ | refine W_drawB hZ hmo 27 rfl 0 9 [(27, []), (27, []), (27, []), (27, []), (27, []), (27, []), (27, []), (27, []), (27, [])] (by kernel_rfl) ?_ | refine W_drawB hZ hmo 28 rfl 0 9 [(28, []), (28, []), (28, []), (28, []), (28, []), (28, []), (28, []), (28, []), (28, [])] (by kernel_rfl) ?_ | refine W_drawB hZ hmo 29 rfl 0 9 [(29, []), (29, []), (29, []), (29, []), (29, []), (29, []), (29, []), (29, []), (29, [])] (by kernel_rfl) ?_ | refine W_drawB hZ hmo 30 rfl 0 9 [(30, []), (30, []), (30, []), (30, []), (30, []), (30, []), (30, []), (30, []), (30, [])] (by kernel_rfl) ?_ | refine W_drawB hZ hmo 31 rfl 0 9 [(31, []), (31, []), (31, []), (31, []), (31, []), (31, []), (31, []), (31, []), (31, [])] (by kernel_rfl) ?_
  simp
  refine Br.dec (fun h => ?_) (fun h => ?_)
  · have hx : c.b[c.i]? = some c.b[c.i] := List.getElem?_eq_getElem h
    have hw : IntKind.i64.wrap ((c.i : Int) + 1) = ((c.i + 1 : Nat) : Int) := wrap_i64 (by have := hf.1; omega)
    first | refine W_drawB hZ hmo 1 rfl 0 12 [(1, []), (1, []), (1, []), (1, []), (1, []), (1, []), (1, []), (1, []), (1, []), (1, []), (1, []), (1, [])] (by kernel_rfl) ?_ | refine W_drawB hZ hmo 2 rfl 0 12 [(2, []), (2, []), (2, []), (2, []), (2, []), (2, []), (2, []), (2, []), (2, []), (2, []), (2, []), (2, [])] (by kernel_rfl) ?_ | refine W_drawB hZ hmo 3 rfl 0 12 [(3, []), (3, []), (3, []), (3, []), (3, []), (3, []), (3, []), (3, []), (3, []), (3, []), (3, []), (3, [])] (by kernel_rfl) ?_ | refine W_drawB hZ hmo 4 rfl 0 12 [(4, []), (4, []), (4, []), (4, []), (4, []), (4, []), (4, []), (4, []), (4, []), (4, []), (4, []), (4, [])] (by kernel_rfl) ?_ | refine W_drawB hZ hmo 5 rfl 0 12 [(5, []), (5, []), (5, []), (5, []), (5, []), (5, []), (5, []), (5, []), (5, []), (5, []), (5, []), (5, [])] (by kernel_rfl) ?_ | refine W_drawB hZ hmo 6 rfl 0 12 [(6, []), (6, []), (6, []), (6, []), (6, []), (6, []), (6, []), (6, []), (6, []), (6, []), (6, []), (6, [])] (by kernel_rfl) ?_ | refine W_drawB hZ hmo 7 rfl 0 12 [(7, []), (7, []), (7, []), (7, []), (7, []), (7, []), (7, []), (7, []), (7, []), (7, []), (7, []), (7, [])] (by kernel_rfl) ?_ | refine W_drawB hZ hmo 8 rfl 0 12 [(8, []), (8, []), (8, []), (8, []), (8, []), (8, []), (8, []), (8, []), (8, []), (8, []), (8, []), (8, [])] (by kernel_rfl) ?_ | refine W_drawB hZ hmo 9 rfl 0 12 [(9, []), (9, []), (9, []), (9, []), (9, []), (9, []), (9, []), (9, []), (9, []), (9, []), (9, []), (9, [])] (by kernel_rfl) ?_ | refine W_drawB hZ hmo 10 rfl 0 12 [(10, []), (10, []), (10, []), (10, []), (10, []), (10, []), (10, []), (10, []), (10, []), (10, []), (10, []), (10, [])] (by kernel_rfl) ?_ | refine W_drawB hZ hmo 11 rfl 0 12 [(11, []), (11, []), (11, []), (11, []), (11, []), (11, []), (11, []), (11, []), (11, []), (11, []), (11, []), (11, [])] (by kernel_rfl) ?_ | refine W_drawB hZ hmo 12 rfl 0 12 [(12, []), (12, []), (12, []), (12, []), (12, []), (12, []), (12, []), (12, []), (12, []), (12, []), (12, []), (12, [])] (by kernel_rfl) ?_ | refine W_drawB hZ hmo 13 rfl 0 12 [(13, []), (13, []), (13, []), (13, []), (13, []), (13, []), (13, []), (13, []), (13, []), (13, []), (13, []), (13, [])] (by kernel_rfl) ?_ | refine W_drawB hZ hmo 14 rfl 0 12 [(14, []), (14, []), (14, []), (14, []), (14, []), (14, []), (14, []), (14, []), (14, []), (14, []), (14, []), (14, [])] (by kernel_rfl) ?_ | refine W_drawB hZ hmo 15 rfl 0 12 [(15, []), (15, []), (15, []), (15, []), (15, []), (15, []), (15, []), (15, []), (15, []), (15, []), (15, []), (15, [])] (by kernel_rfl) ?_ | refine W_drawB hZ hmo 16 rfl 0 12 [(16, []), (16, []), (16, []), (16, []), (16, []), (16, []), (16, []), (16, []), (16, []), (16, []), (16, []), (16, [])] (by kernel_rfl) ?_ | refine W_drawB hZ hmo 17 rfl 0 12 [(17, []), (17, []), (17, []), (17, []), (17, []), (17, []), (17, []), (17, []), (17, []), (17, []), (17, []), (17, [])] (by kernel_rfl) ?_ | refine W_drawB hZ hmo 18 rfl 0 12 [(18, []), (18, []), (18, []), (18, []), (18, []), (18, []), (18, []), (18, []), (18, []), (18, []), (18, []), (18, [])] (by kernel_rfl) ?_ | refine W_drawB hZ hmo 19 rfl 0 12 [(19, []), (19, []), (19, []), (19, []), (19, []), (19, []), (19, []), (19, []), (19, []), (19, []), (19, []), (19, [])] (by kernel_rfl) ?_ | refine W_drawB hZ hmo 20 rfl 0 12 [(20, []), (20, []), (20, []), (20, []), (20, []), (20, []), (20, []), (20, []), (20, []), (20, []), (20, []), (20, [])] (by kernel_rfl) ?_ | refine W_drawB hZ hmo 21 rfl 0 12 [(21, []), (21, []), (21, []), (21, []), (21, []), (21, []), (21, []), (21, []), (21, []), (21, []), (21, []), (21, [])] (by kernel_rfl) ?_ | refine W_drawB hZ hmo 22 rfl 0 12 [(22, []), (22, []), (22, []), (22, []), (22, []), (22, []), (22, []), (22, []), (22, []), (22, []), (22, []), (22, [])] (by kernel_rfl) ?_ | refine W_drawB hZ hmo 23 rfl 0 12 [(23, []), (23, []), (23, []), (23, []), (23, []), (23, []), (23, []), (23, []), (23, []), (23, []), (23, []), (23, [])] (by kernel_rfl) ?_ | refine W_drawB hZ hmo 24 rfl 0 12 [(24, []), (24, []), (24, []), (24, []), (24, []), (24, []), (24, []), (24, []), (24, []), (24, []), (24, []), (24, [])] (by kernel_rfl) ?_ | refine W_drawB hZ hmo 25 rfl 0 12 [(25, []), (25, []), (25, []), (25, []), (25, []), (25, []), (25, []), (25, []), (25, []), (25, []), (25, []), (25, [])] (by kernel_rfl) ?_ | refine W_drawB hZ hmo 26 rfl 0 12 [(26, []), (26, []), (26, []), (26, []), (26, []), (26, []), (26, []), (26, []), (26, []), (26, []), (26, []), (26, [])] (by kernel_rfl) ?_ | refine W_drawB hZ hmo 27 rfl 0 12 [(27, []), (27, []), (27, []), (27, []), (27, []), (27, []), (27, []), (27, []), (27, []), (27, []), (27, []), (27, [])] (by kernel_rfl) ?_ | refine W_drawB hZ hmo 28 rfl 0 12 [(28, []), (28, []), (28, []), (28, []), (28, []), (28, []), (28, []), (28, []), (28, []), (28, []), (28, []), (28, [])] (by kernel_rfl) ?_ | refine W_drawB hZ hmo 29 rfl 0 12 [(29, []), (29, []), (29, []), (29, []), (29, []), (29, []), (29, []), (29, []), (29, []), (29, []), (29, []), (29, [])] (by kernel_rfl) ?_ | refine W_drawB hZ hmo 30 rfl 0 12 [(30, []), (30, []), (30, []), (30, []), (30, []), (30, []), (30, []), (30, []), (30, []), (30, []), (30, []), (30, [])] (by kernel_rfl) ?_ | refine W_drawB hZ hmo 31 rfl 0 12 [(31, []), (31, []), (31, []), (31, []), (31, []), (31, []), (31, []), (31, []), (31, []), (31, []), (31, []), (31, [])] (by kernel_rfl) ?_
    simp [hx, hw]
    exact ⟨and_bound _ 255 (by omega), ⟨c.b, c.i + 1, _⟩, rfl, by simp, rfl⟩
  · simp
    exact ⟨and_bound _ 255 (by omega), ⟨c.b, c.i, IntKind.i64.wrap (IntKind.i64.wrap (c.h * 6364136223846793005) + 1442695040888963407)⟩, rfl, rfl, rfl⟩
theorem tmod_lt {a n : Int} (h : 0 < n) (ha : 0 ≤ a) : 0 ≤ a.tmod n ∧ a.tmod n < n := ⟨Int.tmod_nonneg _ ha, Int.tmod_lt_of_pos _ h⟩
theorem l01Below_spec (hZ : ZOk Try.prog Z) (c : Cur) (n : Int) (hn : n ≤ 1000000000) : Does Z Try.prog G B0 70 [.ptr [(0, 0)], iA n] [curE c] [true] (fun y r => ∃ v c', y = iA v ∧ ((0 < n → 0 ≤ v ∧ v < n) ∧ (n ≤ 0 → v = 0)) ∧ r = [curE c']) := by
  refine Does.bodyR hZ Try.func70 rfl rfl (Nat.le_of_ble_eq_true rfl) fun ha hf => ?_
  simp [Try.f70]
  refine Br.dec (fun h1 => ?_) (fun h1 => ?_) <;> simp [h1]
  · exact ⟨c, rfl⟩
  refine Br.dec (fun h2 => ?_) (fun h2 => ?_)
  · simp
    refine CallA.rootsP [0] (l01Byte_spec hZ c) (by simp [curE, byE]) ?_
    rintro y r ⟨v, c', rfl, hv, rfl⟩ _
    have hn0 : ¬ n = 0 := by omega
    simp [curE, byE, hn0]
    exact ⟨fun h => tmod_lt h hv.1, c', rfl, rfl, rfl⟩
  · simp
    refine CallA.rootsP [0] (l01Byte_spec hZ c) (by simp [curE, byE]) ?_
    rintro y r ⟨v1, c1, rfl, hv1, rfl⟩ _
    simp [curE, byE]
    refine CallA.rootsP [0] (l01Byte_spec hZ c1) (by simp [curE, byE]) ?_
    rintro y r ⟨v2, c2, rfl, hv2, rfl⟩ _
    simp [curE, byE]
    refine CallA.rootsP [0] (l01Byte_spec hZ c2) (by simp [curE, byE]) ?_
    rintro y r ⟨v3, c3, rfl, hv3, rfl⟩ _
    simp [curE, byE]
    refine CallA.rootsP [0] (l01Byte_spec hZ c3) (by simp [curE, byE]) ?_
    rintro y r ⟨v4, c4, rfl, hv4, rfl⟩ _
    have hn0 : ¬ n = 0 := by omega
    have e1 : IntKind.i64.wrap (v1 * 16777216) = v1 * 16777216 := wrap_i64 (by omega)
    have e2 : IntKind.i64.wrap (v2 * 65536) = v2 * 65536 := wrap_i64 (by omega)
    have e3 : IntKind.i64.wrap (v3 * 256) = v3 * 256 := wrap_i64 (by omega)
    have e4 : IntKind.i64.wrap (v1 * 16777216 + v2 * 65536) = v1 * 16777216 + v2 * 65536 := wrap_i64 (by omega)
    have e5 : IntKind.i64.wrap (v1 * 16777216 + v2 * 65536 + v3 * 256) = v1 * 16777216 + v2 * 65536 + v3 * 256 := wrap_i64 (by omega)
    have e6 : IntKind.i64.wrap (v1 * 16777216 + v2 * 65536 + v3 * 256 + v4) = v1 * 16777216 + v2 * 65536 + v3 * 256 + v4 := wrap_i64 (by omega)
    simp [curE, byE, hn0, e1, e2, e3, e4, e5, e6]
    exact ⟨fun h => tmod_lt h (by omega), c4, rfl, rfl, rfl⟩
theorem l01Once_spec (hZ : ZOk Try.prog Z) (c : Cur) (n : Int) (hn : n ≤ 1000000000) : Does Z Try.prog G B0 98 [.ptr [(0, 0)], iA n] [curE c] [true] (fun y r => ∃ v c', y = bA v ∧ r = [curE c']) := by
  refine Does.bodyR hZ Try.func98 rfl rfl (Nat.le_of_ble_eq_true rfl) fun ha hf => ?_
  simp [Try.f98]
  refine CallA.rootsP [0] (l01Below_spec hZ c n hn) (by simp [curE, byE]) ?_
  rintro y r ⟨v, c', rfl, hv, rfl⟩ _
  simp [curE, byE]
  exact ⟨(Decidable.em (v = 0)).symm, c', rfl, rfl, rfl⟩
theorem rowBytes_map (l : List Int) : rowBytes (l.map fun x => [.sc (.int .u8 x)]) = some l := by
  induction l with
  | nil => rfl
  | cons x l ih => simp [rowBytes, ih]
theorem l01Text_spec (hZ : ZOk Try.prog Z) (c : Cur) (n : Int) (hn : 0 ≤ n ∧ n ≤ 5000) : Does Z Try.prog G B0 97 [.ptr [(0, 0)], iA n] [curE c] [true] (fun y r => ∃ (s : ByteArray) (c' : Cur), y = sA s ∧ (s.size : Int) = n ∧ r = [curE c']) := by
  refine Does.bodyR hZ Try.func97 rfl rfl (Nat.le_of_ble_eq_true rfl) fun ha hf => ?_
  simp [Try.f97]
  have hn5 : ¬ 5000 < n := by omega
  simp [hn5]
  refine LoopA.run hZ (fun p : Cur × List Int => ⟨23, [(0, .ptr [(0, 0)]), (1, iA n), (5, .bor [(1, 0)] 0 p.2.length), (6, iA p.2.length)], [curE p.1, [.row true 5 (p.2.map fun x => [.sc (.int .u8 x)])]], [true, false]⟩) (fun p => (p.2.length : Int) ≤ n) (fun p => n.toNat - p.2.length) (c, []) (by simp; omega) (Sub.by [0, 1] (by simp [curE, byE])) fun ⟨c, l⟩ hl => ?_
  dsimp only at hl
  simp
  have hw : IntKind.i64.wrap ((l.length : Int) + 1) = (l.length : Int) + 1 := wrap_i64 (by omega)
  refine Br.dec (fun h => ?_) (fun h => ?_) <;> simp [h]
  · refine CallA.rootsP [0] (l01Byte_spec hZ c) (by simp [curE, byE]) ?_
    rintro y r ⟨v, c2, rfl, hv, rfl⟩ _
    simp [curE, byE]
    refine Need.mk (by omega) ?_
    simp [hw]
    exact Again.mk (c2, l ++ [IntKind.u8.wrap v]) (by simp; omega) (by simp; omega) (Sub.by [0, 4] (by simp [curE, byE, hw]))
  · simp [rowBytes_map]
    refine Need.mk (by omega) ?_
    simp [bytesText_size]
    exact ⟨by omega, c, rfl⟩
theorem l01Figure_spec (hZ : ZOk Try.prog Z) (d : Int) (hd : 0 ≤ d ∧ d < 10) : Does Z Try.prog G B0 71 [iA d] [] [] (fun y _ => y = .c (.sc (.int .u8 (IntKind.u8.wrap (IntKind.i64.wrap (48 + d)))))) := by
  refine Does.bodyF hZ Try.func71 rfl rfl (Nat.le_of_ble_eq_true rfl) fun hf => ?_
  simp [Try.f71]
  refine Br.dec (fun h => ?_) (fun h => ?_) <;> simp [h]
  omega
def decF : Nat → Int → ByteArray → ByteArray
  | 0, _, s => s
  | k + 1, m, s => if m = 0 then s else decF k (m / 10) (bytesText [IntKind.u8.wrap (IntKind.i64.wrap (48 + m.tmod 10))] ++ s)
theorem decF_size : ∀ (k : Nat) (m : Int) (s : ByteArray), (decF k m s).size ≤ k + s.size
  | 0, _, _ => by simp [decF]
  | k + 1, m, s => by
    unfold decF
    split
    · omega
    · refine Nat.le_trans (decF_size k _ _) ?_
      simp [bytesText_size]
      omega
def decV (n : Int) : ByteArray := if n = 0 then ⟨#[48]⟩ else decF 4 n ⟨#[]⟩
theorem decV_size (n : Int) : (decV n).size ≤ 4 := by
  unfold decV
  split
  · decide
  · exact decF_size 4 n _
theorem Decimal_spec (hZ : ZOk Try.prog Z) (n : Int) (hn : 0 ≤ n ∧ n < 10000) : Does Z Try.prog G B0 24 [iA n] [] [] (fun y _ => y = sA (decV n)) := by
  refine Does.bodyF hZ Try.func24 rfl rfl (Nat.le_of_ble_eq_true rfl) fun hf => ?_
  simp [Try.f24]
  refine Br.dec (fun h => ?_) (fun h => ?_) <;> simp [h]
  · simp [decV]
  have hn0 : ¬ n < 0 := by omega
  refine LoopA.run hZ (fun p : Int × ByteArray × Nat => ⟨30, [(0, iA p.1), (3, bA (decide (n < 0))), (4, sA p.2.1)], [], []⟩) (fun p => 0 ≤ p.1 ∧ p.1 < 10 ^ p.2.2 ∧ p.2.2 ≤ 4 ∧ p.2.1.size + p.2.2 ≤ 4 ∧ decF p.2.2 p.1 p.2.1 = decF 4 n ⟨#[]⟩) (fun p => p.1.toNat) (n, ⟨#[]⟩, 4) (by simp; omega) (Sub.by [] (by simp)) fun ⟨m, s, k⟩ ⟨h0, h1, h2, h4, h5⟩ => ?_
  dsimp only at h0 h1 h2 h4 h5
  simp
  refine Br.dec (fun h3 => ?_) (fun h3 => ?_) <;> simp [h3]
  · refine Br.dec (fun h4 => absurd h4 hn0) (fun _ => ?_)
    simp
    subst h3
    cases k with
    | zero => simpa [decV, h, decF] using h5
    | succ k => simpa [decV, h, decF] using h5
  · have e1 : m.tdiv 10 = m / 10 := Int.tdiv_eq_ediv_of_nonneg (by omega)
    have hm : m < 10000 := by
      rcases (show k = 0 ∨ k = 1 ∨ k = 2 ∨ k = 3 ∨ k = 4 by omega) with rfl | rfl | rfl | rfl | rfl <;> simp at h1 <;> omega
    have e2 : IntKind.i64.wrap (m / 10) = m / 10 := wrap_i64 (by omega)
    have e3 := tmod_lt (a := m) (n := 10) (by omega) (by omega)
    have e4 : ¬ m.tmod 10 < 0 := by omega
    refine Br.dec (fun h4 => absurd h4 e4) (fun _ => ?_)
    simp [e4]
    refine CallA.closE (l01Figure_spec hZ (m.tmod 10) e3) (by simp) ?_
    simp [bytesText_size]
    refine Need.mk (by omega) ?_
    simp [e1, e2]
    obtain ⟨k, rfl⟩ : ∃ j, k = j + 1 := by
      cases k with
      | zero => simp at h1; omega
      | succ j => exact ⟨j, rfl⟩
    rw [decF, if_neg h3] at h5
    rw [Int.pow_succ] at h1
    exact Again.mk (m / 10, _, k) ⟨by dsimp only; omega, by dsimp only; omega, by dsimp only; omega, by dsimp only; simp [bytesText_size]; omega, h5⟩ (by dsimp only; omega) (Sub.by [] (by simp [e1, e2]))
theorem DrawPlaces_spec (hZ : ZOk Try.prog Z) (b : List Int) : Does Z Try.prog G B0 23 [.c (byE b)] [] [] (fun y _ => ∃ p, y = .c (intsE true p) ∧ p.length = 12 ∧ ∀ v ∈ p, 0 ≤ v ∧ v < 10000) := by
  refine Does.bodyF hZ Try.func23 rfl rfl (Nat.le_of_ble_eq_true rfl) fun hf => ?_
  simp [Try.f23, byE]
  have hN := l01New_spec (Z := Z) (G := G) (B0 := B0) hZ b
  unfold byE at hN
  refine CallA.clos (by simp) hN ?_
  rintro y ⟨c, rfl⟩
  simp [curE, byE]
  refine CallA.rootsP [0] (l01Byte_spec hZ c) (by simp [curE, byE]) ?_
  rintro y r ⟨v, c1, rfl, hv, rfl⟩ _
  simp [curE, byE]
  refine LoopA.run hZ (fun p : Cur × List Int => ⟨21, [(3, .ptr [(0, 0)]), (4, .bor [(1, 0)] 0 p.2.length), (5, iA p.2.length)], [curE p.1, [intsE true p.2]], [true, false]⟩) (fun p => p.2.length ≤ 12 ∧ ∀ v ∈ p.2, 0 ≤ v ∧ v < 10000) (fun p => 12 - p.2.length) (c1, []) (by simp) (Sub.by [0, 2] (by simp [intsE, curE, byE])) fun ⟨c, l⟩ ⟨hl, hg⟩ => ?_
  dsimp only at hl hg
  simp [intsE]
  have hw : IntKind.i64.wrap ((l.length : Int) + 1) = (l.length : Int) + 1 := wrap_i64 (by omega)
  refine Br.dec (fun h => ?_) (fun h => ?_) <;> simp [h]
  · refine CallA.rootsP [0] (l01Below_spec hZ c 10000 (by omega)) (by simp [curE, byE]) ?_
    rintro y r ⟨v, c2, rfl, hv, rfl⟩ _
    have hv3 := hv.1 (by omega)
    simp [curE, byE]
    refine Need.mk (by omega) ?_
    simp [hw]
    exact Again.mk (c2, l ++ [v]) ⟨by simp; omega, fun x hx => by
      rcases List.mem_append.1 hx with hx | hx
      · exact hg x hx
      · simp at hx; subst hx; omega⟩ (by simp; omega) (Sub.by [0, 4] (by simp [intsE, curE, byE, hw, iC]))
  · exact ⟨l, rfl, by omega, hg⟩
theorem big_spec (hZ : ZOk Try.prog Z) (b : List Int) : Does Z Try.prog G B0 21 [.c (byE b)] [] [] (fun y _ => ∃ v, y = bA v) := by
  refine Does.bodyF hZ Try.func21 rfl rfl (Nat.le_of_ble_eq_true rfl) fun hf => ?_
  simp [Try.f21, byE]
  omega
end Go.Proofs.Ytbhbkaonlillhaa
