/- Contracts: records applied. -/
import Derived.Test.YtbhbkaonlillhaaCEw
namespace Go.Proofs.Ytbhbkaonlillhaa
open Go Go.Abs Go.Proofs Go.Tm
set_option linter.unusedSimpArgs false
set_option linter.unusedVariables false
set_option maxRecDepth 10000
variable {Z : TypeId → Nat} {G : World → Prop} {B0 : Nat}
theorem editB_kind {e : Edt} (h : editB e = true) : 1 ≤ e.kind ∧ e.kind ≤ 10 := by
  unfold editB at h
  cases hk : inB e.kind 1 10 with
  | false => simp [hk] at h
  | true => simpa [inB] using hk
theorem editB_add {e : Edt} (h : editB e = true) (h7 : e.kind = 7) : 1 ≤ e.num ∧ e.num ≤ 200 := by
  unfold editB at h
  simp [h7] at h
  have := h.2.2.1
  simpa [inB] using this
set_option maxHeartbeats 2000000 in
theorem Apply_spec (hZ : ZOk Try.prog Z) (t : Tree) (e : Edt) (g : Int) (hs : Sm t.nodes) (he : SmE e) : Does Z Try.prog G B0 127 [trA false t, edA e, iA g] [] [] (fun y _ => y = .tup [trA true (applyT t e g).1, iA (applyT t e g).2]) := by
  generalize hr : applyT t e g = r
  refine Does.bodyF hZ Try.func127 rfl rfl (Nat.le_of_ble_eq_true rfl) fun hf => ?_
  simp [trA, ndsE] at hf
  simp [Try.f127, trA, ndsE, edA, edE]
  refine CallA.snapE (TreeOk_spec hZ t) (by simp [trA, ndsE]) (by simp) ?_
  unfold applyT at hr
  simp
  refine Br.bool (fun h1 => ?_) (fun h1 => ?_) <;> simp [h1] at hr ⊢
  rotate_left
  · refine CallA.snapE (l10Copy_spec hZ t hs) (by simp [trA, ndsE]) (by simp [trA, noShr_nds]) ?_
    subst hr
    simp [trA, ndsE]
  refine CallA.snapE (EditOk_spec hZ e he) (by simp [edA, edE]) (by simp) ?_
  simp
  refine Br.bool (fun h2 => ?_) (fun h2 => ?_) <;> simp [h2] at hr ⊢
  rotate_left
  · refine CallA.snapE (l10Copy_spec hZ t hs) (by simp [trA, ndsE]) (by simp [trA, noShr_nds]) ?_
    subst hr
    simp [trA, ndsE]
  refine CallA.snapE (l01In_spec hZ g 1 99000) (by simp) (by simp) ?_
  simp
  refine Br.bool (fun h3 => ?_) (fun h3 => ?_) <;> simp [h3] at hr ⊢
  rotate_left
  · refine CallA.snapE (l10Copy_spec hZ t hs) (by simp [trA, ndsE]) (by simp [trA, noShr_nds]) ?_
    subst hr
    simp [trA, ndsE]
  refine Br.dec (fun k10 => ?_) (fun k10 => ?_) <;> simp [k10] at hr ⊢
  · refine CallA.snapE (l10Copy_spec hZ t hs) (by simp [trA, ndsE]) (by simp [trA, noShr_nds]) ?_
    subst hr
    simp [trA, ndsE]
  refine Br.dec (fun k1 => ?_) (fun k1 => ?_) <;> simp [k10, k1] at hr ⊢
  · refine CallA.snapE (l12Add_spec hZ t e.path true 0 he.1 h1) (by simp [trA, ndsE]) (by simp [trA, noShr_nds]) ?_
    subst hr
    simp [trA, ndsE]
  refine Br.dec (fun k2 => ?_) (fun k2 => ?_) <;> simp [k10, k1, k2] at hr ⊢
  · refine CallA.snapE (l12Add_spec hZ t e.path false e.who he.1 h1) (by simp [trA, ndsE]) (by simp [trA, noShr_nds]) ?_
    subst hr
    simp [trA, ndsE]
  refine CallA.snapE (FindPath_spec hZ t e.path he.1) (by simp [trA, ndsE]) (by simp) ?_
  simp
  refine Br.dec (fun h4 => ?_) (fun h4 => ?_) <;> simp [h4] at hr ⊢
  · refine CallA.snapE (l10Copy_spec hZ t hs) (by simp [trA, ndsE]) (by simp [trA, noShr_nds]) ?_
    subst hr
    simp [trA, ndsE]
  obtain ⟨j, q, gq, ga, gn⟩ := findP_nd h4
  have hat : atN t.nodes (findP t e.path) = j := by simp [atN, ga]
  rw [gn, hat] at hr
  dsimp only at hr
  refine Br.dec (fun k3 => ?_) (fun k3 => ?_) <;> simp [k10, k1, k2, k3] at hr ⊢
  · refine CallA.snapE (l12Move_spec hZ t e (findP t e.path) he j q gq ga h1) (by simp [trA, ndsE, edA, edE, k3]) (by simp [trA, noShr_nds]) ?_
    subst hr
    simp [trA, ndsE]
  refine Br.dec (fun k4 => ?_) (fun k4 => ?_) <;> simp [k10, k1, k2, k3, k4] at hr ⊢
  · refine CallA.snapE (l12Drop_spec hZ t (findP t e.path) h1) (by simp [trA, ndsE]) (by simp [trA, noShr_nds]) ?_
    subst hr
    simp [trA, ndsE]
  refine Br.dec (fun k5 => ?_) (fun k5 => ?_) <;> simp [k10, k1, k2, k3, k4, k5] at hr ⊢
  · first | refine W_drawB hZ hmo 1 rfl 2 8 [(1, []), (1, []), (1, []), (1, []), (1, []), (2, [1]), (3, [1, 2]), (3, [1, 2])] (by kernel_rfl) ?_ | refine W_drawB hZ hmo 2 rfl 2 8 [(2, []), (2, []), (2, []), (2, []), (2, []), (3, [2]), (4, [2, 3]), (4, [2, 3])] (by kernel_rfl) ?_ | refine W_drawB hZ hmo 3 rfl 2 8 [(3, []), (3, []), (3, []), (3, []), (3, []), (4, [3]), (5, [3, 4]), (5, [3, 4])] (by kernel_rfl) ?_ | refine W_drawB hZ hmo 4 rfl 2 8 [(4, []), (4, []), (4, []), (4, []), (4, []), (5, [4]), (6, [4, 5]), (6, [4, 5])] (by kernel_rfl) ?_ | refine W_drawB hZ hmo 5 rfl 2 8 [(5, []), (5, []), (5, []), (5, []), (5, []), (6, [5]), (7, [5, 6]), (7, [5, 6])] (by kernel_rfl) ?_ | refine W_drawB hZ hmo 6 rfl 2 8 [(6, []), (6, []), (6, []), (6, []), (6, []), (7, [6]), (8, [6, 7]), (8, [6, 7])] (by kernel_rfl) ?_ | refine W_drawB hZ hmo 7 rfl 2 8 [(7, []), (7, []), (7, []), (7, []), (7, []), (8, [7]), (9, [7, 8]), (9, [7, 8])] (by kernel_rfl) ?_ | refine W_drawB hZ hmo 8 rfl 2 8 [(8, []), (8, []), (8, []), (8, []), (8, []), (9, [8]), (10, [8, 9]), (10, [8, 9])] (by kernel_rfl) ?_ | refine W_drawB hZ hmo 9 rfl 2 8 [(9, []), (9, []), (9, []), (9, []), (9, []), (10, [9]), (11, [9, 10]), (11, [9, 10])] (by kernel_rfl) ?_ | refine W_drawB hZ hmo 10 rfl 2 8 [(10, []), (10, []), (10, []), (10, []), (10, []), (11, [10]), (12, [10, 11]), (12, [10, 11])] (by kernel_rfl) ?_ | refine W_drawB hZ hmo 11 rfl 2 8 [(11, []), (11, []), (11, []), (11, []), (11, []), (12, [11]), (13, [11, 12]), (13, [11, 12])] (by kernel_rfl) ?_ | refine W_drawB hZ hmo 12 rfl 2 8 [(12, []), (12, []), (12, []), (12, []), (12, []), (13, [12]), (14, [12, 13]), (14, [12, 13])] (by kernel_rfl) ?_ | refine W_drawB hZ hmo 13 rfl 2 8 [(13, []), (13, []), (13, []), (13, []), (13, []), (14, [13]), (15, [13, 14]), (15, [13, 14])] (by kernel_rfl) ?_ | refine W_drawB hZ hmo 14 rfl 2 8 [(14, []), (14, []), (14, []), (14, []), (14, []), (15, [14]), (16, [14, 15]), (16, [14, 15])] (by kernel_rfl) ?_ | refine W_drawB hZ hmo 15 rfl 2 8 [(15, []), (15, []), (15, []), (15, []), (15, []), (16, [15]), (17, [15, 16]), (17, [15, 16])] (by kernel_rfl) ?_ | refine W_drawB hZ hmo 16 rfl 2 8 [(16, []), (16, []), (16, []), (16, []), (16, []), (17, [16]), (18, [16, 17]), (18, [16, 17])] (by kernel_rfl) ?_ | refine W_drawB hZ hmo 17 rfl 2 8 [(17, []), (17, []), (17, []), (17, []), (17, []), (18, [17]), (19, [17, 18]), (19, [17, 18])] (by kernel_rfl) ?_ | refine W_drawB hZ hmo 18 rfl 2 8 [(18, []), (18, []), (18, []), (18, []), (18, []), (19, [18]), (20, [18, 19]), (20, [18, 19])] (by kernel_rfl) ?_ | refine W_drawB hZ hmo 19 rfl 2 8 [(19, []), (19, []), (19, []), (19, []), (19, []), (20, [19]), (21, [19, 20]), (21, [19, 20])] (by kernel_rfl) ?_ | refine W_drawB hZ hmo 20 rfl 2 8 [(20, []), (20, []), (20, []), (20, []), (20, []), (21, [20]), (22, [20, 21]), (22, [20, 21])] (by kernel_rfl) ?_ | refine W_drawB hZ hmo 21 rfl 2 8 [(21, []), (21, []), (21, []), (21, []), (21, []), (22, [21]), (23, [21, 22]), (23, [21, 22])] (by kernel_rfl) ?_ | refine W_drawB hZ hmo 22 rfl 2 8 [(22, []), (22, []), (22, []), (22, []), (22, []), (23, [22]), (24, [22, 23]), (24, [22, 23])] (by kernel_rfl) ?_ | refine W_drawB hZ hmo 23 rfl 2 8 [(23, []), (23, []), (23, []), (23, []), (23, []), (24, [23]), (25, [23, 24]), (25, [23, 24])] (by kernel_rfl) ?_ | refine W_drawB hZ hmo 24 rfl 2 8 [(24, []), (24, []), (24, []), (24, []), (24, []), (25, [24]), (26, [24, 25]), (26, [24, 25])] (by kernel_rfl) ?_ | refine W_drawB hZ hmo 25 rfl 2 8 [(25, []), (25, []), (25, []), (25, []), (25, []), (26, [25]), (27, [25, 26]), (27, [25, 26])] (by kernel_rfl) ?_ | refine W_drawB hZ hmo 26 rfl 2 8 [(26, []), (26, []), (26, []), (26, []), (26, []), (27, [26]), (28, [26, 27]), (28, [26, 27])] (by kernel_rfl) ?_ | refine W_drawB hZ hmo 27 rfl 2 8 [(27, []), (27, []), (27, []), (27, []), (27, []), (28, [27]), (29, [27, 28]), (29, [27, 28])] (by kernel_rfl) ?_ | refine W_drawB hZ hmo 28 rfl 2 8 [(28, []), (28, []), (28, []), (28, []), (28, []), (29, [28]), (30, [28, 29]), (30, [28, 29])] (by kernel_rfl) ?_ | refine W_drawB hZ hmo 29 rfl 2 8 [(29, []), (29, []), (29, []), (29, []), (29, []), (30, [29]), (31, [29, 30]), (31, [29, 30])] (by kernel_rfl) ?_ | refine W_drawB hZ hmo 30 rfl 2 8 [(30, []), (30, []), (30, []), (30, []), (30, []), (31, [30]), (32, [30, 31]), (32, [30, 31])] (by kernel_rfl) ?_ | refine W_drawB hZ hmo 31 rfl 2 8 [(31, []), (31, []), (31, []), (31, []), (31, []), (32, [31]), (33, [31, 32]), (33, [31, 32])] (by kernel_rfl) ?_
    simp
    refine CallD.snapE (l10At_spec hZ t (findP t e.path)) (by simp [trA, ndsE]) (by simp) ?_
    simp [ga]
    refine CallD.snapE (l12Set_spec hZ t e j q gq h1) (by simp [trA, ndsE, edA, edE, k5]) (by simp [trA, noShr_nds]) ?_
    subst hr
    simp [trA, ndsE]
  refine Br.dec (fun k6 => ?_) (fun k6 => ?_) <;> simp [k10, k1, k2, k3, k4, k5, k6] at hr ⊢
  · first | refine W_drawB hZ hmo 1 rfl 2 8 [(1, []), (1, []), (1, []), (1, []), (1, []), (2, [1]), (3, [1, 2]), (3, [1, 2])] (by kernel_rfl) ?_ | refine W_drawB hZ hmo 2 rfl 2 8 [(2, []), (2, []), (2, []), (2, []), (2, []), (3, [2]), (4, [2, 3]), (4, [2, 3])] (by kernel_rfl) ?_ | refine W_drawB hZ hmo 3 rfl 2 8 [(3, []), (3, []), (3, []), (3, []), (3, []), (4, [3]), (5, [3, 4]), (5, [3, 4])] (by kernel_rfl) ?_ | refine W_drawB hZ hmo 4 rfl 2 8 [(4, []), (4, []), (4, []), (4, []), (4, []), (5, [4]), (6, [4, 5]), (6, [4, 5])] (by kernel_rfl) ?_ | refine W_drawB hZ hmo 5 rfl 2 8 [(5, []), (5, []), (5, []), (5, []), (5, []), (6, [5]), (7, [5, 6]), (7, [5, 6])] (by kernel_rfl) ?_ | refine W_drawB hZ hmo 6 rfl 2 8 [(6, []), (6, []), (6, []), (6, []), (6, []), (7, [6]), (8, [6, 7]), (8, [6, 7])] (by kernel_rfl) ?_ | refine W_drawB hZ hmo 7 rfl 2 8 [(7, []), (7, []), (7, []), (7, []), (7, []), (8, [7]), (9, [7, 8]), (9, [7, 8])] (by kernel_rfl) ?_ | refine W_drawB hZ hmo 8 rfl 2 8 [(8, []), (8, []), (8, []), (8, []), (8, []), (9, [8]), (10, [8, 9]), (10, [8, 9])] (by kernel_rfl) ?_ | refine W_drawB hZ hmo 9 rfl 2 8 [(9, []), (9, []), (9, []), (9, []), (9, []), (10, [9]), (11, [9, 10]), (11, [9, 10])] (by kernel_rfl) ?_ | refine W_drawB hZ hmo 10 rfl 2 8 [(10, []), (10, []), (10, []), (10, []), (10, []), (11, [10]), (12, [10, 11]), (12, [10, 11])] (by kernel_rfl) ?_ | refine W_drawB hZ hmo 11 rfl 2 8 [(11, []), (11, []), (11, []), (11, []), (11, []), (12, [11]), (13, [11, 12]), (13, [11, 12])] (by kernel_rfl) ?_ | refine W_drawB hZ hmo 12 rfl 2 8 [(12, []), (12, []), (12, []), (12, []), (12, []), (13, [12]), (14, [12, 13]), (14, [12, 13])] (by kernel_rfl) ?_ | refine W_drawB hZ hmo 13 rfl 2 8 [(13, []), (13, []), (13, []), (13, []), (13, []), (14, [13]), (15, [13, 14]), (15, [13, 14])] (by kernel_rfl) ?_ | refine W_drawB hZ hmo 14 rfl 2 8 [(14, []), (14, []), (14, []), (14, []), (14, []), (15, [14]), (16, [14, 15]), (16, [14, 15])] (by kernel_rfl) ?_ | refine W_drawB hZ hmo 15 rfl 2 8 [(15, []), (15, []), (15, []), (15, []), (15, []), (16, [15]), (17, [15, 16]), (17, [15, 16])] (by kernel_rfl) ?_ | refine W_drawB hZ hmo 16 rfl 2 8 [(16, []), (16, []), (16, []), (16, []), (16, []), (17, [16]), (18, [16, 17]), (18, [16, 17])] (by kernel_rfl) ?_ | refine W_drawB hZ hmo 17 rfl 2 8 [(17, []), (17, []), (17, []), (17, []), (17, []), (18, [17]), (19, [17, 18]), (19, [17, 18])] (by kernel_rfl) ?_ | refine W_drawB hZ hmo 18 rfl 2 8 [(18, []), (18, []), (18, []), (18, []), (18, []), (19, [18]), (20, [18, 19]), (20, [18, 19])] (by kernel_rfl) ?_ | refine W_drawB hZ hmo 19 rfl 2 8 [(19, []), (19, []), (19, []), (19, []), (19, []), (20, [19]), (21, [19, 20]), (21, [19, 20])] (by kernel_rfl) ?_ | refine W_drawB hZ hmo 20 rfl 2 8 [(20, []), (20, []), (20, []), (20, []), (20, []), (21, [20]), (22, [20, 21]), (22, [20, 21])] (by kernel_rfl) ?_ | refine W_drawB hZ hmo 21 rfl 2 8 [(21, []), (21, []), (21, []), (21, []), (21, []), (22, [21]), (23, [21, 22]), (23, [21, 22])] (by kernel_rfl) ?_ | refine W_drawB hZ hmo 22 rfl 2 8 [(22, []), (22, []), (22, []), (22, []), (22, []), (23, [22]), (24, [22, 23]), (24, [22, 23])] (by kernel_rfl) ?_ | refine W_drawB hZ hmo 23 rfl 2 8 [(23, []), (23, []), (23, []), (23, []), (23, []), (24, [23]), (25, [23, 24]), (25, [23, 24])] (by kernel_rfl) ?_ | refine W_drawB hZ hmo 24 rfl 2 8 [(24, []), (24, []), (24, []), (24, []), (24, []), (25, [24]), (26, [24, 25]), (26, [24, 25])] (by kernel_rfl) ?_ | refine W_drawB hZ hmo 25 rfl 2 8 [(25, []), (25, []), (25, []), (25, []), (25, []), (26, [25]), (27, [25, 26]), (27, [25, 26])] (by kernel_rfl) ?_ | refine W_drawB hZ hmo 26 rfl 2 8 [(26, []), (26, []), (26, []), (26, []), (26, []), (27, [26]), (28, [26, 27]), (28, [26, 27])] (by kernel_rfl) ?_ | refine W_drawB hZ hmo 27 rfl 2 8 [(27, []), (27, []), (27, []), (27, []), (27, []), (28, [27]), (29, [27, 28]), (29, [27, 28])] (by kernel_rfl) ?_ | refine W_drawB hZ hmo 28 rfl 2 8 [(28, []), (28, []), (28, []), (28, []), (28, []), (29, [28]), (30, [28, 29]), (30, [28, 29])] (by kernel_rfl) ?_ | refine W_drawB hZ hmo 29 rfl 2 8 [(29, []), (29, []), (29, []), (29, []), (29, []), (30, [29]), (31, [29, 30]), (31, [29, 30])] (by kernel_rfl) ?_ | refine W_drawB hZ hmo 30 rfl 2 8 [(30, []), (30, []), (30, []), (30, []), (30, []), (31, [30]), (32, [30, 31]), (32, [30, 31])] (by kernel_rfl) ?_ | refine W_drawB hZ hmo 31 rfl 2 8 [(31, []), (31, []), (31, []), (31, []), (31, []), (32, [31]), (33, [31, 32]), (33, [31, 32])] (by kernel_rfl) ?_
    simp
    refine CallD.snapE (l10At_spec hZ t (findP t e.path)) (by simp [trA, ndsE]) (by simp) ?_
    simp [ga]
    refine CallD.snapE (l12Set_spec hZ t e j q gq h1) (by simp [trA, ndsE, edA, edE, k6]) (by simp [trA, noShr_nds]) ?_
    subst hr
    simp [trA, ndsE]
  have hkk := editB_kind h2
  have hn : e.kind ≠ 8 → e.kind ≠ 9 → 1 ≤ e.num ∧ e.num ≤ 200 := fun a b => editB_add h2 (by omega)
  first | refine W_drawB hZ hmo 1 rfl 2 9 [(1, []), (1, []), (1, []), (1, []), (1, []), (2, []), (2, [1]), (3, [1, 2]), (3, [1, 2])] (by kernel_rfl) ?_ | refine W_drawB hZ hmo 2 rfl 2 9 [(2, []), (2, []), (2, []), (2, []), (2, []), (3, []), (3, [2]), (4, [2, 3]), (4, [2, 3])] (by kernel_rfl) ?_ | refine W_drawB hZ hmo 3 rfl 2 9 [(3, []), (3, []), (3, []), (3, []), (3, []), (4, []), (4, [3]), (5, [3, 4]), (5, [3, 4])] (by kernel_rfl) ?_ | refine W_drawB hZ hmo 4 rfl 2 9 [(4, []), (4, []), (4, []), (4, []), (4, []), (5, []), (5, [4]), (6, [4, 5]), (6, [4, 5])] (by kernel_rfl) ?_ | refine W_drawB hZ hmo 5 rfl 2 9 [(5, []), (5, []), (5, []), (5, []), (5, []), (6, []), (6, [5]), (7, [5, 6]), (7, [5, 6])] (by kernel_rfl) ?_ | refine W_drawB hZ hmo 6 rfl 2 9 [(6, []), (6, []), (6, []), (6, []), (6, []), (7, []), (7, [6]), (8, [6, 7]), (8, [6, 7])] (by kernel_rfl) ?_ | refine W_drawB hZ hmo 7 rfl 2 9 [(7, []), (7, []), (7, []), (7, []), (7, []), (8, []), (8, [7]), (9, [7, 8]), (9, [7, 8])] (by kernel_rfl) ?_ | refine W_drawB hZ hmo 8 rfl 2 9 [(8, []), (8, []), (8, []), (8, []), (8, []), (9, []), (9, [8]), (10, [8, 9]), (10, [8, 9])] (by kernel_rfl) ?_ | refine W_drawB hZ hmo 9 rfl 2 9 [(9, []), (9, []), (9, []), (9, []), (9, []), (10, []), (10, [9]), (11, [9, 10]), (11, [9, 10])] (by kernel_rfl) ?_ | refine W_drawB hZ hmo 10 rfl 2 9 [(10, []), (10, []), (10, []), (10, []), (10, []), (11, []), (11, [10]), (12, [10, 11]), (12, [10, 11])] (by kernel_rfl) ?_ | refine W_drawB hZ hmo 11 rfl 2 9 [(11, []), (11, []), (11, []), (11, []), (11, []), (12, []), (12, [11]), (13, [11, 12]), (13, [11, 12])] (by kernel_rfl) ?_ | refine W_drawB hZ hmo 12 rfl 2 9 [(12, []), (12, []), (12, []), (12, []), (12, []), (13, []), (13, [12]), (14, [12, 13]), (14, [12, 13])] (by kernel_rfl) ?_ | refine W_drawB hZ hmo 13 rfl 2 9 [(13, []), (13, []), (13, []), (13, []), (13, []), (14, []), (14, [13]), (15, [13, 14]), (15, [13, 14])] (by kernel_rfl) ?_ | refine W_drawB hZ hmo 14 rfl 2 9 [(14, []), (14, []), (14, []), (14, []), (14, []), (15, []), (15, [14]), (16, [14, 15]), (16, [14, 15])] (by kernel_rfl) ?_ | refine W_drawB hZ hmo 15 rfl 2 9 [(15, []), (15, []), (15, []), (15, []), (15, []), (16, []), (16, [15]), (17, [15, 16]), (17, [15, 16])] (by kernel_rfl) ?_ | refine W_drawB hZ hmo 16 rfl 2 9 [(16, []), (16, []), (16, []), (16, []), (16, []), (17, []), (17, [16]), (18, [16, 17]), (18, [16, 17])] (by kernel_rfl) ?_ | refine W_drawB hZ hmo 17 rfl 2 9 [(17, []), (17, []), (17, []), (17, []), (17, []), (18, []), (18, [17]), (19, [17, 18]), (19, [17, 18])] (by kernel_rfl) ?_ | refine W_drawB hZ hmo 18 rfl 2 9 [(18, []), (18, []), (18, []), (18, []), (18, []), (19, []), (19, [18]), (20, [18, 19]), (20, [18, 19])] (by kernel_rfl) ?_ | refine W_drawB hZ hmo 19 rfl 2 9 [(19, []), (19, []), (19, []), (19, []), (19, []), (20, []), (20, [19]), (21, [19, 20]), (21, [19, 20])] (by kernel_rfl) ?_ | refine W_drawB hZ hmo 20 rfl 2 9 [(20, []), (20, []), (20, []), (20, []), (20, []), (21, []), (21, [20]), (22, [20, 21]), (22, [20, 21])] (by kernel_rfl) ?_ | refine W_drawB hZ hmo 21 rfl 2 9 [(21, []), (21, []), (21, []), (21, []), (21, []), (22, []), (22, [21]), (23, [21, 22]), (23, [21, 22])] (by kernel_rfl) ?_ | refine W_drawB hZ hmo 22 rfl 2 9 [(22, []), (22, []), (22, []), (22, []), (22, []), (23, []), (23, [22]), (24, [22, 23]), (24, [22, 23])] (by kernel_rfl) ?_ | refine W_drawB hZ hmo 23 rfl 2 9 [(23, []), (23, []), (23, []), (23, []), (23, []), (24, []), (24, [23]), (25, [23, 24]), (25, [23, 24])] (by kernel_rfl) ?_ | refine W_drawB hZ hmo 24 rfl 2 9 [(24, []), (24, []), (24, []), (24, []), (24, []), (25, []), (25, [24]), (26, [24, 25]), (26, [24, 25])] (by kernel_rfl) ?_ | refine W_drawB hZ hmo 25 rfl 2 9 [(25, []), (25, []), (25, []), (25, []), (25, []), (26, []), (26, [25]), (27, [25, 26]), (27, [25, 26])] (by kernel_rfl) ?_ | refine W_drawB hZ hmo 26 rfl 2 9 [(26, []), (26, []), (26, []), (26, []), (26, []), (27, []), (27, [26]), (28, [26, 27]), (28, [26, 27])] (by kernel_rfl) ?_ | refine W_drawB hZ hmo 27 rfl 2 9 [(27, []), (27, []), (27, []), (27, []), (27, []), (28, []), (28, [27]), (29, [27, 28]), (29, [27, 28])] (by kernel_rfl) ?_ | refine W_drawB hZ hmo 28 rfl 2 9 [(28, []), (28, []), (28, []), (28, []), (28, []), (29, []), (29, [28]), (30, [28, 29]), (30, [28, 29])] (by kernel_rfl) ?_ | refine W_drawB hZ hmo 29 rfl 2 9 [(29, []), (29, []), (29, []), (29, []), (29, []), (30, []), (30, [29]), (31, [29, 30]), (31, [29, 30])] (by kernel_rfl) ?_ | refine W_drawB hZ hmo 30 rfl 2 9 [(30, []), (30, []), (30, []), (30, []), (30, []), (31, []), (31, [30]), (32, [30, 31]), (32, [30, 31])] (by kernel_rfl) ?_ | refine W_drawB hZ hmo 31 rfl 2 9 [(31, []), (31, []), (31, []), (31, []), (31, []), (32, []), (32, [31]), (33, [31, 32]), (33, [31, 32])] (by kernel_rfl) ?_
  simp
  refine CallD.snapE (l10At_spec hZ t (findP t e.path)) (by simp [trA, ndsE]) (by simp) ?_
  simp [ga]
  refine CallD.snapE (l12Write_spec hZ t e j q g gq h1 hn (by simpa [inB] using h3)) (by simp [trA, ndsE, edA, edE]) (by simp [trA, noShr_nds]) ?_
  subst hr
  simp [trA, ndsE]
end Go.Proofs.Ytbhbkaonlillhaa
