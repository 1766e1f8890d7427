/- The law of Spoil. -/
import Derived.Test.YtbhbkaonlillhaaCUi
namespace Go.Proofs.Ytbhbkaonlillhaa
open Go Go.Abs Go.Proofs Go.Tm
set_option linter.unusedSimpArgs false
set_option linter.unusedVariables false
set_option maxRecDepth 10000
variable {Z : TypeId → Nat} {G : World → Prop} {B0 : Nat}
set_option maxHeartbeats 4000000 in
theorem exSpoil_spec (hZ : ZOk Try.prog Z) (h : Hst) (g k at' : Int) : Does Z Try.prog G B0 3 [hsL h, iA g, iA k, iA at'] [] [] (fun y _ => y = bA true) := by
  refine Does.body hZ Try.func3 rfl rfl (Nat.le_of_ble_eq_true rfl) ?_
  simp [Try.f3, hsL, unsL]
  refine CallA.snap (args' := [hsL h, iA 1048576]) (by simp [hsL, unsL]) (szHost_spec hZ h 1048576 (by omega)) ?_
  rintro y ⟨v, rfl, h1, h2⟩
  refine ⟨by simp, ?_⟩
  simp
  refine Br.dec (fun h3 => ?_) (fun h3 => ?_) <;> simp [h3]
  have hS := h2 (by omega)
  have hL := spoilHst_len h g k at'
  have hP1 := Spoil_spec (G := G) (B0 := B0) hZ h g k at' (by omega)
  have hP2 := iSpoil_spec (G := G) (B0 := B0) hZ h g k at' (by omega)
  generalize spoilHst h g k at' = q at hL hP1 hP2
  obtain ⟨r, b⟩ := q
  dsimp only at hL hP1 hP2
  first | refine CallA.snapE (toHost_spec hZ h hS) (by first | (simp [hsL, unsL]; done) | fail) (by first | (simp [hsA, noShr_uns]; done) | fail) ?_ | refine CallD.snapE (toHost_spec hZ h hS) (by first | (simp [hsL, unsL]; done) | fail) (by first | (simp [hsA, noShr_uns]; done) | fail) ?_
  simp [hsA, unsE]
  first | refine CallA.snapE (hP1) (by first | (simp [hsA, unsE]; done) | fail) (by first | (simp [hsA, noShr_uns]; done) | fail) ?_ | refine CallD.snapE (hP1) (by first | (simp [hsA, unsE]; done) | fail) (by first | (simp [hsA, noShr_uns]; done) | fail) ?_
  simp [hsA, unsE]
  first | refine CallA.snapE (toHost_spec hZ h hS) (by first | (simp [hsL, unsL]; done) | fail) (by first | (simp [hsA, noShr_uns]; done) | fail) ?_ | refine CallD.snapE (toHost_spec hZ h hS) (by first | (simp [hsL, unsL]; done) | fail) (by first | (simp [hsA, noShr_uns]; done) | fail) ?_
  simp [hsA, unsE]
  first | refine CallA.snapE (hP2) (by first | (simp [hsA, unsE]; done) | fail) (by first | (simp [hsA, noShr_uns]; done) | fail) ?_ | refine CallD.snapE (hP2) (by first | (simp [hsA, unsE]; done) | fail) (by first | (simp [hsA, noShr_uns]; done) | fail) ?_
  simp [hsA, unsE]
  refine CallA.snapE (eqHost_spec hZ r r) (by simp [hsA, unsE]) (by simp) ?_
  simp
  first | refine W_drawB hZ hmo 1 rfl 1 3 [(1, []), (1, []), (1, [])] (by kernel_rfl) ?_ | refine W_drawB hZ hmo 2 rfl 1 3 [(2, []), (2, []), (2, [])] (by kernel_rfl) ?_ | refine W_drawB hZ hmo 3 rfl 1 3 [(3, []), (3, []), (3, [])] (by kernel_rfl) ?_ | refine W_drawB hZ hmo 4 rfl 1 3 [(4, []), (4, []), (4, [])] (by kernel_rfl) ?_ | refine W_drawB hZ hmo 5 rfl 1 3 [(5, []), (5, []), (5, [])] (by kernel_rfl) ?_ | refine W_drawB hZ hmo 6 rfl 1 3 [(6, []), (6, []), (6, [])] (by kernel_rfl) ?_ | refine W_drawB hZ hmo 7 rfl 1 3 [(7, []), (7, []), (7, [])] (by kernel_rfl) ?_ | refine W_drawB hZ hmo 8 rfl 1 3 [(8, []), (8, []), (8, [])] (by kernel_rfl) ?_ | refine W_drawB hZ hmo 9 rfl 1 3 [(9, []), (9, []), (9, [])] (by kernel_rfl) ?_ | refine W_drawB hZ hmo 10 rfl 1 3 [(10, []), (10, []), (10, [])] (by kernel_rfl) ?_ | refine W_drawB hZ hmo 11 rfl 1 3 [(11, []), (11, []), (11, [])] (by kernel_rfl) ?_ | refine W_drawB hZ hmo 12 rfl 1 3 [(12, []), (12, []), (12, [])] (by kernel_rfl) ?_ | refine W_drawB hZ hmo 13 rfl 1 3 [(13, []), (13, []), (13, [])] (by kernel_rfl) ?_ | refine W_drawB hZ hmo 14 rfl 1 3 [(14, []), (14, []), (14, [])] (by kernel_rfl) ?_ | refine W_drawB hZ hmo 15 rfl 1 3 [(15, []), (15, []), (15, [])] (by kernel_rfl) ?_ | refine W_drawB hZ hmo 16 rfl 1 3 [(16, []), (16, []), (16, [])] (by kernel_rfl) ?_ | refine W_drawB hZ hmo 17 rfl 1 3 [(17, []), (17, []), (17, [])] (by kernel_rfl) ?_ | refine W_drawB hZ hmo 18 rfl 1 3 [(18, []), (18, []), (18, [])] (by kernel_rfl) ?_ | refine W_drawB hZ hmo 19 rfl 1 3 [(19, []), (19, []), (19, [])] (by kernel_rfl) ?_ | refine W_drawB hZ hmo 20 rfl 1 3 [(20, []), (20, []), (20, [])] (by kernel_rfl) ?_ | refine W_drawB hZ hmo 21 rfl 1 3 [(21, []), (21, []), (21, [])] (by kernel_rfl) ?_ | refine W_drawB hZ hmo 22 rfl 1 3 [(22, []), (22, []), (22, [])] (by kernel_rfl) ?_ | refine W_drawB hZ hmo 23 rfl 1 3 [(23, []), (23, []), (23, [])] (by kernel_rfl) ?_ | refine W_drawB hZ hmo 24 rfl 1 3 [(24, []), (24, []), (24, [])] (by kernel_rfl) ?_ | refine W_drawB hZ hmo 25 rfl 1 3 [(25, []), (25, []), (25, [])] (by kernel_rfl) ?_ | refine W_drawB hZ hmo 26 rfl 1 3 [(26, []), (26, []), (26, [])] (by kernel_rfl) ?_ | refine W_drawB hZ hmo 27 rfl 1 3 [(27, []), (27, []), (27, [])] (by kernel_rfl) ?_ | refine W_drawB hZ hmo 28 rfl 1 3 [(28, []), (28, []), (28, [])] (by kernel_rfl) ?_ | refine W_drawB hZ hmo 29 rfl 1 3 [(29, []), (29, []), (29, [])] (by kernel_rfl) ?_ | refine W_drawB hZ hmo 30 rfl 1 3 [(30, []), (30, []), (30, [])] (by kernel_rfl) ?_ | refine W_drawB hZ hmo 31 rfl 1 3 [(31, []), (31, []), (31, [])] (by kernel_rfl) ?_
  simp
  refine CallD.snapE (toHost_spec hZ h hS) (by simp [hsL, unsL]) (by simp [hsA, noShr_uns]) ?_
  simp [hsA, unsE]
  refine CallA.snapE (eqHost_spec hZ h h) (by simp [hsA, unsE]) (by simp) ?_
  simp
  have hm := marks_un h.units 1 ⟨by omega, by omega⟩
  have hb := marks_un r.units 1 ⟨by omega, by omega⟩
  have hm0 : ¬ (scan mkUn 1 h.units).2 < 0 := by omega
  have hb0 : ¬ (scan mkUn 1 r.units).2 < 0 := by omega
  have hbl := scan_len mkUn r.units 1
  have htk : (((scan mkUn 1 r.units).1.map unE).take r.units.length) = (scan mkUn 1 r.units).1.map unE := by rw [← hbl]; simp
  refine CallA.rowE [(6, 2)] (markHost_spec hZ h 1 (by omega)) (by simp [unsE]) (by simp) ⟨by simp, noShr_uns _⟩ ?_
  simp [hm0, unsE]
  refine CallA.snapE (eqHost_spec hZ r r) (by simp [hsA, unsE]) (by simp) ?_
  simp
  refine CallA.rowE [(8, 2)] (markHost_spec hZ r 1 (by omega)) (by simp [unsE]) (by simp) ⟨by simp, noShr_uns _⟩ ?_
  simp [unsE, hbl]
  refine CallA.snapE (heldHost_spec hZ ⟨r.id, r.up, (scan mkUn 1 r.units).1⟩ 1 (by omega) (by rw [hb.1]; exact hb.2)) (by simp [hsA, unsE, htk]) (by simp) ?_
  simp [hb.1, hb0]
  first | refine CallA.snapE (toHost_spec hZ h hS) (by first | (simp [hsL, unsL]; done) | fail) (by first | (simp [hsA, noShr_uns]; done) | fail) ?_ | refine CallD.snapE (toHost_spec hZ h hS) (by first | (simp [hsL, unsL]; done) | fail) (by first | (simp [hsA, noShr_uns]; done) | fail) ?_
  simp [hsA, unsE]
  first | refine CallA.snapE (hP2) (by first | (simp [hsA, unsE]; done) | fail) (by first | (simp [hsA, noShr_uns]; done) | fail) ?_ | refine CallD.snapE (hP2) (by first | (simp [hsA, unsE]; done) | fail) (by first | (simp [hsA, noShr_uns]; done) | fail) ?_
  simp [hsA, unsE]
  refine CallA.snapE (eqHost_spec hZ r r) (by simp [hsA, unsE]) (by simp) ?_
  simp
  refine CallA.snapE (heldHost_spec hZ ⟨r.id, r.up, (scan mkUn 1 r.units).1⟩ 1 (by omega) (by rw [hb.1]; exact hb.2)) (by simp [hsA, unsE, htk]) (by simp) ?_
  simp [hb.1, hb0]
end Go.Proofs.Ytbhbkaonlillhaa
