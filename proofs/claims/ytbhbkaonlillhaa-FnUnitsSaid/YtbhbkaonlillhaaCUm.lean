/- The law of units. -/
import Derived.Test.YtbhbkaonlillhaaCUl
import Derived.Test.YtbhbkaonlillhaaCUf
namespace Go.Proofs.Ytbhbkaonlillhaa
open Go Go.Abs Go.Proofs Go.Tm
set_option linter.unusedSimpArgs false
set_option linter.unusedVariables false
set_option maxRecDepth 10000
variable {Z : TypeId → Nat} {G : World → Prop} {B0 : Nat}
theorem getHst_down (id : Int) (l : List Un) (g k : Int) : getHst ⟨id, false, l⟩ g k = (⟨#[]⟩, false) := by
  unfold getHst
  split
  · rw [if_neg (by simp)]
  · rfl
theorem units_key {hid : Int} {l : List Un} (hok : okHst ⟨hid, true, l⟩ = true) (g k : Int) (t : ByteArray) (hg : inB g 1 100000 = true) (hk : inB k 0 5 = true) (hts : t.size ≤ 8 ∧ t.size ≠ 0) (p3 : Int) (h3 : 0 ≤ p3) : ∃ M1 M2 M3 : List Un,
    putHst ⟨hid, true, l⟩ ⟨g, k, t, 0⟩ = (⟨hid, true, M1⟩, true) ∧ okHst ⟨hid, true, M1⟩ = true ∧ getHst ⟨hid, true, M1⟩ g k = (t, true) ∧
    spoilHst ⟨hid, true, M1⟩ g k p3 = (⟨hid, true, M2⟩, true) ∧ okHst ⟨hid, true, M2⟩ = true ∧ getHst ⟨hid, true, M2⟩ g k = (⟨#[]⟩, false) ∧ (spoilHst ⟨hid, true, M2⟩ g k p3).2 = false ∧
    dropHst ⟨hid, true, M1⟩ g k = (⟨hid, true, M3⟩, true) ∧ okHst ⟨hid, true, M3⟩ = true ∧ (getHst ⟨hid, true, M3⟩ g k).2 = false ∧
    (∀ g' i' : Int, ¬ (g' = g ∧ i' = k) → getHst ⟨hid, true, M3⟩ g' i' = getHst ⟨hid, true, l⟩ g' i') ∧ M3.length + 1 = M1.length ∧ M1.length ≤ l.length + 1 ∧ M2.length = M1.length := by
  have hu : unB (sumd ⟨g, k, t, 0⟩) = true := by
    have := sumV_W t
    have h200 : t.size ≤ 200 := by omega
    unfold W32 at this
    simp [unB, sumd, h200, inB, this.1, this.2]
    exact ⟨hg, hk⟩
  obtain ⟨A, B, q1, q2, q3, q4, q5, q6, q7, q8⟩ := units_put hok rfl hu hts.2
  obtain ⟨r1, r2, r3, r4⟩ := q4 p3 h3
  have l1 := putHst_len ⟨hid, true, l⟩ ⟨g, k, t, 0⟩
  rw [q1] at l1
  exact ⟨_, _, _, q1, q2, q3, r1, r2, r3, r4, q5, q6, q7, q8, by simp; omega, l1, by simp⟩
set_option maxHeartbeats 2000000 in
theorem exUnits_spec (hZ : ZOk Try.prog Z) (b : List Int) : Does Z Try.prog G B0 5 [.c (byE b)] [] [] (fun y _ => y = bA true) := by
  refine Does.bodyF hZ Try.func5 rfl rfl (Nat.le_of_ble_eq_true rfl) fun hf => ?_
  simp [Try.f5, byE]
  have hB := big_spec (Z := Z) (G := G) (B0 := B0) hZ b
  have hH := DrawHost_spec (Z := Z) (G := G) (B0 := B0) hZ b
  have hD := DrawPlaces_spec (Z := Z) (G := G) (B0 := B0) hZ b
  unfold byE at hB hH hD
  refine CallA.clos (by simp) hB ?_
  rintro y ⟨v, rfl⟩
  simp
  refine Br.bool (fun c1 => ?_) (fun c1 => ?_) <;> simp [c1]
  refine CallA.clos (by simp) hH ?_
  rintro y ⟨⟨hid, hup, l⟩, rfl, ⟨hok, hlen⟩, hup2⟩
  dsimp only at hlen hup2
  subst hup2
  simp [hsA, unsE]
  refine CallA.clos (by simp) hD ?_
  rintro y ⟨p, rfl, hpl, hpr⟩
  obtain ⟨p0, p1, p2, p3, pr, rfl⟩ : ∃ p0 p1 p2 p3 pr, p = p0 :: p1 :: p2 :: p3 :: pr := by
    match p, hpl with
    | p0 :: p1 :: p2 :: p3 :: pr, _ => exact ⟨_, _, _, _, _, rfl⟩
  have h0 := hpr p0 (by simp)
  have h1 := hpr p1 (by simp)
  have h2 := hpr p2 (by simp)
  have h3 := hpr p3 (by simp)
  clear hpr hB hH hD hf
  have hpl8 : pr.length = 8 := by simpa using hpl
  have m1 := tmod_lt (a := p0) (n := 4) (by omega) h0.1
  have m2 := tmod_lt (a := p1) (n := 5) (by omega) h1.1
  have e1 : IntKind.i64.wrap (1 + p0.tmod 4) = 1 + p0.tmod 4 := wrap_i64 (by omega)
  have hds := decV_size p2
  have hDec := Decimal_spec (G := G) (B0 := B0) hZ p2 h2
  generalize decV p2 = tx at hds hDec
  simp [intsE]
  refine W_draw hZ hmo 2 16 [(4, []), (4, []), (4, []), (4, []), (4, []), (4, []), (4, []), (4, []), (4, []), (4, []), (4, []), (4, []), (4, []), (5, [4]), (5, [4]), (5, [])] (by kernel_rfl) ?_
  simp [hpl8]
  refine CallD.closE hDec (by simp) ?_
  have hz1 : ((⟨#[117, 110, 105, 116]⟩ : ByteArray) ++ tx).size = 4 + tx.size := by rw [ByteArray.size_append]; rfl
  simp [hpl8, e1, hz1]
  refine Need.mk (by omega) ?_
  simp [hpl8, e1, hz1]
  have hg : inB (1 + p0.tmod 4) 1 100000 = true := by simp [inB]; omega
  have hk : inB (p1.tmod 5) 0 5 = true := by simp [inB]; omega
  have hts : (⟨#[117, 110, 105, 116]⟩ ++ tx).size ≤ 8 ∧ (⟨#[117, 110, 105, 116]⟩ ++ tx).size ≠ 0 := by omega
  clear hDec hz1 m1 m2 e1
  generalize 1 + p0.tmod 4 = g at *
  generalize p1.tmod 5 = k at *
  generalize (⟨#[117, 110, 105, 116]⟩ ++ tx) = t at *
  obtain ⟨M1, M2, M3, q1, q2, q3, q4, q5, q6, q7, q8, q9, q10, q11, l1, l2, l3⟩ := units_key hok g k t hg hk hts p3 h3.1
  have hP := iPutUnit_spec (G := G) (B0 := B0) hZ ⟨hid, true, l⟩ ⟨g, k, t, 0⟩ (by dsimp only; omega)
  rw [q1] at hP
  first | refine CallA.snapE (hP) (by first | (simp [hsA, unsE, unA, unE]; done) | fail) (by first | (simp [hsA, noShr_uns]; done) | fail) ?_ | refine CallD.snapE (hP) (by first | (simp [hsA, unsE, unA, unE]; done) | fail) (by first | (simp [hsA, noShr_uns]; done) | fail) ?_
  simp [hsA, unsE]
  have hG := iGetUnit_spec (G := G) (B0 := B0) hZ ⟨hid, true, M1⟩ g k
  rw [q3] at hG
  first | refine CallA.snapE (hG) (by first | (simp [hsA, unsE]; done) | fail) (by first | (simp []; done) | fail) ?_ | refine CallD.snapE (hG) (by first | (simp [hsA, unsE]; done) | fail) (by first | (simp []; done) | fail) ?_
  simp
  have hS1 := iSpoil_spec (G := G) (B0 := B0) hZ ⟨hid, true, M1⟩ g k p3 (by dsimp only; omega)
  rw [q4] at hS1
  first | refine W_drawMB hZ hmo 1 rfl 2 13 [(1, []), (1, []), (1, []), (1, []), (1, []), (1, []), (1, []), (1, []), (1, []), (2, [1]), (2, [1]), (2, [1]), (2, [])] [11] 3 (by kernel_rfl) rfl ?_ | refine W_drawMB hZ hmo 2 rfl 2 13 [(2, []), (2, []), (2, []), (2, []), (2, []), (2, []), (2, []), (2, []), (2, []), (3, [2]), (3, [2]), (3, [2]), (3, [])] [11] 4 (by kernel_rfl) rfl ?_ | refine W_drawMB hZ hmo 3 rfl 2 13 [(3, []), (3, []), (3, []), (3, []), (3, []), (3, []), (3, []), (3, []), (3, []), (4, [3]), (4, [3]), (4, [3]), (4, [])] [11] 5 (by kernel_rfl) rfl ?_ | refine W_drawMB hZ hmo 4 rfl 2 13 [(4, []), (4, []), (4, []), (4, []), (4, []), (4, []), (4, []), (4, []), (4, []), (5, [4]), (5, [4]), (5, [4]), (5, [])] [11] 6 (by kernel_rfl) rfl ?_ | refine W_drawMB hZ hmo 5 rfl 2 13 [(5, []), (5, []), (5, []), (5, []), (5, []), (5, []), (5, []), (5, []), (5, []), (6, [5]), (6, [5]), (6, [5]), (6, [])] [11] 7 (by kernel_rfl) rfl ?_ | refine W_drawMB hZ hmo 6 rfl 2 13 [(6, []), (6, []), (6, []), (6, []), (6, []), (6, []), (6, []), (6, []), (6, []), (7, [6]), (7, [6]), (7, [6]), (7, [])] [11] 8 (by kernel_rfl) rfl ?_ | refine W_drawMB hZ hmo 7 rfl 2 13 [(7, []), (7, []), (7, []), (7, []), (7, []), (7, []), (7, []), (7, []), (7, []), (8, [7]), (8, [7]), (8, [7]), (8, [])] [11] 9 (by kernel_rfl) rfl ?_ | refine W_drawMB hZ hmo 8 rfl 2 13 [(8, []), (8, []), (8, []), (8, []), (8, []), (8, []), (8, []), (8, []), (8, []), (9, [8]), (9, [8]), (9, [8]), (9, [])] [11] 10 (by kernel_rfl) rfl ?_ | refine W_drawMB hZ hmo 9 rfl 2 13 [(9, []), (9, []), (9, []), (9, []), (9, []), (9, []), (9, []), (9, []), (9, []), (10, [9]), (10, [9]), (10, [9]), (10, [])] [11] 11 (by kernel_rfl) rfl ?_ | refine W_drawMB hZ hmo 10 rfl 2 13 [(10, []), (10, []), (10, []), (10, []), (10, []), (10, []), (10, []), (10, []), (10, []), (11, [10]), (11, [10]), (11, [10]), (11, [])] [11] 12 (by kernel_rfl) rfl ?_ | refine W_drawMB hZ hmo 11 rfl 2 13 [(11, []), (11, []), (11, []), (11, []), (11, []), (11, []), (11, []), (11, []), (11, []), (12, [11]), (12, [11]), (12, [11]), (12, [])] [11] 13 (by kernel_rfl) rfl ?_ | refine W_drawMB hZ hmo 12 rfl 2 13 [(12, []), (12, []), (12, []), (12, []), (12, []), (12, []), (12, []), (12, []), (12, []), (13, [12]), (13, [12]), (13, [12]), (13, [])] [11] 14 (by kernel_rfl) rfl ?_ | refine W_drawMB hZ hmo 13 rfl 2 13 [(13, []), (13, []), (13, []), (13, []), (13, []), (13, []), (13, []), (13, []), (13, []), (14, [13]), (14, [13]), (14, [13]), (14, [])] [11] 15 (by kernel_rfl) rfl ?_ | refine W_drawMB hZ hmo 14 rfl 2 13 [(14, []), (14, []), (14, []), (14, []), (14, []), (14, []), (14, []), (14, []), (14, []), (15, [14]), (15, [14]), (15, [14]), (15, [])] [11] 16 (by kernel_rfl) rfl ?_ | refine W_drawMB hZ hmo 15 rfl 2 13 [(15, []), (15, []), (15, []), (15, []), (15, []), (15, []), (15, []), (15, []), (15, []), (16, [15]), (16, [15]), (16, [15]), (16, [])] [11] 17 (by kernel_rfl) rfl ?_ | refine W_drawMB hZ hmo 16 rfl 2 13 [(16, []), (16, []), (16, []), (16, []), (16, []), (16, []), (16, []), (16, []), (16, []), (17, [16]), (17, [16]), (17, [16]), (17, [])] [11] 18 (by kernel_rfl) rfl ?_ | refine W_drawMB hZ hmo 17 rfl 2 13 [(17, []), (17, []), (17, []), (17, []), (17, []), (17, []), (17, []), (17, []), (17, []), (18, [17]), (18, [17]), (18, [17]), (18, [])] [11] 19 (by kernel_rfl) rfl ?_ | refine W_drawMB hZ hmo 18 rfl 2 13 [(18, []), (18, []), (18, []), (18, []), (18, []), (18, []), (18, []), (18, []), (18, []), (19, [18]), (19, [18]), (19, [18]), (19, [])] [11] 20 (by kernel_rfl) rfl ?_ | refine W_drawMB hZ hmo 19 rfl 2 13 [(19, []), (19, []), (19, []), (19, []), (19, []), (19, []), (19, []), (19, []), (19, []), (20, [19]), (20, [19]), (20, [19]), (20, [])] [11] 21 (by kernel_rfl) rfl ?_ | refine W_drawMB hZ hmo 20 rfl 2 13 [(20, []), (20, []), (20, []), (20, []), (20, []), (20, []), (20, []), (20, []), (20, []), (21, [20]), (21, [20]), (21, [20]), (21, [])] [11] 22 (by kernel_rfl) rfl ?_ | refine W_drawMB hZ hmo 21 rfl 2 13 [(21, []), (21, []), (21, []), (21, []), (21, []), (21, []), (21, []), (21, []), (21, []), (22, [21]), (22, [21]), (22, [21]), (22, [])] [11] 23 (by kernel_rfl) rfl ?_ | refine W_drawMB hZ hmo 22 rfl 2 13 [(22, []), (22, []), (22, []), (22, []), (22, []), (22, []), (22, []), (22, []), (22, []), (23, [22]), (23, [22]), (23, [22]), (23, [])] [11] 24 (by kernel_rfl) rfl ?_ | refine W_drawMB hZ hmo 23 rfl 2 13 [(23, []), (23, []), (23, []), (23, []), (23, []), (23, []), (23, []), (23, []), (23, []), (24, [23]), (24, [23]), (24, [23]), (24, [])] [11] 25 (by kernel_rfl) rfl ?_ | refine W_drawMB hZ hmo 24 rfl 2 13 [(24, []), (24, []), (24, []), (24, []), (24, []), (24, []), (24, []), (24, []), (24, []), (25, [24]), (25, [24]), (25, [24]), (25, [])] [11] 26 (by kernel_rfl) rfl ?_ | refine W_drawMB hZ hmo 25 rfl 2 13 [(25, []), (25, []), (25, []), (25, []), (25, []), (25, []), (25, []), (25, []), (25, []), (26, [25]), (26, [25]), (26, [25]), (26, [])] [11] 27 (by kernel_rfl) rfl ?_ | refine W_drawMB hZ hmo 26 rfl 2 13 [(26, []), (26, []), (26, []), (26, []), (26, []), (26, []), (26, []), (26, []), (26, []), (27, [26]), (27, [26]), (27, [26]), (27, [])] [11] 28 (by kernel_rfl) rfl ?_ | refine W_drawMB hZ hmo 27 rfl 2 13 [(27, []), (27, []), (27, []), (27, []), (27, []), (27, []), (27, []), (27, []), (27, []), (28, [27]), (28, [27]), (28, [27]), (28, [])] [11] 29 (by kernel_rfl) rfl ?_ | refine W_drawMB hZ hmo 28 rfl 2 13 [(28, []), (28, []), (28, []), (28, []), (28, []), (28, []), (28, []), (28, []), (28, []), (29, [28]), (29, [28]), (29, [28]), (29, [])] [11] 30 (by kernel_rfl) rfl ?_ | refine W_drawMB hZ hmo 29 rfl 2 13 [(29, []), (29, []), (29, []), (29, []), (29, []), (29, []), (29, []), (29, []), (29, []), (30, [29]), (30, [29]), (30, [29]), (30, [])] [11] 31 (by kernel_rfl) rfl ?_ | refine W_drawMB hZ hmo 30 rfl 2 13 [(30, []), (30, []), (30, []), (30, []), (30, []), (30, []), (30, []), (30, []), (30, []), (31, [30]), (31, [30]), (31, [30]), (31, [])] [11] 32 (by kernel_rfl) rfl ?_ | refine W_drawMB hZ hmo 31 rfl 2 13 [(31, []), (31, []), (31, []), (31, []), (31, []), (31, []), (31, []), (31, []), (31, []), (32, [31]), (32, [31]), (32, [31]), (32, [])] [11] 33 (by kernel_rfl) rfl ?_
  simp [hpl8]
  refine CallD.snapE hS1 (by simp [hsA, unsE]) (by simp [hsA, noShr_uns]) ?_
  simp [hsA, unsE]
  have hG2 := iGetUnit_spec (G := G) (B0 := B0) hZ ⟨hid, true, M2⟩ g k
  rw [q6] at hG2
  first | refine CallA.snapE (hG2) (by first | (simp [hsA, unsE]; done) | fail) (by first | (simp []; done) | fail) ?_ | refine CallD.snapE (hG2) (by first | (simp [hsA, unsE]; done) | fail) (by first | (simp []; done) | fail) ?_
  simp
  have hS2 := iSpoil_spec (G := G) (B0 := B0) hZ ⟨hid, true, M2⟩ g k p3 (by dsimp only; omega)
  generalize spoilHst ⟨hid, true, M2⟩ g k p3 = q at q7 hS2
  obtain ⟨⟨xi, xu, xl⟩, xb⟩ := q
  dsimp only at q7
  subst q7
  first | refine W_drawMB hZ hmo 1 rfl 2 13 [(1, []), (1, []), (1, []), (1, []), (1, []), (1, []), (1, []), (1, []), (1, []), (2, [1]), (2, [1]), (2, [1]), (2, [])] [11] 3 (by kernel_rfl) rfl ?_ | refine W_drawMB hZ hmo 2 rfl 2 13 [(2, []), (2, []), (2, []), (2, []), (2, []), (2, []), (2, []), (2, []), (2, []), (3, [2]), (3, [2]), (3, [2]), (3, [])] [11] 4 (by kernel_rfl) rfl ?_ | refine W_drawMB hZ hmo 3 rfl 2 13 [(3, []), (3, []), (3, []), (3, []), (3, []), (3, []), (3, []), (3, []), (3, []), (4, [3]), (4, [3]), (4, [3]), (4, [])] [11] 5 (by kernel_rfl) rfl ?_ | refine W_drawMB hZ hmo 4 rfl 2 13 [(4, []), (4, []), (4, []), (4, []), (4, []), (4, []), (4, []), (4, []), (4, []), (5, [4]), (5, [4]), (5, [4]), (5, [])] [11] 6 (by kernel_rfl) rfl ?_ | refine W_drawMB hZ hmo 5 rfl 2 13 [(5, []), (5, []), (5, []), (5, []), (5, []), (5, []), (5, []), (5, []), (5, []), (6, [5]), (6, [5]), (6, [5]), (6, [])] [11] 7 (by kernel_rfl) rfl ?_ | refine W_drawMB hZ hmo 6 rfl 2 13 [(6, []), (6, []), (6, []), (6, []), (6, []), (6, []), (6, []), (6, []), (6, []), (7, [6]), (7, [6]), (7, [6]), (7, [])] [11] 8 (by kernel_rfl) rfl ?_ | refine W_drawMB hZ hmo 7 rfl 2 13 [(7, []), (7, []), (7, []), (7, []), (7, []), (7, []), (7, []), (7, []), (7, []), (8, [7]), (8, [7]), (8, [7]), (8, [])] [11] 9 (by kernel_rfl) rfl ?_ | refine W_drawMB hZ hmo 8 rfl 2 13 [(8, []), (8, []), (8, []), (8, []), (8, []), (8, []), (8, []), (8, []), (8, []), (9, [8]), (9, [8]), (9, [8]), (9, [])] [11] 10 (by kernel_rfl) rfl ?_ | refine W_drawMB hZ hmo 9 rfl 2 13 [(9, []), (9, []), (9, []), (9, []), (9, []), (9, []), (9, []), (9, []), (9, []), (10, [9]), (10, [9]), (10, [9]), (10, [])] [11] 11 (by kernel_rfl) rfl ?_ | refine W_drawMB hZ hmo 10 rfl 2 13 [(10, []), (10, []), (10, []), (10, []), (10, []), (10, []), (10, []), (10, []), (10, []), (11, [10]), (11, [10]), (11, [10]), (11, [])] [11] 12 (by kernel_rfl) rfl ?_ | refine W_drawMB hZ hmo 11 rfl 2 13 [(11, []), (11, []), (11, []), (11, []), (11, []), (11, []), (11, []), (11, []), (11, []), (12, [11]), (12, [11]), (12, [11]), (12, [])] [11] 13 (by kernel_rfl) rfl ?_ | refine W_drawMB hZ hmo 12 rfl 2 13 [(12, []), (12, []), (12, []), (12, []), (12, []), (12, []), (12, []), (12, []), (12, []), (13, [12]), (13, [12]), (13, [12]), (13, [])] [11] 14 (by kernel_rfl) rfl ?_ | refine W_drawMB hZ hmo 13 rfl 2 13 [(13, []), (13, []), (13, []), (13, []), (13, []), (13, []), (13, []), (13, []), (13, []), (14, [13]), (14, [13]), (14, [13]), (14, [])] [11] 15 (by kernel_rfl) rfl ?_ | refine W_drawMB hZ hmo 14 rfl 2 13 [(14, []), (14, []), (14, []), (14, []), (14, []), (14, []), (14, []), (14, []), (14, []), (15, [14]), (15, [14]), (15, [14]), (15, [])] [11] 16 (by kernel_rfl) rfl ?_ | refine W_drawMB hZ hmo 15 rfl 2 13 [(15, []), (15, []), (15, []), (15, []), (15, []), (15, []), (15, []), (15, []), (15, []), (16, [15]), (16, [15]), (16, [15]), (16, [])] [11] 17 (by kernel_rfl) rfl ?_ | refine W_drawMB hZ hmo 16 rfl 2 13 [(16, []), (16, []), (16, []), (16, []), (16, []), (16, []), (16, []), (16, []), (16, []), (17, [16]), (17, [16]), (17, [16]), (17, [])] [11] 18 (by kernel_rfl) rfl ?_ | refine W_drawMB hZ hmo 17 rfl 2 13 [(17, []), (17, []), (17, []), (17, []), (17, []), (17, []), (17, []), (17, []), (17, []), (18, [17]), (18, [17]), (18, [17]), (18, [])] [11] 19 (by kernel_rfl) rfl ?_ | refine W_drawMB hZ hmo 18 rfl 2 13 [(18, []), (18, []), (18, []), (18, []), (18, []), (18, []), (18, []), (18, []), (18, []), (19, [18]), (19, [18]), (19, [18]), (19, [])] [11] 20 (by kernel_rfl) rfl ?_ | refine W_drawMB hZ hmo 19 rfl 2 13 [(19, []), (19, []), (19, []), (19, []), (19, []), (19, []), (19, []), (19, []), (19, []), (20, [19]), (20, [19]), (20, [19]), (20, [])] [11] 21 (by kernel_rfl) rfl ?_ | refine W_drawMB hZ hmo 20 rfl 2 13 [(20, []), (20, []), (20, []), (20, []), (20, []), (20, []), (20, []), (20, []), (20, []), (21, [20]), (21, [20]), (21, [20]), (21, [])] [11] 22 (by kernel_rfl) rfl ?_ | refine W_drawMB hZ hmo 21 rfl 2 13 [(21, []), (21, []), (21, []), (21, []), (21, []), (21, []), (21, []), (21, []), (21, []), (22, [21]), (22, [21]), (22, [21]), (22, [])] [11] 23 (by kernel_rfl) rfl ?_ | refine W_drawMB hZ hmo 22 rfl 2 13 [(22, []), (22, []), (22, []), (22, []), (22, []), (22, []), (22, []), (22, []), (22, []), (23, [22]), (23, [22]), (23, [22]), (23, [])] [11] 24 (by kernel_rfl) rfl ?_ | refine W_drawMB hZ hmo 23 rfl 2 13 [(23, []), (23, []), (23, []), (23, []), (23, []), (23, []), (23, []), (23, []), (23, []), (24, [23]), (24, [23]), (24, [23]), (24, [])] [11] 25 (by kernel_rfl) rfl ?_ | refine W_drawMB hZ hmo 24 rfl 2 13 [(24, []), (24, []), (24, []), (24, []), (24, []), (24, []), (24, []), (24, []), (24, []), (25, [24]), (25, [24]), (25, [24]), (25, [])] [11] 26 (by kernel_rfl) rfl ?_ | refine W_drawMB hZ hmo 25 rfl 2 13 [(25, []), (25, []), (25, []), (25, []), (25, []), (25, []), (25, []), (25, []), (25, []), (26, [25]), (26, [25]), (26, [25]), (26, [])] [11] 27 (by kernel_rfl) rfl ?_ | refine W_drawMB hZ hmo 26 rfl 2 13 [(26, []), (26, []), (26, []), (26, []), (26, []), (26, []), (26, []), (26, []), (26, []), (27, [26]), (27, [26]), (27, [26]), (27, [])] [11] 28 (by kernel_rfl) rfl ?_ | refine W_drawMB hZ hmo 27 rfl 2 13 [(27, []), (27, []), (27, []), (27, []), (27, []), (27, []), (27, []), (27, []), (27, []), (28, [27]), (28, [27]), (28, [27]), (28, [])] [11] 29 (by kernel_rfl) rfl ?_ | refine W_drawMB hZ hmo 28 rfl 2 13 [(28, []), (28, []), (28, []), (28, []), (28, []), (28, []), (28, []), (28, []), (28, []), (29, [28]), (29, [28]), (29, [28]), (29, [])] [11] 30 (by kernel_rfl) rfl ?_ | refine W_drawMB hZ hmo 29 rfl 2 13 [(29, []), (29, []), (29, []), (29, []), (29, []), (29, []), (29, []), (29, []), (29, []), (30, [29]), (30, [29]), (30, [29]), (30, [])] [11] 31 (by kernel_rfl) rfl ?_ | refine W_drawMB hZ hmo 30 rfl 2 13 [(30, []), (30, []), (30, []), (30, []), (30, []), (30, []), (30, []), (30, []), (30, []), (31, [30]), (31, [30]), (31, [30]), (31, [])] [11] 32 (by kernel_rfl) rfl ?_ | refine W_drawMB hZ hmo 31 rfl 2 13 [(31, []), (31, []), (31, []), (31, []), (31, []), (31, []), (31, []), (31, []), (31, []), (32, [31]), (32, [31]), (32, [31]), (32, [])] [11] 33 (by kernel_rfl) rfl ?_
  simp [hpl8]
  refine CallD.snapE hS2 (by simp [hsA, unsE]) (by simp [hsA, noShr_uns]) ?_
  simp [hsA, unsE]
  have hDr := iDropUnit_spec (G := G) (B0 := B0) hZ ⟨hid, true, M1⟩ g k (by dsimp only; omega)
  rw [q8] at hDr
  first | refine CallA.snapE (hDr) (by first | (simp [hsA, unsE]; done) | fail) (by first | (simp [hsA, noShr_uns]; done) | fail) ?_ | refine CallD.snapE (hDr) (by first | (simp [hsA, unsE]; done) | fail) (by first | (simp [hsA, noShr_uns]; done) | fail) ?_
  simp [hsA, unsE]
  have hG3 := iGetUnit_spec (G := G) (B0 := B0) hZ ⟨hid, true, M3⟩ g k
  generalize getHst ⟨hid, true, M3⟩ g k = q at q10 hG3
  obtain ⟨gt, gb⟩ := q
  dsimp only at q10
  subst q10
  first | refine CallA.snapE (hG3) (by first | (simp [hsA, unsE]; done) | fail) (by first | (simp []; done) | fail) ?_ | refine CallD.snapE (hG3) (by first | (simp [hsA, unsE]; done) | fail) (by first | (simp []; done) | fail) ?_
  simp
  have hO1 := iHostOk_spec (G := G) (B0 := B0) hZ ⟨hid, true, M1⟩
  have hO2 := iHostOk_spec (G := G) (B0 := B0) hZ ⟨hid, true, M2⟩
  have hO3 := iHostOk_spec (G := G) (B0 := B0) hZ ⟨hid, true, M3⟩
  rw [q2] at hO1
  rw [q5] at hO2
  rw [q9] at hO3
  first | refine CallA.snapE (hO1) (by first | (simp [hsA, unsE]; done) | fail) (by first | (simp []; done) | fail) ?_ | refine CallD.snapE (hO1) (by first | (simp [hsA, unsE]; done) | fail) (by first | (simp []; done) | fail) ?_
  simp
  first | refine CallA.snapE (hO2) (by first | (simp [hsA, unsE]; done) | fail) (by first | (simp []; done) | fail) ?_ | refine CallD.snapE (hO2) (by first | (simp [hsA, unsE]; done) | fail) (by first | (simp []; done) | fail) ?_
  simp
  first | refine CallA.snapE (hO3) (by first | (simp [hsA, unsE]; done) | fail) (by first | (simp []; done) | fail) ?_ | refine CallD.snapE (hO3) (by first | (simp [hsA, unsE]; done) | fail) (by first | (simp []; done) | fail) ?_
  simp
  refine LoopA.run hZ (fun i : Nat => ⟨238, [(3, .ptr [(0, 0)]), (5, .ptr [(1, 0)]), (6, .ptr [(2, 0)]), (8, sA t), (16, .ptr [(3, 0)]), (20, iA i)], [[iC hid, bC true, unsE true l], [iC g, iC k, sC t, iC 0], [iC hid, bC true, unsE true M1], [iC hid, bC true, unsE true M3]], [true, true, true, true]⟩) (fun i => i ≤ l.length) (fun i => l.length - i) 0 (by simp) (by first | exact Sub.by [2, 5, 7, 15] (by first | (simp [unsE]; done) | fail)) fun i hi => ?_
  simp [unsE]
  refine Br.dec (fun h => ?_) (fun h => ?_) <;> simp [h]
  · have hx : l[i]? = some l[i] := List.getElem?_eq_getElem h
    have hw : IntKind.i64.wrap ((i : Int) + 1) = ((i + 1 : Nat) : Int) := wrap_i64 (by omega)
    generalize l[i] = x at hx
    simp [hx, unE]
    have hne : ¬ (x.group = g ∧ x.index = k) →
        Does Z Try.prog G B0 28 [hsA false ⟨hid, true, l⟩, iA x.group, iA x.index] [] [] (fun y _ => y = .tup [sA (getHst ⟨hid, true, l⟩ x.group x.index).1, bA (getHst ⟨hid, true, l⟩ x.group x.index).2]) ∧
        Does Z Try.prog G B0 25 [hsA false ⟨hid, true, M3⟩, iA x.group, iA x.index] [] [] (fun y _ => y = .tup [sA (getHst ⟨hid, true, l⟩ x.group x.index).1, bA (getHst ⟨hid, true, l⟩ x.group x.index).2]) := fun hne => by
      have h1 := GetUnit_spec (G := G) (B0 := B0) hZ ⟨hid, true, l⟩ x.group x.index
      have h2 := iGetUnit_spec (G := G) (B0 := B0) hZ ⟨hid, true, M3⟩ x.group x.index
      rw [q11 _ _ hne] at h2
      exact ⟨h1, h2⟩
    generalize getHst ⟨hid, true, l⟩ x.group x.index = q at hne
    obtain ⟨qt, qb⟩ := q
    refine Br.dec (fun h1 => ?_) (fun h1 => ?_) <;> simp [h1, hx, unE]
    · refine Br.dec (fun h2 => ?_) (fun h2 => ?_) <;> simp [h1, h2, hx, unE]
      · exact Again.mk (i + 1) (by omega) (by omega) (Sub.by [0, 1, 2, 3] (by simp [unsE, hw]))
      · obtain ⟨hA, hB⟩ := hne (fun e => h2 e.2)
        rw [h1] at hA hB
        first | refine CallA.snapE (hA) (by first | (simp [hsA, unsE, h1]; done) | fail) (by first | (simp []; done) | fail) ?_ | refine CallD.snapE (hA) (by first | (simp [hsA, unsE, h1]; done) | fail) (by first | (simp []; done) | fail) ?_
        simp [h1]
        first | refine CallA.snapE (hB) (by first | (simp [hsA, unsE, h1]; done) | fail) (by first | (simp []; done) | fail) ?_ | refine CallD.snapE (hB) (by first | (simp [hsA, unsE, h1]; done) | fail) (by first | (simp []; done) | fail) ?_
        simp [h1]
        exact Again.mk (i + 1) (by omega) (by omega) (Sub.by [0, 1, 2, 3] (by simp [unsE, hw]))
    · obtain ⟨hA, hB⟩ := hne (fun e => h1 e.1)
      first | refine CallA.snapE (hA) (by first | (simp [hsA, unsE]; done) | fail) (by first | (simp []; done) | fail) ?_ | refine CallD.snapE (hA) (by first | (simp [hsA, unsE]; done) | fail) (by first | (simp []; done) | fail) ?_
      simp
      first | refine CallA.snapE (hB) (by first | (simp [hsA, unsE]; done) | fail) (by first | (simp []; done) | fail) ?_ | refine CallD.snapE (hB) (by first | (simp [hsA, unsE]; done) | fail) (by first | (simp []; done) | fail) ?_
      simp
      exact Again.mk (i + 1) (by omega) (by omega) (Sub.by [0, 1, 2, 3] (by simp [unsE, hw]))
  · have hG4 := iGetUnit_spec (G := G) (B0 := B0) hZ ⟨hid, false, M1⟩ g k
    rw [getHst_down] at hG4
    first | refine CallA.snapE (hG4) (by first | (simp [hsA, unsE]; done) | fail) (by first | (simp []; done) | fail) ?_ | refine CallD.snapE (hG4) (by first | (simp [hsA, unsE]; done) | fail) (by first | (simp []; done) | fail) ?_
    simp
    first | refine CallA.snapE (iSumText_spec hZ t) (by first | (simp []; done) | fail) (by first | (simp []; done) | fail) ?_ | refine CallD.snapE (iSumText_spec hZ t) (by first | (simp []; done) | fail) (by first | (simp []; done) | fail) ?_
    simp
    first | refine CallA.snapE (SumText_spec hZ t) (by first | (simp []; done) | fail) (by first | (simp []; done) | fail) ?_ | refine CallD.snapE (SumText_spec hZ t) (by first | (simp []; done) | fail) (by first | (simp []; done) | fail) ?_
    simp
    have hw : IntKind.i64.wrap ((M3.length : Int) + 1) = (M1.length : Int) := by rw [wrap_i64 (by omega)]; omega
    simp [hw]
end Go.Proofs.Ytbhbkaonlillhaa
