/- Contracts: a host is drawn. -/
import Derived.Test.YtbhbkaonlillhaaCUk
namespace Go.Proofs.Ytbhbkaonlillhaa
open Go Go.Abs Go.Proofs Go.Tm
set_option linter.unusedSimpArgs false
set_option linter.unusedVariables false
set_option maxRecDepth 10000
variable {Z : TypeId → Nat} {G : World → Prop} {B0 : Nat}
theorem putHst_ok {h : Hst} (u : Un) (ho : okHst h = true) : okHst (putHst h u).1 = true ∧ (putHst h u).1.up = h.up := by
  unfold putHst
  split
  · rename_i c; exact ⟨c.2.2, rfl⟩
  · exact ⟨ho, rfl⟩
theorem spoilHst_ok {h : Hst} (g i k : Int) (ho : okHst h = true) : okHst (spoilHst h g i k).1 = true ∧ (spoilHst h g i k).1.up = h.up := by
  unfold spoilHst
  split
  rotate_left
  · exact ⟨ho, rfl⟩
  split
  rotate_left
  · exact ⟨ho, rfl⟩
  rename_i x hx hc
  refine ⟨?_, rfl⟩
  simp only [okHst, Bool.and_eq_true] at ho ⊢
  refine ⟨?_, ho.2⟩
  rcases atU_cases h.units g i with ⟨_, h2⟩ | ⟨k', y, h1, h2, h3⟩
  · rw [h2] at hx; cases hx
  rw [hx] at h3; cases h3
  rw [h2, Int.toNat_natCast]
  obtain ⟨p1, p2⟩ := (okU_none _).1 ho.1
  obtain ⟨hk, hxe⟩ := List.getElem?_eq_some_iff.1 h1
  generalize hj : (k.tmod x.text.size).toNat = j
  rw [okU_none]
  refine ⟨fun u hu => ?_, ?_⟩
  · rcases List.mem_or_eq_of_mem_set hu with hu | rfl
    · exact p1 u hu
    · have := p1 x (hxe ▸ List.getElem_mem hk)
      simp only [unB, flipT_size] at this ⊢
      exact this
  · rw [List.pairwise_iff_getElem] at p2 ⊢
    intro a b ha hb hab
    simp only [List.length_set] at ha hb
    have h3 := p2 a b ha hb hab
    simp only [List.getElem_set]
    have key : ∀ c (hc : c < h.units.length), k' = c → h.units[c] = x := fun c hc e => by subst e; exact hxe
    by_cases c1 : k' = a <;> by_cases c2 : k' = b
    · omega
    · rw [if_pos c1, if_neg c2]
      rw [key a ha c1] at h3
      simpa [lessU] using h3
    · rw [if_neg c1, if_pos c2]
      rw [key b hb c2] at h3
      simpa [lessU] using h3
    · rw [if_neg c1, if_neg c2]; exact h3
def GoodH (n : Nat) (h : Hst) : Prop := okHst h = true ∧ h.units.length ≤ n
set_option maxHeartbeats 2000000 in
theorem l14Host_spec (hZ : ZOk Try.prog Z) (c : Cur) : Does Z Try.prog G B0 67 [.ptr [(0, 0)]] [curE c] [true] (fun y r => ∃ (h : Hst) (c' : Cur), y = hsA true h ∧ GoodH 6 h ∧ r = [curE c']) := by
  refine Does.bodyR hZ Try.func67 rfl rfl (Nat.le_of_ble_eq_true rfl) fun ha hf => ?_
  simp [Try.f67]
  refine CallA.rootsP [0] (l01Below_spec hZ c 7 (by omega)) (by simp [curE, byE]) ?_
  rintro y r ⟨v, c1, rfl, hv, rfl⟩ _
  have hv := hv.1 (by omega)
  have e1 : IntKind.i64.wrap (1 + v) = 1 + v := wrap_i64 (by omega)
  simp [curE, byE, e1]
  refine LoopA.run hZ (fun p : Cur × Hst × Nat => ⟨49, [(0, .ptr [(0, 0)]), (2, .ptr [(1, 0)]), (3, .ptr [(2, 0)]), (4, iA p.2.2)], [curE p.1, [iC 0, bC false, unsE true []], [iC p.2.1.id, bC p.2.1.up, unsE true p.2.1.units]], [true, true, true]⟩) (fun p => p.2.2 ≤ 6 ∧ p.2.1.up = true ∧ okHst p.2.1 = true ∧ p.2.1.units.length ≤ p.2.2) (fun p => 7 - p.2.2) (c1, ⟨1 + v, true, []⟩, 0) (by simp [okHst, okU, inB]; omega) (Sub.by [0, 1, 3] (by simp [curE, byE, unsE])) fun ⟨c, h, i⟩ ⟨hi, hup, hok, hl⟩ => ?_
  dsimp only at hi hup hok hl
  simp
  refine CallA.rootsP [0] (l01Below_spec hZ c 7 (by omega)) (by simp [curE, byE]) ?_
  rintro y r ⟨w, c2, rfl, hw, rfl⟩ _
  have hw := hw.1 (by omega)
  simp [curE, byE]
  refine Br.dec (fun h1 => ?_) (fun h1 => ?_) <;> simp [h1]
  · refine W_drawS hZ hmo [(0, true, []), (4, true, []), (6, true, []), (7, true, []), (1, false, [0, 4, 6, 7]), (2, false, [0, 4, 6, 7]), (3, true, []), (5, false, [0, 6, 7, 3]), (8, false, [0, 6, 3]), (9, false, [0, 3]), (10, false, [0]), (11, false, []), (12, false, []), (14, true, []), (13, false, [14]), (15, false, [14])] 1000 rfl (by kernel_rfl) ?_
    simp [unsE]
    refine CallE.rootsP [0] (l01Below_spec hZ c2 3 (by omega)) (by simp [curE, byE]) ?_
    rintro y r ⟨v1, c3, rfl, hv1, rfl⟩ _
    have hv1 := hv1.1 (by omega)
    have e2 : IntKind.i64.wrap (1 + v1) = 1 + v1 := wrap_i64 (by omega)
    simp [curE, byE, e2]
    refine CallE.rootsP [0] (l01Below_spec hZ c3 4 (by omega)) (by simp [curE, byE]) ?_
    rintro y r ⟨v2, c4, rfl, hv2, rfl⟩ _
    simp [curE, byE, e2]
    refine CallE.rootsP [0] (l01Below_spec hZ c4 5 (by omega)) (by simp [curE, byE]) ?_
    rintro y r ⟨v3, c5, rfl, hv3, rfl⟩ _
    have hv3 := hv3.1 (by omega)
    simp [curE, byE, e2]
    refine CallE.rootsP [0] (l01Text_spec hZ c5 v3 (by omega)) (by simp [curE, byE]) ?_
    rintro y r ⟨s, c6, rfl, hs, rfl⟩ _
    simp [curE, byE, e2]
    have hP := PutUnit_spec (G := G) (B0 := B0) hZ h ⟨1 + v1, v2, s, 0⟩ (by omega)
    have hL := putHst_len h ⟨1 + v1, v2, s, 0⟩
    have hO := putHst_ok ⟨1 + v1, v2, s, 0⟩ hok
    generalize putHst h ⟨1 + v1, v2, s, 0⟩ = q at hP hL hO
    obtain ⟨h', b⟩ := q
    dsimp only at hP hL hO
    refine CallE.snapE hP (by simp [hsA, unsE, unA, unE]) (by simp [hsA, noShr_uns]) ?_
    simp [hsA, unsE, curE, byE, e2]
    have ei : IntKind.i64.wrap ((i : Int) + 1) = ((i + 1 : Nat) : Int) := wrap_i64 (by omega)
    exact Again.mk (c6, h', i + 1) ⟨by dsimp only; omega, hO.2.trans hup, hO.1, by dsimp only; omega⟩ (by dsimp only; omega) (Sub.by [0, 1, 2] (by simp [curE, byE, unsE, ei]))
  · have hok2 : ∀ b, okHst ⟨h.id, b, h.units⟩ = true := fun b => hok
    refine CallA.rootsP [0] (l01Once_spec hZ c2 3 (by omega)) (by simp [curE, byE]) ?_
    rintro y r ⟨b1, c3, rfl, rfl⟩ _
    simp [curE, byE]
    refine Br.bool (fun c1 => ?_) (fun c1 => ?_) <;> simp [c1]
    · refine W_drawS hZ hmo [(0, true, []), (4, true, []), (6, true, []), (1, false, [0, 4, 6]), (2, false, [0, 4, 6]), (3, true, []), (5, false, [0, 6, 3]), (7, false, [0, 3]), (8, false, []), (9, false, []), (11, true, []), (10, false, [11]), (12, false, [11])] 1000 rfl (by kernel_rfl) ?_
      simp [unsE]
      refine CallE.rootsP [0] (l01Below_spec hZ c3 3 (by omega)) (by simp [curE, byE]) ?_
      rintro y r ⟨v1, c4, rfl, hv1, rfl⟩ _
      have hv1 := hv1.1 (by omega)
      have e2 : IntKind.i64.wrap (1 + v1) = 1 + v1 := wrap_i64 (by omega)
      simp [curE, byE, e2]
      refine CallE.rootsP [0] (l01Below_spec hZ c4 4 (by omega)) (by simp [curE, byE]) ?_
      rintro y r ⟨v2, c5, rfl, hv2, rfl⟩ _
      simp [curE, byE, e2]
      refine CallE.rootsP [0] (l01Below_spec hZ c5 9 (by omega)) (by simp [curE, byE]) ?_
      rintro y r ⟨v3, c6, rfl, hv3, rfl⟩ _
      simp [curE, byE, e2]
      have hP := Spoil_spec (G := G) (B0 := B0) hZ h (1 + v1) v2 v3 (by omega)
      have hL := spoilHst_len h (1 + v1) v2 v3
      have hO := spoilHst_ok (1 + v1) v2 v3 hok
      generalize spoilHst h (1 + v1) v2 v3 = q at hP hL hO
      obtain ⟨h', b⟩ := q
      dsimp only at hP hL hO
      refine CallE.snapE hP (by simp [hsA, unsE]) (by simp [hsA, noShr_uns]) ?_
      simp [hsA, unsE, curE, byE, e2]
      refine CallA.rootsP [0] (l01Once_spec hZ c6 6 (by omega)) (by simp [curE, byE]) ?_
      rintro y r ⟨b2, c7, rfl, rfl⟩ _
      simp [curE, byE]
      exact ⟨⟨h'.id, !b2, h'.units⟩, ⟨rfl, by simp, rfl⟩, ⟨hO.1, by dsimp only; omega⟩, c7, rfl, rfl, rfl⟩
    · refine CallA.rootsP [0] (l01Once_spec hZ c3 6 (by omega)) (by simp [curE, byE]) ?_
      rintro y r ⟨b2, c7, rfl, rfl⟩ _
      simp [hsA, curE, byE, unsE]
      exact ⟨⟨h.id, !b2, h.units⟩, ⟨rfl, by simp, rfl⟩, ⟨hok, by dsimp only; omega⟩, c7, rfl, rfl, rfl⟩
theorem DrawHost_spec (hZ : ZOk Try.prog Z) (b : List Int) : Does Z Try.prog G B0 22 [.c (byE b)] [] [] (fun y _ => ∃ h : Hst, y = hsA true h ∧ GoodH 6 h ∧ h.up = true) := by
  refine Does.bodyF hZ Try.func22 rfl rfl (Nat.le_of_ble_eq_true rfl) fun hf => ?_
  simp [Try.f22, byE]
  have hN := l01New_spec (Z := Z) (G := G) (B0 := B0) hZ b
  unfold byE at hN
  refine CallA.clos (by simp) hN ?_
  rintro y ⟨c, rfl⟩
  simp [curE, byE]
  refine CallA.rootsP [1] (l14Host_spec hZ c) (by simp [curE, byE]) ?_
  rintro y r ⟨h, c1, rfl, hg, rfl⟩ _
  simp [curE, byE, hsA, unsE]
  exact ⟨⟨h.id, true, h.units⟩, ⟨rfl, rfl, rfl⟩, hg, rfl⟩
end Go.Proofs.Ytbhbkaonlillhaa
