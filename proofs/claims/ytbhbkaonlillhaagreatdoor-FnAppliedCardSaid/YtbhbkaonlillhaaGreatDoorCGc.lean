/- Contracts: a drawn right pair. -/
import Derived.Test.YtbhbkaonlillhaaGreatDoorCDd
import Derived.Test.YtbhbkaonlillhaaGreatDoorCGa
import Derived.Test.YtbhbkaonlillhaaGreatDoorTn
namespace Go.Proofs.YtbhbkaonlillhaaGreatDoor
open Go Go.Abs Go.Proofs Go.Tm
set_option linter.unusedSimpArgs false
set_option linter.unusedVariables false
set_option maxRecDepth 10000
variable {Z : TypeId → Nat} {G : World → Prop} {B0 : Nat}
theorem path_size {t : Tree} {id : Int} : (pathP t id).size ≤ 36 := by
  unfold pathP
  split
  · rename_i h
    obtain ⟨x, hx⟩ := Option.isSome_iff_exists.1 h.2
    obtain ⟨hm, hid⟩ := nd_mem hx
    obtain ⟨ns, hu, hl, hn⟩ := (okT_iff.1 h.1).names hm
    rw [hid] at hu
    rw [upN_up 15 hu (by omega)]
    exact joinP_size (nms_rev hn) (by simpa using hl)
  · exact Nat.zero_le _
set_option maxHeartbeats 2000000 in
theorem DrawRightPair_spec (hZ : ZOk Tryz.prog Z) (b : List Int) : Does Z Tryz.prog G B0 44 [.c (byE b)] [] [] (fun y _ => ∃ t e, y = .tup [trA true t, edA e] ∧ GoodT t ∧ e.path.size ≤ 60 ∧ e.to.size ≤ 60) := by
  refine Does.bodyF hZ Tryz.func44 rfl rfl (Nat.le_of_ble_eq_true rfl) fun hf => ?_
  simp [Tryz.f44, byE]
  have hN := l01New_spec (Z := Z) (G := G) (B0 := B0) hZ b
  unfold byE at hN
  refine CallA.clos (by simp) hN ?_
  rintro y ⟨c, rfl⟩
  simp [curE, byE]
  refine CallA.rootsP [2] (l10Tree_spec hZ c) (by simp [curE, byE]) ?_
  rintro y r ⟨t, c1, rfl, hd, rfl⟩ _
  simp [curE, byE, trA, ndsE]
  refine CallA.rootsP [2] (l11Edit_spec hZ c1) (by simp [curE, byE]) ?_
  rintro y r ⟨e, c2, rfl, he, rfl⟩ _
  simp [curE, byE, edA, edE]
  refine CallA.rootsP [2] (l01Once_spec hZ c2 2 (by omega)) (by simp [curE, byE]) ?_
  rintro y r ⟨b3, c3, rfl, rfl⟩ _
  simp [curE, byE]
  obtain ⟨g, n0, hG, hn14⟩ := id hd
  have hok := hG.ok
  have H := okT_iff.1 hok
  have hl1 := H.len1
  have hl14 := H.len2
  have hp6 := he.p6
  have ht6 := he.t6
  refine Br.bool (fun hb3 => ?_) (fun hb3 => ?_) <;> simp [hb3]
  · refine Br.dec (fun h10 => ?_) (fun h10 => ?_) <;> simp [h10]
    · refine W_drawMB hZ hmo 8 rfl 0 2 [(8, []), (8, [])] [1] 8 (by kernel_rfl) rfl ?_
      simp
      exact ⟨t, e, ⟨⟨rfl, rfl⟩, h10.symm, rfl, rfl, rfl, rfl⟩, hd, by omega, by omega⟩
    · refine W_drawCB hZ hmo 8 rfl 0 7 11 [(8, []), (8, []), (8, []), (8, []), (8, []), (8, []), (8, [])] [0, 1, 2, 8, 9, 10] 8 (by kernel_rfl) rfl ?_
      simp
      refine CallC.rootsP [2] (l01Below_spec hZ c3 t.nodes.length (by omega)) (by simp [curE, byE]) ?_
      rintro y r ⟨v, c4, rfl, hv, rfl⟩ _
      have hv3 := hv.1 (by omega)
      obtain ⟨k, rfl⟩ : ∃ k : Nat, v = (k : Int) := ⟨v.toNat, by omega⟩
      have hx : t.nodes[k]? = some t.nodes[k] := List.getElem?_eq_getElem (by omega)
      have hkl : k < t.nodes.length := by omega
      generalize t.nodes[k] = x at hx
      simp [curE, byE]
      refine Need.mk (by omega) ?_
      simp [hx, ndE, pcsE]
      refine ⟨Need.mk hkl rfl, ?_⟩
      refine CallA.snapE (PathOf_spec hZ t x.id) (by simp [trA, ndsE]) (by simp) ?_
      have hps := path_size (t := t) (id := x.id)
      generalize pathP t x.id = q at hps
      simp
      refine Br.dec (fun hq => ?_) (fun hq => ?_) <;> simp [hq]
      · refine W_drawMB hZ hmo 10 rfl 0 2 [(10, []), (10, [])] [1] 10 (by kernel_rfl) rfl ?_
        simp
        exact ⟨t, e, ⟨⟨rfl, rfl⟩, rfl, rfl, rfl, rfl, rfl⟩, hd, by omega, by omega⟩
      refine Br.dec (fun hk1 => ?_) (fun hk1 => ?_) <;> simp [hk1]
      · refine Br.dec (fun hl5 => ?_) (fun hl5 => ?_) <;> simp [hl5, hq]
        · refine Need.mk (by omega) ?_
          simp
          refine CallA.rootsP [2, 10] (l01Pick_spec hZ c4 [⟨#[97]⟩, ⟨#[98]⟩, ⟨#[99]⟩] (by simp)) (by simp [curE, byE, strsE]) ?_
          rintro y r ⟨s, c5, rfl, hs, rfl⟩ _
          have hs1 : s.size = 1 := by simp at hs; rcases hs with h | h | h <;> subst h <;> rfl
          simp [curE, byE, strsE]
          refine Need.mk (by omega) ?_
          simp
          refine W_drawMB hZ hmo 12 rfl 0 2 [(12, []), (12, [])] [1] 12 (by kernel_rfl) rfl ?_
          simp
          exact ⟨t, { e with path := q ++ ⟨#[47]⟩ ++ s }, by simp [hk1], hd, by simp; omega, by dsimp only; omega⟩
        · refine W_drawMB hZ hmo 10 rfl 0 2 [(10, []), (10, [])] [1] 10 (by kernel_rfl) rfl ?_
          simp
          exact ⟨t, { e with path := q }, by simp [hk1], hd, by dsimp only; omega, by dsimp only; omega⟩
      · refine Br.dec (fun hk2 => ?_) (fun hk2 => ?_) <;> simp [hk2, hq]
        · refine Br.dec (fun hl5 => ?_) (fun hl5 => ?_) <;> simp [hl5, hq]
          · refine Need.mk (by omega) ?_
            simp
            refine CallA.rootsP [2, 10] (l01Pick_spec hZ c4 [⟨#[97]⟩, ⟨#[98]⟩, ⟨#[99]⟩] (by simp)) (by simp [curE, byE, strsE]) ?_
            rintro y r ⟨s, c5, rfl, hs, rfl⟩ _
            have hs1 : s.size = 1 := by simp at hs; rcases hs with h | h | h <;> subst h <;> rfl
            simp [curE, byE, strsE]
            refine Need.mk (by omega) ?_
            simp
            refine W_drawMB hZ hmo 12 rfl 0 2 [(12, []), (12, [])] [1] 12 (by kernel_rfl) rfl ?_
            simp
            exact ⟨t, { e with path := q ++ ⟨#[47]⟩ ++ s }, by simp [hk2], hd, by simp; omega, by dsimp only; omega⟩
          · refine W_drawMB hZ hmo 10 rfl 0 2 [(10, []), (10, [])] [1] 10 (by kernel_rfl) rfl ?_
            simp
            exact ⟨t, { e with path := q }, by simp [hk2], hd, by dsimp only; omega, by dsimp only; omega⟩
        · refine W_drawMB hZ hmo 10 rfl 0 2 [(10, []), (10, [])] [1] 10 (by kernel_rfl) rfl ?_
          simp
          exact ⟨t, { e with path := q }, by simp, hd, by dsimp only; omega, by dsimp only; omega⟩
  · refine W_drawMB hZ hmo 8 rfl 0 2 [(8, []), (8, [])] [1] 8 (by kernel_rfl) rfl ?_
    simp
    exact ⟨t, e, ⟨⟨rfl, rfl⟩, rfl, rfl, rfl, rfl, rfl⟩, hd, by omega, by omega⟩
end Go.Proofs.YtbhbkaonlillhaaGreatDoor
