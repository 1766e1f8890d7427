/- Contracts of the laws' marks. -/
import Derived.Test.YtbhbkaonlillhaaGreatDoorCEn
import Derived.Test.YtbhbkaonlillhaaGreatDoorTm
import Derived.WalkKit
import Derived.ProofKit
namespace Go.Proofs.YtbhbkaonlillhaaGreatDoor
open Go Go.Abs Go.Proofs Go.Tm
set_option linter.unusedSimpArgs false
set_option linter.unusedVariables false
variable {Z : TypeId → Nat} {G : World → Prop} {B0 : Nat}

theorem markText_spec (hZ : ZOk Tryz.prog Z) (k : Int) (hk : k ≤ 9223372036854775807) : Does Z Tryz.prog G B0 132 [iA k] [] [] (fun y _ => y = sA (mkText k)) := by
  refine Does.body hZ Tryz.func132 rfl rfl (Nat.le_of_ble_eq_true rfl) ?_
  simp [Tryz.f132]
  refine Br.dec (fun h => ?_) (fun h => ?_)
  · simp [mkText, h]
  · simp
    refine LoopA.run hZ (fun p : Int × ByteArray × Nat => ⟨20, [(0, iA p.1), (3, sA p.2.1)], [], []⟩) (fun p => mkDig p.2.2 p.1 p.2.1 = mkDig k.toNat k ⟨#[]⟩ ∧ p.1.toNat ≤ p.2.2 ∧ ((p.2.1.size = 0 ∧ p.1 = k) ∨ p.2.1.size + p.1.toNat ≤ 9223372036854775806) ∧ 0 ≤ p.1) (fun p => p.1.toNat) (k, ⟨#[]⟩, k.toNat) (by simp; omega) (Sub.by [] (by simp)) fun ⟨j, o, n⟩ ⟨he, hn, hs, h0⟩ => ?_
    dsimp only at he hn hs h0
    simp
    refine Br.dec (fun h2 => ?_) (fun h2 => ?_)
    · have e1 : j.tdiv 10 = j / 10 := Int.tdiv_eq_ediv_of_nonneg (by omega)
      obtain ⟨n, rfl⟩ : ∃ m, n = m + 1 := ⟨n - 1, by omega⟩
      rw [mkDig, if_pos h2, e1] at he
      have e2 : IntKind.i64.wrap (j / 10) = j / 10 := wrap_i64 (by omega)
      simp [bytesText_size]
      refine Need.mk (by omega) ?_
      simp [e1, e2]
      exact Again.mk (_, _, n) ⟨he, by dsimp only; omega, by simp [bytesText_size]; omega, by dsimp only; omega⟩ (by dsimp only; omega) (Sub.by [] (by simp [w64]))
    · simp
      refine Need.mk (by omega) ?_
      simp [mkText, h]
      rw [← he]
      cases n <;> simp [mkDig, h2]

theorem markPieceS_spec (hZ : ZOk Tryz.prog Z) (l : List Pc) (k : Int) : Does Z Tryz.prog G B0 181 [.bor [(0, 0)] 0 l.length, iA k] [[pcsE true l]] [false] (fun y r => y = iA (scan mkPc k l).2 ∧ r = [[pcsE true (scan mkPc k l).1]]) := by
  refine Does.bodyR hZ Tryz.func181 rfl rfl (Nat.le_of_ble_eq_true rfl) fun ha hf => ?_
  simp [pcsE] at hf
  simp [Tryz.f181, pcsE]
  have hl : ((scan mkPc k l).1.map pcE).length = (l.map pcE).length := by simp [scan_len]
  refine LoopA.run hZ (fun i : Nat => ⟨27, [(0, .bor [(0, 0)] 0 l.length), (1, iA (scan mkPc k (l.take i)).2), (5, iA i)], [[.row true 121 (mix ((scan mkPc k l).1.map pcE) (l.map pcE) i)]], [false]⟩) (fun i => i ≤ l.length) (fun i => l.length - i) 0 (by simp) (Sub.by [0] (by simp [mix_zero, scan])) fun i hi => ?_
  simp
  refine Br.dec (fun h => ?_) (fun h => ?_)
  · have hw := w_inc h hf.1
    have hx : l[i]? = some l[i] := List.getElem?_eq_getElem h
    have hm := mix_at (i := i) hl
    simp [hx, hm, pcE, h]
    exact Again.mk (i + 1) (by omega) (by omega) (Sub.by [0] (by simp [hw, List.modify_modify_eq, scan_take mkPc l k i _ hx, mkPc, w64]; exact mix_step hl (by simp [scan_at, hx, h, mkPc, pcE, w64])))
  · simp
    rw [List.take_of_length_le (by omega), mix_all hl (by simp [scan_len]; omega)]
    simp

theorem markInodeS_spec (hZ : ZOk Tryz.prog Z) (l : List Nod) (k : Int) (hk : k ≤ 9223372036854775807) : Does Z Tryz.prog G B0 129 [.bor [(0, 0)] 0 l.length, iA k] [[ndsE true l]] [false] (fun y r => y = iA (scan mkNod k l).2 ∧ r = [[ndsE true (scan mkNod k l).1]]) := by
  refine Does.bodyR hZ Tryz.func129 rfl rfl (Nat.le_of_ble_eq_true rfl) fun ha hf => ?_
  simp [ndsE] at hf
  simp [Tryz.f129, ndsE]
  have hl : ((scan mkNod k l).1.map (ndE true)).length = (l.map (ndE true)).length := by simp [scan_len]
  refine LoopA.run hZ (fun i : Nat => ⟨79, [(0, .bor [(0, 0)] 0 l.length), (1, iA (scan mkNod k (l.take i)).2), (5, iA i)], [[.row true 57 (mix ((scan mkNod k l).1.map (ndE true)) (l.map (ndE true)) i)]], [false]⟩) (fun i => i ≤ l.length ∧ (scan mkNod k (l.take i)).2 ≤ 9223372036854775807) (fun i => l.length - i) 0 (by simpa [scan] using hk) (Sub.by [0] (by simp [mix_zero, scan])) fun i hi => ?_
  simp
  refine Br.dec (fun h => ?_) (fun h => ?_)
  · have hw := w_inc h hf.1
    have hx : l[i]? = some l[i] := List.getElem?_eq_getElem h
    have hm := mix_at (i := i) hl
    simp [hx, hm, h, ndE]
    refine CallA.snapE (markText_spec hZ _ (w64_le _)) (by simp; rfl) (by simp) ?_
    simp [hx, hm, h, ndE, pcsE]
    refine CallA.rowE [(0, 0), (i, 7)] (markPieceS_spec hZ l[i].pieces _) (by simp [hx, hm, h, pcsE, ndE]) (by simp; rfl) (by simp [pcsE, noShrLL_mem, pcE]) ?_
    simp [hx, hm, h, ndE, pcsE]
    exact Again.mk (i + 1) ⟨by omega, by rw [scan_take mkNod l k i _ hx]; exact w64_le _⟩ (by omega) (Sub.by [0] (by simp [hw, List.modify_modify_eq, scan_take mkNod l k i _ hx, mkNod, w64]; exact mix_step hl (by simp [scan_at, hx, h, mkNod, ndE, pcsE, w64])))
  · simp
    rw [List.take_of_length_le (by omega), mix_all hl (by simp [scan_len]; omega)]
    simp

theorem markTree_spec (hZ : ZOk Tryz.prog Z) (t : Tree) (k : Int) (hk : k ≤ 9223372036854775807) : Does Z Tryz.prog G B0 58 [.agg [.bor [(0, 0)] 0 t.nodes.length, iA t.next], iA k] [[ndsE true t.nodes]] [false] (fun y r => y = iA (scan mkNod k t.nodes).2 ∧ r = [[ndsE true (scan mkNod k t.nodes).1]]) := by
  refine ⟨by kernel_rfl, fun w S vals fps cb vs hK hG hB hL hI hA => ?_⟩
  obtain ⟨v0, v1, rfl, h0, h1⟩ := hA.two
  obtain ⟨us, rfl, hx⟩ := h0.agg_inv
  obtain ⟨v2, v3, rfl, h2, h3⟩ := hx.two
  obtain rfl := h1.int_inv
  obtain rfl := h3.int_inv
  have hu := Tryz.underlying40
  go_enter Tryz.func58, Tryz.ntmps58
  go_wp2_with (first | (go_at_call 129; refine (under_call hI (Fr.alloc _ _) (markInodeS_spec hZ t.nodes k hk) hK hG hB hL (RL.mk2 h2 h1)).mono ?_; rintro e w' ⟨res, rts', v, S', vals', fps', cb', fp, rfl, hp, hg⟩))
  go_ret
  exact ⟨res, rts', _, S', vals', fps', cb', fp, rfl, hp, hg⟩

end Go.Proofs.YtbhbkaonlillhaaGreatDoor
