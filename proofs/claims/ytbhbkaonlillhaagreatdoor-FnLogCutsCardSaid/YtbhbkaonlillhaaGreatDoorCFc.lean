/- Contracts: records right, by the program. -/
import Derived.Test.YtbhbkaonlillhaaGreatDoorCFb
namespace Go.Proofs.YtbhbkaonlillhaaGreatDoor
open Go Go.Abs Go.Proofs Go.Tm
set_option linter.unusedSimpArgs false
set_option linter.unusedVariables false
set_option maxRecDepth 10000
variable {Z : TypeId → Nat} {G : World → Prop} {B0 : Nat}
theorem named_nil : namedP ⟨#[]⟩ = false := by simp [namedP, parentP, splitP]
set_option maxHeartbeats 4000000 in
theorem iEditOk_spec (hZ : ZOk Tryz.prog Z) (hG : ∀ w, G w → MG w) (e : Edt) (he : SmE e) : Does Z Tryz.prog G B0 49 [edA e] [] [] (fun y _ => y = bA (editB e)) := by
  generalize hr : editB e = r
  refine Does.bodyF hZ Tryz.func49 rfl rfl (Nat.le_of_ble_eq_true rfl) fun hf => ?_
  obtain ⟨kind, path, tw, num, who⟩ := e
  unfold SmE at he
  dsimp only at he
  unfold editB at hr
  dsimp only at hr
  have hto : tw = ⟨#[]⟩ → namedP tw = false := fun h => by rw [h]; exact named_nil
  rcases kinds kind with (rfl | rfl | rfl | rfl | rfl | rfl | rfl) | hk
  · simp [Tryz.f49, edA, edE]
    by_cases ht : tw = ⟨#[]⟩
    · have hto := hto ht
      subst ht
      simp [hto] at hr
      have hin : inB 10 1 10 = true := rfl
      refine CallA.snapE (inamed_spec hZ hG path he.1) (by simp) (by simp) ?_
      simp
      refine W_drawB hZ hmo 2 rfl 0 11 [(2, []), (2, []), (2, []), (2, []), (2, []), (2, []), (2, []), (2, []), (2, []), (2, []), (2, [])] (by kernel_rfl) ?_
      simp
      refine CallA.snapE (within_spec hZ 10 1 10) (by simp) (by simp) ?_
      simp [hin] at hr ⊢
      refine Br.dec (fun c1 => ?_) (fun c1 => ?_) <;> simp [c1] at hr ⊢
      · refine Br.dec (fun c2 => ?_) (fun c2 => ?_) <;> simp [c2] at hr ⊢
        · refine Br.dec (fun c3 => ?_) (fun c3 => ?_) <;> simp [c3] at hr ⊢
          · first | exact hr | (subst hr; rfl) | (subst hr; simp; done) | (subst hr; simp [ht]; done)
          · first | exact hr | (subst hr; rfl) | (subst hr; simp; done) | (subst hr; simp [ht]; done)
        · first | exact hr | (subst hr; rfl) | (subst hr; simp; done) | (subst hr; simp [ht]; done)
      · first | exact hr | (subst hr; rfl) | (subst hr; simp; done) | (subst hr; simp [ht]; done)
    · simp [ht] at hr
      have hin : inB 10 1 10 = true := rfl
      refine CallA.snapE (inamed_spec hZ hG path he.1) (by simp) (by simp) ?_
      simp
      refine W_drawB hZ hmo 2 rfl 0 11 [(2, []), (2, []), (2, []), (2, []), (2, []), (2, []), (2, []), (2, []), (2, []), (2, []), (2, [])] (by kernel_rfl) ?_
      simp
      refine CallA.snapE (within_spec hZ 10 1 10) (by simp) (by simp) ?_
      simp [hin] at hr ⊢
      refine Br.dec (fun c1 => ?_) (fun c1 => ?_) <;> simp [c1] at hr ⊢
      · refine Br.dec (fun c2 => ?_) (fun c2 => ?_) <;> simp [c2] at hr ⊢
        · refine Br.dec (fun c3 => ?_) (fun c3 => ?_) <;> simp [c3] at hr ⊢
          · first | exact hr | (subst hr; rfl) | (subst hr; simp; done) | (subst hr; simp [ht]; done)
          · first | exact hr | (subst hr; rfl) | (subst hr; simp; done) | (subst hr; simp [ht]; done)
        · first | exact hr | (subst hr; rfl) | (subst hr; simp; done) | (subst hr; simp [ht]; done)
      · first | exact hr | (subst hr; rfl) | (subst hr; simp; done) | (subst hr; simp [ht]; done)
  · simp [Tryz.f49, edA, edE]
    by_cases ht : tw = ⟨#[]⟩
    · have hto := hto ht
      subst ht
      simp [hto] at hr
      have hin : inB 5 1 10 = true := rfl
      refine CallA.snapE (inamed_spec hZ hG path he.1) (by simp) (by simp) ?_
      simp
      try simp [hin] at hr
      refine Br.bool (fun n1 => ?_) (fun n1 => ?_) <;> simp [n1] at hr ⊢
      · refine W_drawB hZ hmo 2 rfl 0 11 [(2, []), (2, []), (2, []), (2, []), (2, []), (2, []), (2, []), (2, []), (2, []), (2, []), (2, [])] (by kernel_rfl) ?_
        simp
        refine CallA.snapE (within_spec hZ num 1 3) (by simp) (by simp) ?_
        simp
        refine CallA.snapE (within_spec hZ 5 1 10) (by simp) (by simp) ?_
        simp [hin] at hr ⊢
        refine Br.bool (fun c2 => ?_) (fun c2 => ?_) <;> simp [c2] at hr ⊢
        · refine Br.dec (fun c3 => ?_) (fun c3 => ?_) <;> simp [c3] at hr ⊢
          · first | exact hr | (subst hr; rfl) | (subst hr; simp; done) | (subst hr; simp [ht]; done)
          · first | exact hr | (subst hr; rfl) | (subst hr; simp; done) | (subst hr; simp [ht]; done)
        · first | exact hr | (subst hr; rfl) | (subst hr; simp; done) | (subst hr; simp [ht]; done)
      · refine W_drawB hZ hmo 2 rfl 0 11 [(2, []), (2, []), (2, []), (2, []), (2, []), (2, []), (2, []), (2, []), (2, []), (2, []), (2, [])] (by kernel_rfl) ?_
        simp
        refine CallA.snapE (within_spec hZ num 1 3) (by simp) (by simp) ?_
        simp
        refine CallA.snapE (within_spec hZ 5 1 10) (by simp) (by simp) ?_
        simp [hin] at hr ⊢
        refine Br.dec (fun c1 => ?_) (fun c1 => ?_) <;> simp [c1] at hr ⊢
        · refine Br.bool (fun c2 => ?_) (fun c2 => ?_) <;> simp [c2] at hr ⊢
          · refine Br.dec (fun c3 => ?_) (fun c3 => ?_) <;> simp [c3] at hr ⊢
            · first | exact hr | (subst hr; rfl) | (subst hr; simp; done) | (subst hr; simp [ht]; done)
            · first | exact hr | (subst hr; rfl) | (subst hr; simp; done) | (subst hr; simp [ht]; done)
          · first | exact hr | (subst hr; rfl) | (subst hr; simp; done) | (subst hr; simp [ht]; done)
        · first | exact hr | (subst hr; rfl) | (subst hr; simp; done) | (subst hr; simp [ht]; done)
    · simp [ht] at hr
      have hin : inB 5 1 10 = true := rfl
      refine CallA.snapE (inamed_spec hZ hG path he.1) (by simp) (by simp) ?_
      simp
      try simp [hin] at hr
      refine Br.bool (fun n1 => ?_) (fun n1 => ?_) <;> simp [n1] at hr ⊢
      · refine W_drawB hZ hmo 2 rfl 0 11 [(2, []), (2, []), (2, []), (2, []), (2, []), (2, []), (2, []), (2, []), (2, []), (2, []), (2, [])] (by kernel_rfl) ?_
        simp
        refine CallA.snapE (within_spec hZ num 1 3) (by simp) (by simp) ?_
        simp
        refine CallA.snapE (within_spec hZ 5 1 10) (by simp) (by simp) ?_
        simp [hin] at hr ⊢
        refine Br.bool (fun c2 => ?_) (fun c2 => ?_) <;> simp [c2] at hr ⊢
        · refine Br.dec (fun c3 => ?_) (fun c3 => ?_) <;> simp [c3] at hr ⊢
          · first | exact hr | (subst hr; rfl) | (subst hr; simp; done) | (subst hr; simp [ht]; done)
          · first | exact hr | (subst hr; rfl) | (subst hr; simp; done) | (subst hr; simp [ht]; done)
        · first | exact hr | (subst hr; rfl) | (subst hr; simp; done) | (subst hr; simp [ht]; done)
      · refine W_drawB hZ hmo 2 rfl 0 11 [(2, []), (2, []), (2, []), (2, []), (2, []), (2, []), (2, []), (2, []), (2, []), (2, []), (2, [])] (by kernel_rfl) ?_
        simp
        refine CallA.snapE (within_spec hZ num 1 3) (by simp) (by simp) ?_
        simp
        refine CallA.snapE (within_spec hZ 5 1 10) (by simp) (by simp) ?_
        simp [hin] at hr ⊢
        refine Br.dec (fun c1 => ?_) (fun c1 => ?_) <;> simp [c1] at hr ⊢
        · refine Br.bool (fun c2 => ?_) (fun c2 => ?_) <;> simp [c2] at hr ⊢
          · refine Br.dec (fun c3 => ?_) (fun c3 => ?_) <;> simp [c3] at hr ⊢
            · first | exact hr | (subst hr; rfl) | (subst hr; simp; done) | (subst hr; simp [ht]; done)
            · first | exact hr | (subst hr; rfl) | (subst hr; simp; done) | (subst hr; simp [ht]; done)
          · first | exact hr | (subst hr; rfl) | (subst hr; simp; done) | (subst hr; simp [ht]; done)
        · first | exact hr | (subst hr; rfl) | (subst hr; simp; done) | (subst hr; simp [ht]; done)
  · simp [Tryz.f49, edA, edE]
    by_cases ht : tw = ⟨#[]⟩
    · have hto := hto ht
      subst ht
      simp [hto] at hr
      have hin : inB 6 1 10 = true := rfl
      refine CallA.snapE (inamed_spec hZ hG path he.1) (by simp) (by simp) ?_
      simp
      try simp [hin] at hr
      refine Br.bool (fun n1 => ?_) (fun n1 => ?_) <;> simp [n1] at hr ⊢
      · refine W_drawB hZ hmo 2 rfl 0 11 [(2, []), (2, []), (2, []), (2, []), (2, []), (2, []), (2, []), (2, []), (2, []), (2, []), (2, [])] (by kernel_rfl) ?_
        simp
        refine CallA.snapE (within_spec hZ num 0 1000) (by simp) (by simp) ?_
        simp
        refine CallA.snapE (within_spec hZ 6 1 10) (by simp) (by simp) ?_
        simp [hin] at hr ⊢
        refine Br.bool (fun c2 => ?_) (fun c2 => ?_) <;> simp [c2] at hr ⊢
        · refine Br.dec (fun c3 => ?_) (fun c3 => ?_) <;> simp [c3] at hr ⊢
          · first | exact hr | (subst hr; rfl) | (subst hr; simp; done) | (subst hr; simp [ht]; done)
          · first | exact hr | (subst hr; rfl) | (subst hr; simp; done) | (subst hr; simp [ht]; done)
        · first | exact hr | (subst hr; rfl) | (subst hr; simp; done) | (subst hr; simp [ht]; done)
      · refine W_drawB hZ hmo 2 rfl 0 11 [(2, []), (2, []), (2, []), (2, []), (2, []), (2, []), (2, []), (2, []), (2, []), (2, []), (2, [])] (by kernel_rfl) ?_
        simp
        refine CallA.snapE (within_spec hZ num 0 1000) (by simp) (by simp) ?_
        simp
        refine CallA.snapE (within_spec hZ 6 1 10) (by simp) (by simp) ?_
        simp [hin] at hr ⊢
        refine Br.dec (fun c1 => ?_) (fun c1 => ?_) <;> simp [c1] at hr ⊢
        · refine Br.bool (fun c2 => ?_) (fun c2 => ?_) <;> simp [c2] at hr ⊢
          · refine Br.dec (fun c3 => ?_) (fun c3 => ?_) <;> simp [c3] at hr ⊢
            · first | exact hr | (subst hr; rfl) | (subst hr; simp; done) | (subst hr; simp [ht]; done)
            · first | exact hr | (subst hr; rfl) | (subst hr; simp; done) | (subst hr; simp [ht]; done)
          · first | exact hr | (subst hr; rfl) | (subst hr; simp; done) | (subst hr; simp [ht]; done)
        · first | exact hr | (subst hr; rfl) | (subst hr; simp; done) | (subst hr; simp [ht]; done)
    · simp [ht] at hr
      have hin : inB 6 1 10 = true := rfl
      refine CallA.snapE (inamed_spec hZ hG path he.1) (by simp) (by simp) ?_
      simp
      try simp [hin] at hr
      refine Br.bool (fun n1 => ?_) (fun n1 => ?_) <;> simp [n1] at hr ⊢
      · refine W_drawB hZ hmo 2 rfl 0 11 [(2, []), (2, []), (2, []), (2, []), (2, []), (2, []), (2, []), (2, []), (2, []), (2, []), (2, [])] (by kernel_rfl) ?_
        simp
        refine CallA.snapE (within_spec hZ num 0 1000) (by simp) (by simp) ?_
        simp
        refine CallA.snapE (within_spec hZ 6 1 10) (by simp) (by simp) ?_
        simp [hin] at hr ⊢
        refine Br.bool (fun c2 => ?_) (fun c2 => ?_) <;> simp [c2] at hr ⊢
        · refine Br.dec (fun c3 => ?_) (fun c3 => ?_) <;> simp [c3] at hr ⊢
          · first | exact hr | (subst hr; rfl) | (subst hr; simp; done) | (subst hr; simp [ht]; done)
          · first | exact hr | (subst hr; rfl) | (subst hr; simp; done) | (subst hr; simp [ht]; done)
        · first | exact hr | (subst hr; rfl) | (subst hr; simp; done) | (subst hr; simp [ht]; done)
      · refine W_drawB hZ hmo 2 rfl 0 11 [(2, []), (2, []), (2, []), (2, []), (2, []), (2, []), (2, []), (2, []), (2, []), (2, []), (2, [])] (by kernel_rfl) ?_
        simp
        refine CallA.snapE (within_spec hZ num 0 1000) (by simp) (by simp) ?_
        simp
        refine CallA.snapE (within_spec hZ 6 1 10) (by simp) (by simp) ?_
        simp [hin] at hr ⊢
        refine Br.dec (fun c1 => ?_) (fun c1 => ?_) <;> simp [c1] at hr ⊢
        · refine Br.bool (fun c2 => ?_) (fun c2 => ?_) <;> simp [c2] at hr ⊢
          · refine Br.dec (fun c3 => ?_) (fun c3 => ?_) <;> simp [c3] at hr ⊢
            · first | exact hr | (subst hr; rfl) | (subst hr; simp; done) | (subst hr; simp [ht]; done)
            · first | exact hr | (subst hr; rfl) | (subst hr; simp; done) | (subst hr; simp [ht]; done)
          · first | exact hr | (subst hr; rfl) | (subst hr; simp; done) | (subst hr; simp [ht]; done)
        · first | exact hr | (subst hr; rfl) | (subst hr; simp; done) | (subst hr; simp [ht]; done)
  · simp [Tryz.f49, edA, edE]
    by_cases ht : tw = ⟨#[]⟩
    · have hto := hto ht
      subst ht
      simp [hto] at hr
      have hin : inB 7 1 10 = true := rfl
      refine CallA.snapE (inamed_spec hZ hG path he.1) (by simp) (by simp) ?_
      simp
      refine W_drawB hZ hmo 2 rfl 0 11 [(2, []), (2, []), (2, []), (2, []), (2, []), (2, []), (2, []), (2, []), (2, []), (2, []), (2, [])] (by kernel_rfl) ?_
      simp
      refine CallA.snapE (within_spec hZ num 1 200) (by simp) (by simp) ?_
      simp
      refine CallA.snapE (within_spec hZ 7 1 10) (by simp) (by simp) ?_
      simp [hin] at hr ⊢
      refine Br.bool (fun c1 => ?_) (fun c1 => ?_) <;> simp [c1] at hr ⊢
      · refine Br.bool (fun c2 => ?_) (fun c2 => ?_) <;> simp [c2] at hr ⊢
        · refine Br.dec (fun c3 => ?_) (fun c3 => ?_) <;> simp [c3] at hr ⊢
          · first | exact hr | (subst hr; rfl) | (subst hr; simp; done) | (subst hr; simp [ht]; done)
          · first | exact hr | (subst hr; rfl) | (subst hr; simp; done) | (subst hr; simp [ht]; done)
        · first | exact hr | (subst hr; rfl) | (subst hr; simp; done) | (subst hr; simp [ht]; done)
      · first | exact hr | (subst hr; rfl) | (subst hr; simp; done) | (subst hr; simp [ht]; done)
    · simp [ht] at hr
      have hin : inB 7 1 10 = true := rfl
      refine CallA.snapE (inamed_spec hZ hG path he.1) (by simp) (by simp) ?_
      simp
      refine W_drawB hZ hmo 2 rfl 0 11 [(2, []), (2, []), (2, []), (2, []), (2, []), (2, []), (2, []), (2, []), (2, []), (2, []), (2, [])] (by kernel_rfl) ?_
      simp
      refine CallA.snapE (within_spec hZ num 1 200) (by simp) (by simp) ?_
      simp
      refine CallA.snapE (within_spec hZ 7 1 10) (by simp) (by simp) ?_
      simp [hin] at hr ⊢
      refine Br.bool (fun c1 => ?_) (fun c1 => ?_) <;> simp [c1] at hr ⊢
      · refine Br.bool (fun c2 => ?_) (fun c2 => ?_) <;> simp [c2] at hr ⊢
        · refine Br.dec (fun c3 => ?_) (fun c3 => ?_) <;> simp [c3] at hr ⊢
          · first | exact hr | (subst hr; rfl) | (subst hr; simp; done) | (subst hr; simp [ht]; done)
          · first | exact hr | (subst hr; rfl) | (subst hr; simp; done) | (subst hr; simp [ht]; done)
        · first | exact hr | (subst hr; rfl) | (subst hr; simp; done) | (subst hr; simp [ht]; done)
      · first | exact hr | (subst hr; rfl) | (subst hr; simp; done) | (subst hr; simp [ht]; done)
  · simp [Tryz.f49, edA, edE]
    by_cases ht : tw = ⟨#[]⟩
    · have hto := hto ht
      subst ht
      simp [hto] at hr
      have hin : inB 2 1 10 = true := rfl
      refine CallA.snapE (inamed_spec hZ hG path he.1) (by simp) (by simp) ?_
      simp
      refine W_drawB hZ hmo 2 rfl 0 11 [(2, []), (2, []), (2, []), (2, []), (2, []), (2, []), (2, []), (2, []), (2, []), (2, []), (2, [])] (by kernel_rfl) ?_
      simp
      refine CallA.snapE (within_spec hZ who 1 9) (by simp) (by simp) ?_
      simp
      refine CallA.snapE (within_spec hZ 2 1 10) (by simp) (by simp) ?_
      simp [hin] at hr ⊢
      refine Br.bool (fun c1 => ?_) (fun c1 => ?_) <;> simp [c1] at hr ⊢
      · refine Br.dec (fun c2 => ?_) (fun c2 => ?_) <;> simp [c2] at hr ⊢
        · refine Br.bool (fun c3 => ?_) (fun c3 => ?_) <;> simp [c3] at hr ⊢
          · first | exact hr | (subst hr; rfl) | (subst hr; simp; done) | (subst hr; simp [ht]; done)
          · first | exact hr | (subst hr; rfl) | (subst hr; simp; done) | (subst hr; simp [ht]; done)
        · first | exact hr | (subst hr; rfl) | (subst hr; simp; done) | (subst hr; simp [ht]; done)
      · first | exact hr | (subst hr; rfl) | (subst hr; simp; done) | (subst hr; simp [ht]; done)
    · simp [ht] at hr
      have hin : inB 2 1 10 = true := rfl
      refine CallA.snapE (inamed_spec hZ hG path he.1) (by simp) (by simp) ?_
      simp
      refine W_drawB hZ hmo 2 rfl 0 11 [(2, []), (2, []), (2, []), (2, []), (2, []), (2, []), (2, []), (2, []), (2, []), (2, []), (2, [])] (by kernel_rfl) ?_
      simp
      refine CallA.snapE (within_spec hZ who 1 9) (by simp) (by simp) ?_
      simp
      refine CallA.snapE (within_spec hZ 2 1 10) (by simp) (by simp) ?_
      simp [hin] at hr ⊢
      refine Br.bool (fun c1 => ?_) (fun c1 => ?_) <;> simp [c1] at hr ⊢
      · refine Br.dec (fun c2 => ?_) (fun c2 => ?_) <;> simp [c2] at hr ⊢
        · refine Br.bool (fun c3 => ?_) (fun c3 => ?_) <;> simp [c3] at hr ⊢
          · first | exact hr | (subst hr; rfl) | (subst hr; simp; done) | (subst hr; simp [ht]; done)
          · first | exact hr | (subst hr; rfl) | (subst hr; simp; done) | (subst hr; simp [ht]; done)
        · first | exact hr | (subst hr; rfl) | (subst hr; simp; done) | (subst hr; simp [ht]; done)
      · first | exact hr | (subst hr; rfl) | (subst hr; simp; done) | (subst hr; simp [ht]; done)
  · simp [Tryz.f49, edA, edE]
    by_cases ht : tw = ⟨#[]⟩
    · have hto := hto ht
      subst ht
      simp [hto] at hr
      have hin : inB 9 1 10 = true := rfl
      refine CallA.snapE (inamed_spec hZ hG path he.1) (by simp) (by simp) ?_
      simp
      refine W_drawB hZ hmo 2 rfl 0 11 [(2, []), (2, []), (2, []), (2, []), (2, []), (2, []), (2, []), (2, []), (2, []), (2, []), (2, [])] (by kernel_rfl) ?_
      simp
      refine CallA.snapE (within_spec hZ who 1 9) (by simp) (by simp) ?_
      simp
      refine CallA.snapE (within_spec hZ 9 1 10) (by simp) (by simp) ?_
      simp [hin] at hr ⊢
      refine Br.bool (fun c1 => ?_) (fun c1 => ?_) <;> simp [c1] at hr ⊢
      · refine Br.dec (fun c2 => ?_) (fun c2 => ?_) <;> simp [c2] at hr ⊢
        · refine Br.bool (fun c3 => ?_) (fun c3 => ?_) <;> simp [c3] at hr ⊢
          · first | exact hr | (subst hr; rfl) | (subst hr; simp; done) | (subst hr; simp [ht]; done)
          · first | exact hr | (subst hr; rfl) | (subst hr; simp; done) | (subst hr; simp [ht]; done)
        · first | exact hr | (subst hr; rfl) | (subst hr; simp; done) | (subst hr; simp [ht]; done)
      · first | exact hr | (subst hr; rfl) | (subst hr; simp; done) | (subst hr; simp [ht]; done)
    · simp [ht] at hr
      have hin : inB 9 1 10 = true := rfl
      refine CallA.snapE (inamed_spec hZ hG path he.1) (by simp) (by simp) ?_
      simp
      refine W_drawB hZ hmo 2 rfl 0 11 [(2, []), (2, []), (2, []), (2, []), (2, []), (2, []), (2, []), (2, []), (2, []), (2, []), (2, [])] (by kernel_rfl) ?_
      simp
      refine CallA.snapE (within_spec hZ who 1 9) (by simp) (by simp) ?_
      simp
      refine CallA.snapE (within_spec hZ 9 1 10) (by simp) (by simp) ?_
      simp [hin] at hr ⊢
      refine Br.bool (fun c1 => ?_) (fun c1 => ?_) <;> simp [c1] at hr ⊢
      · refine Br.dec (fun c2 => ?_) (fun c2 => ?_) <;> simp [c2] at hr ⊢
        · refine Br.bool (fun c3 => ?_) (fun c3 => ?_) <;> simp [c3] at hr ⊢
          · first | exact hr | (subst hr; rfl) | (subst hr; simp; done) | (subst hr; simp [ht]; done)
          · first | exact hr | (subst hr; rfl) | (subst hr; simp; done) | (subst hr; simp [ht]; done)
        · first | exact hr | (subst hr; rfl) | (subst hr; simp; done) | (subst hr; simp [ht]; done)
      · first | exact hr | (subst hr; rfl) | (subst hr; simp; done) | (subst hr; simp [ht]; done)
  · simp [Tryz.f49, edA, edE]
    have hin : inB 3 1 10 = true := rfl
    refine CallA.snapE (inamed_spec hZ hG path he.1) (by simp) (by simp) ?_
    simp
    refine W_drawB hZ hmo 2 rfl 0 11 [(2, []), (2, []), (2, []), (2, []), (2, []), (2, []), (2, []), (2, []), (2, []), (2, []), (2, [])] (by kernel_rfl) ?_
    simp
    refine CallA.snapE (inamed_spec hZ hG tw he.2) (by simp) (by simp) ?_
    simp
    refine CallA.snapE (within_spec hZ 3 1 10) (by simp) (by simp) ?_
    simp [hin] at hr ⊢
    refine Br.bool (fun c1 => ?_) (fun c1 => ?_) <;> simp [c1] at hr ⊢
    · refine Br.dec (fun c2 => ?_) (fun c2 => ?_) <;> simp [c2] at hr ⊢
      · refine Br.dec (fun c3 => ?_) (fun c3 => ?_) <;> simp [c3] at hr ⊢
        · first | exact hr | (subst hr; rfl) | (subst hr; simp; done) | (subst hr; simp [ht]; done)
        · first | exact hr | (subst hr; rfl) | (subst hr; simp; done) | (subst hr; simp [ht]; done)
      · first | exact hr | (subst hr; rfl) | (subst hr; simp; done) | (subst hr; simp [ht]; done)
    · first | exact hr | (subst hr; rfl) | (subst hr; simp; done) | (subst hr; simp [ht]; done)
  · simp [Tryz.f49, edA, edE, hk]
    by_cases ht : tw = ⟨#[]⟩
    · have hto := hto ht
      subst ht
      simp [hto] at hr
      refine CallA.snapE (inamed_spec hZ hG path he.1) (by simp) (by simp) ?_
      simp [hk]
      refine W_drawB hZ hmo 2 rfl 0 11 [(2, []), (2, []), (2, []), (2, []), (2, []), (2, []), (2, []), (2, []), (2, []), (2, []), (2, [])] (by kernel_rfl) ?_
      simp [hk]
      refine CallA.snapE (within_spec hZ kind 1 10) (by simp) (by simp) ?_
      simp
      refine Br.bool (fun i1 => ?_) (fun i1 => ?_) <;> simp [hk, i1] at hr ⊢
      · refine Br.bool (fun c1 => ?_) (fun c1 => ?_) <;> simp [hk, c1] at hr ⊢
        · refine Br.dec (fun c2 => ?_) (fun c2 => ?_) <;> simp [hk, c2] at hr ⊢
          · refine Br.dec (fun c3 => ?_) (fun c3 => ?_) <;> simp [hk, c3] at hr ⊢
            · first | exact hr | (subst hr; rfl) | (subst hr; simp; done) | (subst hr; simp [ht]; done)
            · first | exact hr | (subst hr; rfl) | (subst hr; simp; done) | (subst hr; simp [ht]; done)
          · first | exact hr | (subst hr; rfl) | (subst hr; simp; done) | (subst hr; simp [ht]; done)
        · first | exact hr | (subst hr; rfl) | (subst hr; simp; done) | (subst hr; simp [ht]; done)
      · first | exact hr | (subst hr; rfl) | (subst hr; simp; done) | (subst hr; simp [ht]; done)
    · simp [ht] at hr
      refine CallA.snapE (inamed_spec hZ hG path he.1) (by simp) (by simp) ?_
      simp [hk]
      refine W_drawB hZ hmo 2 rfl 0 11 [(2, []), (2, []), (2, []), (2, []), (2, []), (2, []), (2, []), (2, []), (2, []), (2, []), (2, [])] (by kernel_rfl) ?_
      simp [hk]
      refine CallA.snapE (within_spec hZ kind 1 10) (by simp) (by simp) ?_
      simp
      refine Br.bool (fun i1 => ?_) (fun i1 => ?_) <;> simp [hk, i1] at hr ⊢
      · refine Br.bool (fun c1 => ?_) (fun c1 => ?_) <;> simp [hk, c1] at hr ⊢
        · refine Br.dec (fun c2 => ?_) (fun c2 => ?_) <;> simp [hk, c2] at hr ⊢
          · refine Br.dec (fun c3 => ?_) (fun c3 => ?_) <;> simp [hk, c3] at hr ⊢
            · first | exact hr | (subst hr; rfl) | (subst hr; simp; done) | (subst hr; simp [ht]; done)
            · first | exact hr | (subst hr; rfl) | (subst hr; simp; done) | (subst hr; simp [ht]; done)
          · first | exact hr | (subst hr; rfl) | (subst hr; simp; done) | (subst hr; simp [ht]; done)
        · first | exact hr | (subst hr; rfl) | (subst hr; simp; done) | (subst hr; simp [ht]; done)
      · first | exact hr | (subst hr; rfl) | (subst hr; simp; done) | (subst hr; simp [ht]; done)
end Go.Proofs.YtbhbkaonlillhaaGreatDoor
