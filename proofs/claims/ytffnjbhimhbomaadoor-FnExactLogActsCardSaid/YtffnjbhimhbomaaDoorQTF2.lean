/- Walks, as the kit's print writes them, run with stubs of my own and mended: TF. -/
import Derived.Test.YtffnjbhimhbomaaDoorQTF0
import Derived.Test.YtffnjbhimhbomaaDoorQTA1
namespace Go.Proofs.YtffnjbhimhbomaaDoor.QTF
open Go.Proofs.YtffnjbhimhbomaaDoor.QTA Go.Proofs.YtffnjbhimhbomaaDoor.QTB Go.Proofs.YtffnjbhimhbomaaDoor.QTC Go.Proofs.YtffnjbhimhbomaaDoor.QTD Go.Proofs.YtffnjbhimhbomaaDoor.QTE
open Go.Proofs.YtffnjbhimhbomaaDoorW Go.Proofs.YtffnjbhimhbomaaDoorW.Zip
open Go.RowKit Go.Proofs.YtffnjbhimhbomaaDoorW.PrintWords Go.Proofs.YtffnjbhimhbomaaDoorW.PrintLast Go.Proofs.YtffnjbhimhbomaaDoorW.PrintMore
attribute [local go_sem] max2_int min2_int max_two min_two max_three min_three max_four min_four   -- for this text's walks alone
set_option linter.unusedVariables false
set_option linter.unusedSimpArgs false
def laws_markActS.l0 : Nat → List (S66) → Int → Int → Option (Int × (List (S66)))
  | 0, _, _, _ => none
  | k + 1, x0, x1, x5 => if x5 < (x0.length : Int) then (if 0 ≤ x5 then ((some (x0.set (x5 : Int).toNat (⟨x1, (rd_T66 x0 x5).f1, (rd_T66 x0 x5).f2, (rd_T66 x0 x5).f3⟩ : S66) : List (S66))).bind fun y267 => ((laws_markText.f k (wrap64 (x1 + 1))).bind fun t268 => ((some (y267.set (x5 : Int).toNat (⟨(rd_T66 y267 x5).f0, t268, (rd_T66 y267 x5).f2, (rd_T66 y267 x5).f3⟩ : S66) : List (S66))).bind fun y269 => ((laws_markText.f k (wrap64 ((wrap64 (x1 + 1)) + 1))).bind fun t270 => ((some (y269.set (x5 : Int).toNat (⟨(rd_T66 y269 x5).f0, (rd_T66 y269 x5).f1, t270, (rd_T66 y269 x5).f3⟩ : S66) : List (S66))).bind fun y271 => ((laws_markText.f k (wrap64 ((wrap64 ((wrap64 (x1 + 1)) + 1)) + 1))).bind fun t272 => (laws_markActS.l0 k (y271.set (x5 : Int).toNat (⟨(rd_T66 y271 x5).f0, (rd_T66 y271 x5).f1, (rd_T66 y271 x5).f2, t272⟩ : S66)) (wrap64 ((wrap64 ((wrap64 ((wrap64 (x1 + 1)) + 1)) + 1)) + 1)) (wrap64 (x5 + 1))))))))) else (none)) else (some (x1, x0))
def laws_markActS.f (k : Nat) (l0 : List (S66)) (a1 : Int) : Option (Int × (List (S66))) := laws_markActS.l0 k l0 a1 0
set_option maxHeartbeats 8000000 in
set_option maxRecDepth 100000 in
theorem laws_markActS.calls (k : Nat) (P0_ : Nat → Prop) (u9000_ : Value) (l0 : List (S66)) (a1 : Int) (r1 : Int) (r2 : List (S66)) (w0 w : World) (hB : Below w0.heap.size w0 w) (ho0 : Kd.R k66 66 w w0.heap.size P0_ u9000_ l0) (h : laws_markActS.f k l0 a1 = some (r1, r2)) :
    Calls Tryd.prog 29 #[u9000_, .int .i64 a1] w fun e w' => e = .returned (.int .i64 r1) ∧ Kd.R k66 66 w' w0.heap.size (fun k_ => (P0_ k_ ∨ w.heap.size ≤ k_)) u9000_ r2 ∧ Below w0.heap.size w0 w' ∧ Kept w w' (fun k_ => P0_ k_) := by
  have HO0 := Aside0.mk (show Kd.R k66 66 w w0.heap.size (fun k_ => (P0_ k_ ∨ w.heap.size ≤ k_)) u9000_ l0 from Kd.R_mono ho0 (fun k_ hk => (.inl hk)))
  have HK := Aside0.mk (Kept.refl w (fun k_ => P0_ k_))
  have HW0 := Aside0.mk hB.size
  have HB := Aside0.mk hB
  clear hB
  have H : (laws_markActS.l0 k l0 a1 0) = some (r1, r2) := h
  clear h
  have H' := Aside0.mk H
  clear H
  go_enter Tryd.func29, Tryd.ntmps29
  go_wp2
  go_loopg [1, 5] k (fun kq v1 v5 w' => ∃ (x0_1 : List (S66)) (x1_1 : Int) (x5_1 : Int), v1 = .int .i64 x1_1 ∧ v5 = .int .i64 x5_1 ∧ Aside0 (laws_markActS.l0 kq x0_1 x1_1 x5_1 = some (r1, r2)) ∧ Aside0 (kq ≤ k) ∧ Aside0 (Kd.R k66 66 w' w0.heap.size (fun k_ => (P0_ k_ ∨ w.heap.size ≤ k_)) u9000_ x0_1) ∧ Aside0 (Kept w w' (fun k_ => P0_ k_)) ∧ Aside0 (Below w0.heap.size w0 w'))
  case atStart => exact ⟨(l0), (a1), (0), eqa, eqa, H', ⟨Nat.le_refl _⟩, ⟨by (with_reducible repeat (first | apply Kd.R_alloc | apply Kd.R_drewN | apply Kd.R_drew)); exact HO0.out⟩, ⟨by repeat (first | (with_reducible first | exact HK.out | apply Kept.alloc | apply Kept.drewN | apply Kept.drew) | exact HK.out)⟩, ⟨pl0 HB.out⟩⟩
  case round =>
   clear H'
   obtain ⟨x0_1, x1_1, x5_1, rfl, rfl, HA, HK1, HO_0, HK, HB⟩ := hrel
   cases gk with
   | zero => exact absurd HA.out (by simp [laws_markActS.l0])
   | succ k1 =>
    have H := HA.out
    clear HA
    simp only [laws_markActS.l0] at H
    by_cases c3 : x5_1 < (x0_1.length : Int)
    ·rw [if_pos c3] at H
     have c3b0 : decide (x5_1 < (x0_1.length : Int)) = true := decide_eq_true c3
     clear c3
     by_cases c4 : 0 ≤ x5_1
     ·rw [if_pos c4] at H
      have c4b0 : decide (0 ≤ x5_1) = true := decide_eq_true c4
      clear c4
      obtain ⟨y267, hy267⟩ : ∃ y_ : List (S66), y_ = (x0_1.set (x5_1 : Int).toNat (⟨x1_1, (rd_T66 x0_1 x5_1).f1, (rd_T66 x0_1 x5_1).f2, (rd_T66 x0_1 x5_1).f3⟩ : S66)) := ⟨_, rfl⟩
      replace H : ((laws_markText.f k1 (wrap64 (x1_1 + 1))).bind fun t268 => ((some (y267.set (x5_1 : Int).toNat (⟨(rd_T66 y267 x5_1).f0, t268, (rd_T66 y267 x5_1).f2, (rd_T66 y267 x5_1).f3⟩ : S66) : List (S66))).bind fun y269 => ((laws_markText.f k1 (wrap64 ((wrap64 (x1_1 + 1)) + 1))).bind fun t270 => ((some (y269.set (x5_1 : Int).toNat (⟨(rd_T66 y269 x5_1).f0, (rd_T66 y269 x5_1).f1, t270, (rd_T66 y269 x5_1).f3⟩ : S66) : List (S66))).bind fun y271 => ((laws_markText.f k1 (wrap64 ((wrap64 ((wrap64 (x1_1 + 1)) + 1)) + 1))).bind fun t272 => (laws_markActS.l0 k1 (y271.set (x5_1 : Int).toNat (⟨(rd_T66 y271 x5_1).f0, (rd_T66 y271 x5_1).f1, (rd_T66 y271 x5_1).f2, t272⟩ : S66)) (wrap64 ((wrap64 ((wrap64 ((wrap64 (x1_1 + 1)) + 1)) + 1)) + 1)) (wrap64 (x5_1 + 1)))))))) = some (r1, r2) := by first | (rw [hy267]; with_reducible exact H) | (have H2_ := (Option.bind_some _ _).symm.trans H; rw [hy267]; with_reducible exact H2_) | (have H2_ := (Option.bind_some _ _).symm.trans H; with_reducible exact H2_) | with_reducible exact H | (rw [hy267]; exact H) | exact H
      have Ny267 := Aside0.mk hy267
      clear hy267
      replace H := Option.bind_eq_some_iff.mp H
      obtain ⟨t268, A60, H⟩ := H
      replace H : ((some (y267.set (x5_1 : Int).toNat (⟨(rd_T66 y267 x5_1).f0, t268, (rd_T66 y267 x5_1).f2, (rd_T66 y267 x5_1).f3⟩ : S66) : List (S66))).bind fun y269 => ((laws_markText.f k1 (wrap64 ((wrap64 (x1_1 + 1)) + 1))).bind fun t270 => ((some (y269.set (x5_1 : Int).toNat (⟨(rd_T66 y269 x5_1).f0, (rd_T66 y269 x5_1).f1, t270, (rd_T66 y269 x5_1).f3⟩ : S66) : List (S66))).bind fun y271 => ((laws_markText.f k1 (wrap64 ((wrap64 ((wrap64 (x1_1 + 1)) + 1)) + 1))).bind fun t272 => (laws_markActS.l0 k1 (y271.set (x5_1 : Int).toNat (⟨(rd_T66 y271 x5_1).f0, (rd_T66 y271 x5_1).f1, (rd_T66 y271 x5_1).f2, t272⟩ : S66)) (wrap64 ((wrap64 ((wrap64 ((wrap64 (x1_1 + 1)) + 1)) + 1)) + 1)) (wrap64 (x5_1 + 1))))))) = some (r1, r2) := H
      have A6 := Aside0.mk A60
      clear A60
      obtain ⟨y269, hy269⟩ : ∃ y_ : List (S66), y_ = (y267.set (x5_1 : Int).toNat (⟨(rd_T66 y267 x5_1).f0, t268, (rd_T66 y267 x5_1).f2, (rd_T66 y267 x5_1).f3⟩ : S66)) := ⟨_, rfl⟩
      replace H : ((laws_markText.f k1 (wrap64 ((wrap64 (x1_1 + 1)) + 1))).bind fun t270 => ((some (y269.set (x5_1 : Int).toNat (⟨(rd_T66 y269 x5_1).f0, (rd_T66 y269 x5_1).f1, t270, (rd_T66 y269 x5_1).f3⟩ : S66) : List (S66))).bind fun y271 => ((laws_markText.f k1 (wrap64 ((wrap64 ((wrap64 (x1_1 + 1)) + 1)) + 1))).bind fun t272 => (laws_markActS.l0 k1 (y271.set (x5_1 : Int).toNat (⟨(rd_T66 y271 x5_1).f0, (rd_T66 y271 x5_1).f1, (rd_T66 y271 x5_1).f2, t272⟩ : S66)) (wrap64 ((wrap64 ((wrap64 ((wrap64 (x1_1 + 1)) + 1)) + 1)) + 1)) (wrap64 (x5_1 + 1)))))) = some (r1, r2) := by first | (rw [hy269]; with_reducible exact H) | (have H2_ := (Option.bind_some _ _).symm.trans H; rw [hy269]; with_reducible exact H2_) | (have H2_ := (Option.bind_some _ _).symm.trans H; with_reducible exact H2_) | with_reducible exact H | (rw [hy269]; exact H) | exact H
      have Ny269 := Aside0.mk hy269
      clear hy269
      replace H := Option.bind_eq_some_iff.mp H
      obtain ⟨t270, A80, H⟩ := H
      replace H : ((some (y269.set (x5_1 : Int).toNat (⟨(rd_T66 y269 x5_1).f0, (rd_T66 y269 x5_1).f1, t270, (rd_T66 y269 x5_1).f3⟩ : S66) : List (S66))).bind fun y271 => ((laws_markText.f k1 (wrap64 ((wrap64 ((wrap64 (x1_1 + 1)) + 1)) + 1))).bind fun t272 => (laws_markActS.l0 k1 (y271.set (x5_1 : Int).toNat (⟨(rd_T66 y271 x5_1).f0, (rd_T66 y271 x5_1).f1, (rd_T66 y271 x5_1).f2, t272⟩ : S66)) (wrap64 ((wrap64 ((wrap64 ((wrap64 (x1_1 + 1)) + 1)) + 1)) + 1)) (wrap64 (x5_1 + 1))))) = some (r1, r2) := H
      have A8 := Aside0.mk A80
      clear A80
      obtain ⟨y271, hy271⟩ : ∃ y_ : List (S66), y_ = (y269.set (x5_1 : Int).toNat (⟨(rd_T66 y269 x5_1).f0, (rd_T66 y269 x5_1).f1, t270, (rd_T66 y269 x5_1).f3⟩ : S66)) := ⟨_, rfl⟩
      replace H : ((laws_markText.f k1 (wrap64 ((wrap64 ((wrap64 (x1_1 + 1)) + 1)) + 1))).bind fun t272 => (laws_markActS.l0 k1 (y271.set (x5_1 : Int).toNat (⟨(rd_T66 y271 x5_1).f0, (rd_T66 y271 x5_1).f1, (rd_T66 y271 x5_1).f2, t272⟩ : S66)) (wrap64 ((wrap64 ((wrap64 ((wrap64 (x1_1 + 1)) + 1)) + 1)) + 1)) (wrap64 (x5_1 + 1)))) = some (r1, r2) := by first | (rw [hy271]; with_reducible exact H) | (have H2_ := (Option.bind_some _ _).symm.trans H; rw [hy271]; with_reducible exact H2_) | (have H2_ := (Option.bind_some _ _).symm.trans H; with_reducible exact H2_) | with_reducible exact H | (rw [hy271]; exact H) | exact H
      have Ny271 := Aside0.mk hy271
      clear hy271
      replace H := Option.bind_eq_some_iff.mp H
      obtain ⟨t272, A100, H⟩ := H
      replace H : (laws_markActS.l0 k1 (y271.set (x5_1 : Int).toNat (⟨(rd_T66 y271 x5_1).f0, (rd_T66 y271 x5_1).f1, (rd_T66 y271 x5_1).f2, t272⟩ : S66)) (wrap64 ((wrap64 ((wrap64 ((wrap64 (x1_1 + 1)) + 1)) + 1)) + 1)) (wrap64 (x5_1 + 1))) = some (r1, r2) := H
      have A10 := Aside0.mk A100
      clear A100
      obtain ⟨y273, hy273⟩ : ∃ y_ : List (S66), y_ = (y271.set (x5_1 : Int).toNat (⟨(rd_T66 y271 x5_1).f0, (rd_T66 y271 x5_1).f1, (rd_T66 y271 x5_1).f2, t272⟩ : S66)) := ⟨_, rfl⟩
      replace H : (laws_markActS.l0 k1 y273 (wrap64 ((wrap64 ((wrap64 ((wrap64 (x1_1 + 1)) + 1)) + 1)) + 1)) (wrap64 (x5_1 + 1))) = some (r1, r2) := by first | (rw [hy273]; with_reducible exact H) | (have H2_ := (Option.bind_some _ _).symm.trans H; rw [hy273]; with_reducible exact H2_) | (have H2_ := (Option.bind_some _ _).symm.trans H; with_reducible exact H2_) | with_reducible exact H | (rw [hy273]; exact H) | exact H
      have Ny273 := Aside0.mk hy273
      clear hy273
      have H' := Aside0.mk H
      clear H
      obtain ⟨Ao12, co12, eo12⟩ := Kd.R_slice HO_0.out
      subst eo12
      have p5 : 0 ≤ (x5_1 : Int) := oda
      have q5 : (x5_1 : Int) < ((x0_1.length : Int) : Int) := oda
      obtain ⟨go5, co5, eo5, gb5, gl5, cl5, HG5⟩ := Kd.R_form HO_0.out (by omega)
      (first | cases eo5 | (injection eo5 with ea_ en_ ec_; (first | subst ea_ | (injection ea_ with ea_; subst ea_)); subst ec_; clear en_))
      have GB5 := Aside0.mk gb5
      have GG5 := Aside0.mk HG5
      clear gb5 gl5 HG5
      have HMgo5 := Aside0.mk (show (P0_ go5 ∨ w.heap.size ≤ go5) from (HO_0.out.1 _ rfl))
      obtain ⟨ce5, hcl5, hM5, hcc5, hfr5⟩ := Kd.R_elem HO_0.out z66 (x5_1 : Int) p5 q5
      obtain rfl := k66_openM hM5
      have hx5_0 : wr.cell? ⟨go5, (x5_1 : Int).toNat * 4, none⟩ = some (.int .i64 ((rd_T66 x0_1 x5_1).f0)) := hcc5 0 _ rfl
      have hx5_1 : wr.cell? ⟨go5, (x5_1 : Int).toNat * 4 + 1, none⟩ = some (.string ((rd_T66 x0_1 x5_1).f1)) := hcc5 1 _ rfl
      have hx5_2 : wr.cell? ⟨go5, (x5_1 : Int).toNat * 4 + 2, none⟩ = some (.string ((rd_T66 x0_1 x5_1).f2)) := hcc5 2 _ rfl
      have hx5_3 : wr.cell? ⟨go5, (x5_1 : Int).toNat * 4 + 3, none⟩ = some (.string ((rd_T66 x0_1 x5_1).f3)) := hcc5 3 _ rfl
      have hf5_0 : wr.frozen? ⟨go5, (x5_1 : Int).toNat * 4, none⟩ = false := hfr5 0
      have hf5_1 : wr.frozen? ⟨go5, (x5_1 : Int).toNat * 4 + 1, none⟩ = false := hfr5 1
      have hf5_2 : wr.frozen? ⟨go5, (x5_1 : Int).toNat * 4 + 2, none⟩ = false := hfr5 2
      have hf5_3 : wr.frozen? ⟨go5, (x5_1 : Int).toNat * 4 + 3, none⟩ = false := hfr5 3
      clear hcl5 hcc5 hfr5 hM5
      replace p5 := eq_true p5
      replace q5 := eq_true q5
      have HX13 := Aside0.mk (show Kd.R k66 66 wr w0.heap.size (fun k_ => (P0_ k_ ∨ w.heap.size ≤ k_)) (.slice (some ⟨go5, 0, none⟩) x0_1.length co12) x0_1 from (by (with_reducible repeat (first | apply Kd.R_alloc | apply Kd.R_drewN | apply Kd.R_drew)); exact HO_0.out))
      obtain ⟨ce13, hcl13, hM13, hcc13, hfr13⟩ := Kd.R_elem HX13.out z66 (x5_1 : Int) (of_decide_eq_true (by first | (with_reducible assumption) | assumption)) (by have h_ : (x5_1 : Int) < ((x0_1.length : Int) : Int) := oda; first | exact h_ | (have e_ := (Kd.R_reads' HO_0.out).1; omega) | simpa using h_)
      obtain rfl := k66_openM hM13
      have HP13 := Kd.R_seg HX13.out (x5_1 : Int) (of_decide_eq_true (by first | (with_reducible assumption) | assumption)) (by have h_ : (x5_1 : Int) < ((x0_1.length : Int) : Int) := oda; first | exact h_ | (have e_ := (Kd.R_reads' HO_0.out).1; omega) | simpa using h_) (seg := [.int .i64 x1_1]) (j := 0) hcl13 hcc13 (show 1 ≤ 4 from by decide) (x' := (⟨x1_1, (rd_T66 x0_1 x5_1).f1, (rd_T66 x0_1 x5_1).f2, (rd_T66 x0_1 x5_1).f3⟩ : S66)) (k66_mkM _ _ _ (⟨x1_1, (rd_T66 x0_1 x5_1).f1, (rd_T66 x0_1 x5_1).f2, (rd_T66 x0_1 x5_1).f3⟩ : S66) ) (fun _ hk => hk)
      have hx13_0 := hcc13 0 _ rfl
      (try simp only [show (k66).sz = 4 from rfl, Nat.mul_one, Nat.add_zero] at hx13_0)
      have hf13_0 := hfr13 0
      (try simp only [show (k66).sz = 4 from rfl, Nat.mul_one, Nat.add_zero] at hf13_0)
      clear hcl13 hcc13 hfr13 hM13
      go_wp2_with (first | ((with_reducible refine gate_store (t := 3) (p := 16) rfl ?_); refine store_event (t := 3) (p := 16) (v := ?vo_w14) (w1 := (wr.setCell ⟨go5, (x5_1 : Int).toNat * 4, none⟩ (.int .i64 x1_1))) ?hg ?ho ?hn ?hr ?_; (case ho => rfl); (case hg => rfl); (case hn => rfl); (case hr => first | (go_simp; done) | (go_simp; rfl)); intro w14 hw; have hg : wr.grownBy w14 (some go5) := (by rw [hw]; exact HP13.2); have hp_ : Kd.R k66 66 w14 w0.heap.size (fun k_ => (P0_ k_ ∨ w.heap.size ≤ k_)) (.slice (some ⟨go5, 0, none⟩) x0_1.length co12) y267 := (by rw [hw, Ny267.out]; exact HP13.1); clear HP13; have n0_ := Aside0.mk (hp_); have n1_ := Aside0.mk ((by rw [hw]; exact below_set (HB.out) GB5.out : Below w0.heap.size w0 w14)); have n2_ := Aside0.mk (Kept.of_grown (S := (fun k_ => P0_ k_)) hg (by repeat (first | (with_reducible first | exact HK.out | apply Kept.alloc | apply Kept.drewN | apply Kept.drew) | exact HK.out)) (fun k_ e_ => (HO_0.out.1 k_ e_))); clear HO_0; clear HB; clear HK; have HO_0 := n0_; have HB := n1_; have HK := n2_; clear n0_ n1_ n2_; clear hg hw hp_) | ((with_reducible refine gate_callee (f := 42) rfl ?_); refine goesL_ (some 22) rfl rfl Tryd.func42 (by kernel_rfl) rfl #[.int .i64 (wrap64 (x1_1 + 1))] rfl (by (try simp only [List.map_toArray, List.map_cons, List.map_nil]); first | done | rfl | (simp only [List.length_drop, List.length_take]; rfl)) ?_; (with_reducible refine (laws_markText.calls k1 (wrap64 (x1_1 + 1)) t268 _ A6.out).mono ?_); rintro e w15 ⟨rfl, hb⟩; refine ⟨_, rfl, ?_⟩; have n0_ := Aside0.mk (Kd.R_below (by (with_reducible repeat (first | apply Kd.R_alloc | apply Kd.R_drewN | apply Kd.R_drew)); exact HO_0.out) hb); have n1_ := Aside0.mk (Kept.below (S := (fun k_ => P0_ k_)) (by repeat (first | (with_reducible first | exact HK.out | apply Kept.alloc | apply Kept.drewN | apply Kept.drew) | exact HK.out)) hb); have n2_ := Aside0.mk (below_step (pl0 HB.out) hb); clear HO_0; clear HK; clear HB; have HO_0 := n0_; have HK := n1_; have HB := n2_; clear n0_ n1_ n2_; (try clear hb); (try clear hb2); (try clear hk); (try clear hi); have p7 : 0 ≤ (x5_1 : Int) := oda; have q7 : (x5_1 : Int) < ((x0_1.length : Int) : Int) := oda; obtain ⟨ce7, hcl7, hM7, hcc7, hfr7⟩ := Kd.R_elem HO_0.out z66 (x5_1 : Int) p7 q7; obtain rfl := k66_openM hM7; have hx7_0 : w15.cell? ⟨go5, (x5_1 : Int).toNat * 4, none⟩ = some (.int .i64 ((rd_T66 y267 x5_1).f0)) := hcc7 0 _ rfl; have hx7_1 : w15.cell? ⟨go5, (x5_1 : Int).toNat * 4 + 1, none⟩ = some (.string ((rd_T66 y267 x5_1).f1)) := hcc7 1 _ rfl; have hx7_2 : w15.cell? ⟨go5, (x5_1 : Int).toNat * 4 + 2, none⟩ = some (.string ((rd_T66 y267 x5_1).f2)) := hcc7 2 _ rfl; have hx7_3 : w15.cell? ⟨go5, (x5_1 : Int).toNat * 4 + 3, none⟩ = some (.string ((rd_T66 y267 x5_1).f3)) := hcc7 3 _ rfl; have hf7_0 : w15.frozen? ⟨go5, (x5_1 : Int).toNat * 4, none⟩ = false := hfr7 0; have hf7_1 : w15.frozen? ⟨go5, (x5_1 : Int).toNat * 4 + 1, none⟩ = false := hfr7 1; have hf7_2 : w15.frozen? ⟨go5, (x5_1 : Int).toNat * 4 + 2, none⟩ = false := hfr7 2; have hf7_3 : w15.frozen? ⟨go5, (x5_1 : Int).toNat * 4 + 3, none⟩ = false := hfr7 3; clear hcl7 hcc7 hfr7 hM7; replace p7 := eq_true p7; replace q7 := eq_true q7; have HX16 := Aside0.mk (show Kd.R k66 66 w15 w0.heap.size (fun k_ => (P0_ k_ ∨ w.heap.size ≤ k_)) (.slice (some ⟨go5, 0, none⟩) x0_1.length co12) y267 from (by (with_reducible repeat (first | apply Kd.R_alloc | apply Kd.R_drewN | apply Kd.R_drew)); exact HO_0.out)); obtain ⟨ce16, hcl16, hM16, hcc16, hfr16⟩ := Kd.R_elem HX16.out z66 (x5_1 : Int) (of_decide_eq_true (by first | (with_reducible assumption) | assumption)) (by have h_ : (x5_1 : Int) < ((x0_1.length : Int) : Int) := oda; first | exact h_ | (have e_ := (Kd.R_reads' HO_0.out).1; omega) | simpa using h_); obtain rfl := k66_openM hM16; have HP16 := Kd.R_seg HX16.out (x5_1 : Int) (of_decide_eq_true (by first | (with_reducible assumption) | assumption)) (by have h_ : (x5_1 : Int) < ((x0_1.length : Int) : Int) := oda; first | exact h_ | (have e_ := (Kd.R_reads' HO_0.out).1; omega) | simpa using h_) (seg := [.string t268]) (j := 1) hcl16 hcc16 (show 2 ≤ 4 from by decide) (x' := (⟨(rd_T66 y267 x5_1).f0, t268, (rd_T66 y267 x5_1).f2, (rd_T66 y267 x5_1).f3⟩ : S66)) (k66_mkM _ _ _ (⟨(rd_T66 y267 x5_1).f0, t268, (rd_T66 y267 x5_1).f2, (rd_T66 y267 x5_1).f3⟩ : S66) ) (fun _ hk => hk); have hx16_1 := hcc16 1 _ rfl; (try simp only [show (k66).sz = 4 from rfl, Nat.mul_one, Nat.add_zero] at hx16_1); have hf16_1 := hfr16 1; (try simp only [show (k66).sz = 4 from rfl, Nat.mul_one, Nat.add_zero] at hf16_1); clear hcl16 hcc16 hfr16 hM16) | ((with_reducible refine gate_store (t := 9) (p := 24) rfl ?_); refine store_event (t := 9) (p := 24) (v := ?vo_w17) (w1 := (w15.setCell ⟨go5, (x5_1 : Int).toNat * 4 + 1, none⟩ (.string t268))) ?hg ?ho ?hn ?hr ?_; (case ho => rfl); (case hg => rfl); (case hn => rfl); (case hr => first | (go_simp; done) | (go_simp; rfl)); intro w17 hw; have hg : w15.grownBy w17 (some go5) := (by rw [hw]; exact HP16.2); have hp_ : Kd.R k66 66 w17 w0.heap.size (fun k_ => (P0_ k_ ∨ w.heap.size ≤ k_)) (.slice (some ⟨go5, 0, none⟩) x0_1.length co12) y269 := (by rw [hw, Ny269.out]; exact HP16.1); clear HP16; have n0_ := Aside0.mk (hp_); have n1_ := Aside0.mk ((by rw [hw]; exact below_set (HB.out) GB5.out : Below w0.heap.size w0 w17)); have n2_ := Aside0.mk (Kept.of_grown (S := (fun k_ => P0_ k_)) hg (by repeat (first | (with_reducible first | exact HK.out | apply Kept.alloc | apply Kept.drewN | apply Kept.drew) | exact HK.out)) (fun k_ e_ => (HO_0.out.1 k_ e_))); clear HO_0; clear HB; clear HK; have HO_0 := n0_; have HB := n1_; have HK := n2_; clear n0_ n1_ n2_; clear hg hw hp_) | ((with_reducible refine gate_callee (f := 42) rfl ?_); refine goesL_ (some 30) rfl rfl Tryd.func42 (by kernel_rfl) rfl #[.int .i64 (wrap64 ((wrap64 (x1_1 + 1)) + 1))] rfl (by (try simp only [List.map_toArray, List.map_cons, List.map_nil]); first | done | rfl | (simp only [List.length_drop, List.length_take]; rfl)) ?_; (with_reducible refine (laws_markText.calls k1 (wrap64 ((wrap64 (x1_1 + 1)) + 1)) t270 _ A8.out).mono ?_); rintro e w18 ⟨rfl, hb⟩; refine ⟨_, rfl, ?_⟩; have n0_ := Aside0.mk (Kd.R_below (by (with_reducible repeat (first | apply Kd.R_alloc | apply Kd.R_drewN | apply Kd.R_drew)); exact HO_0.out) hb); have n1_ := Aside0.mk (Kept.below (S := (fun k_ => P0_ k_)) (by repeat (first | (with_reducible first | exact HK.out | apply Kept.alloc | apply Kept.drewN | apply Kept.drew) | exact HK.out)) hb); have n2_ := Aside0.mk (below_step (pl0 HB.out) hb); clear HO_0; clear HK; clear HB; have HO_0 := n0_; have HK := n1_; have HB := n2_; clear n0_ n1_ n2_; (try clear hb); (try clear hb2); (try clear hk); (try clear hi); have p9 : 0 ≤ (x5_1 : Int) := oda; have q9 : (x5_1 : Int) < ((x0_1.length : Int) : Int) := oda; obtain ⟨ce9, hcl9, hM9, hcc9, hfr9⟩ := Kd.R_elem HO_0.out z66 (x5_1 : Int) p9 q9; obtain rfl := k66_openM hM9; have hx9_0 : w18.cell? ⟨go5, (x5_1 : Int).toNat * 4, none⟩ = some (.int .i64 ((rd_T66 y269 x5_1).f0)) := hcc9 0 _ rfl; have hx9_1 : w18.cell? ⟨go5, (x5_1 : Int).toNat * 4 + 1, none⟩ = some (.string ((rd_T66 y269 x5_1).f1)) := hcc9 1 _ rfl; have hx9_2 : w18.cell? ⟨go5, (x5_1 : Int).toNat * 4 + 2, none⟩ = some (.string ((rd_T66 y269 x5_1).f2)) := hcc9 2 _ rfl; have hx9_3 : w18.cell? ⟨go5, (x5_1 : Int).toNat * 4 + 3, none⟩ = some (.string ((rd_T66 y269 x5_1).f3)) := hcc9 3 _ rfl; have hf9_0 : w18.frozen? ⟨go5, (x5_1 : Int).toNat * 4, none⟩ = false := hfr9 0; have hf9_1 : w18.frozen? ⟨go5, (x5_1 : Int).toNat * 4 + 1, none⟩ = false := hfr9 1; have hf9_2 : w18.frozen? ⟨go5, (x5_1 : Int).toNat * 4 + 2, none⟩ = false := hfr9 2; have hf9_3 : w18.frozen? ⟨go5, (x5_1 : Int).toNat * 4 + 3, none⟩ = false := hfr9 3; clear hcl9 hcc9 hfr9 hM9; replace p9 := eq_true p9; replace q9 := eq_true q9; have HX19 := Aside0.mk (show Kd.R k66 66 w18 w0.heap.size (fun k_ => (P0_ k_ ∨ w.heap.size ≤ k_)) (.slice (some ⟨go5, 0, none⟩) x0_1.length co12) y269 from (by (with_reducible repeat (first | apply Kd.R_alloc | apply Kd.R_drewN | apply Kd.R_drew)); exact HO_0.out)); obtain ⟨ce19, hcl19, hM19, hcc19, hfr19⟩ := Kd.R_elem HX19.out z66 (x5_1 : Int) (of_decide_eq_true (by first | (with_reducible assumption) | assumption)) (by have h_ : (x5_1 : Int) < ((x0_1.length : Int) : Int) := oda; first | exact h_ | (have e_ := (Kd.R_reads' HO_0.out).1; omega) | simpa using h_); obtain rfl := k66_openM hM19; have HP19 := Kd.R_seg HX19.out (x5_1 : Int) (of_decide_eq_true (by first | (with_reducible assumption) | assumption)) (by have h_ : (x5_1 : Int) < ((x0_1.length : Int) : Int) := oda; first | exact h_ | (have e_ := (Kd.R_reads' HO_0.out).1; omega) | simpa using h_) (seg := [.string t270]) (j := 2) hcl19 hcc19 (show 3 ≤ 4 from by decide) (x' := (⟨(rd_T66 y269 x5_1).f0, (rd_T66 y269 x5_1).f1, t270, (rd_T66 y269 x5_1).f3⟩ : S66)) (k66_mkM _ _ _ (⟨(rd_T66 y269 x5_1).f0, (rd_T66 y269 x5_1).f1, t270, (rd_T66 y269 x5_1).f3⟩ : S66) ) (fun _ hk => hk); have hx19_2 := hcc19 2 _ rfl; (try simp only [show (k66).sz = 4 from rfl, Nat.mul_one, Nat.add_zero] at hx19_2); have hf19_2 := hfr19 2; (try simp only [show (k66).sz = 4 from rfl, Nat.mul_one, Nat.add_zero] at hf19_2); clear hcl19 hcc19 hfr19 hM19) | ((with_reducible refine gate_store (t := 9) (p := 32) rfl ?_); refine store_event (t := 9) (p := 32) (v := ?vo_w20) (w1 := (w18.setCell ⟨go5, (x5_1 : Int).toNat * 4 + 2, none⟩ (.string t270))) ?hg ?ho ?hn ?hr ?_; (case ho => rfl); (case hg => rfl); (case hn => rfl); (case hr => first | (go_simp; done) | (go_simp; rfl)); intro w20 hw; have hg : w18.grownBy w20 (some go5) := (by rw [hw]; exact HP19.2); have hp_ : Kd.R k66 66 w20 w0.heap.size (fun k_ => (P0_ k_ ∨ w.heap.size ≤ k_)) (.slice (some ⟨go5, 0, none⟩) x0_1.length co12) y271 := (by rw [hw, Ny271.out]; exact HP19.1); clear HP19; have n0_ := Aside0.mk (hp_); have n1_ := Aside0.mk ((by rw [hw]; exact below_set (HB.out) GB5.out : Below w0.heap.size w0 w20)); have n2_ := Aside0.mk (Kept.of_grown (S := (fun k_ => P0_ k_)) hg (by repeat (first | (with_reducible first | exact HK.out | apply Kept.alloc | apply Kept.drewN | apply Kept.drew) | exact HK.out)) (fun k_ e_ => (HO_0.out.1 k_ e_))); clear HO_0; clear HB; clear HK; have HO_0 := n0_; have HB := n1_; have HK := n2_; clear n0_ n1_ n2_; clear hg hw hp_) | ((with_reducible refine gate_callee (f := 42) rfl ?_); refine goesL_ (some 38) rfl rfl Tryd.func42 (by kernel_rfl) rfl #[.int .i64 (wrap64 ((wrap64 ((wrap64 (x1_1 + 1)) + 1)) + 1))] rfl (by (try simp only [List.map_toArray, List.map_cons, List.map_nil]); first | done | rfl | (simp only [List.length_drop, List.length_take]; rfl)) ?_; (with_reducible refine (laws_markText.calls k1 (wrap64 ((wrap64 ((wrap64 (x1_1 + 1)) + 1)) + 1)) t272 _ A10.out).mono ?_); rintro e w21 ⟨rfl, hb⟩; refine ⟨_, rfl, ?_⟩; have n0_ := Aside0.mk (Kd.R_below (by (with_reducible repeat (first | apply Kd.R_alloc | apply Kd.R_drewN | apply Kd.R_drew)); exact HO_0.out) hb); have n1_ := Aside0.mk (Kept.below (S := (fun k_ => P0_ k_)) (by repeat (first | (with_reducible first | exact HK.out | apply Kept.alloc | apply Kept.drewN | apply Kept.drew) | exact HK.out)) hb); have n2_ := Aside0.mk (below_step (pl0 HB.out) hb); clear HO_0; clear HK; clear HB; have HO_0 := n0_; have HK := n1_; have HB := n2_; clear n0_ n1_ n2_; (try clear hb); (try clear hb2); (try clear hk); (try clear hi); have p11 : 0 ≤ (x5_1 : Int) := oda; have q11 : (x5_1 : Int) < ((x0_1.length : Int) : Int) := oda; obtain ⟨ce11, hcl11, hM11, hcc11, hfr11⟩ := Kd.R_elem HO_0.out z66 (x5_1 : Int) p11 q11; obtain rfl := k66_openM hM11; have hx11_0 : w21.cell? ⟨go5, (x5_1 : Int).toNat * 4, none⟩ = some (.int .i64 ((rd_T66 y271 x5_1).f0)) := hcc11 0 _ rfl; have hx11_1 : w21.cell? ⟨go5, (x5_1 : Int).toNat * 4 + 1, none⟩ = some (.string ((rd_T66 y271 x5_1).f1)) := hcc11 1 _ rfl; have hx11_2 : w21.cell? ⟨go5, (x5_1 : Int).toNat * 4 + 2, none⟩ = some (.string ((rd_T66 y271 x5_1).f2)) := hcc11 2 _ rfl; have hx11_3 : w21.cell? ⟨go5, (x5_1 : Int).toNat * 4 + 3, none⟩ = some (.string ((rd_T66 y271 x5_1).f3)) := hcc11 3 _ rfl; have hf11_0 : w21.frozen? ⟨go5, (x5_1 : Int).toNat * 4, none⟩ = false := hfr11 0; have hf11_1 : w21.frozen? ⟨go5, (x5_1 : Int).toNat * 4 + 1, none⟩ = false := hfr11 1; have hf11_2 : w21.frozen? ⟨go5, (x5_1 : Int).toNat * 4 + 2, none⟩ = false := hfr11 2; have hf11_3 : w21.frozen? ⟨go5, (x5_1 : Int).toNat * 4 + 3, none⟩ = false := hfr11 3; clear hcl11 hcc11 hfr11 hM11; replace p11 := eq_true p11; replace q11 := eq_true q11; have HX22 := Aside0.mk (show Kd.R k66 66 w21 w0.heap.size (fun k_ => (P0_ k_ ∨ w.heap.size ≤ k_)) (.slice (some ⟨go5, 0, none⟩) x0_1.length co12) y271 from (by (with_reducible repeat (first | apply Kd.R_alloc | apply Kd.R_drewN | apply Kd.R_drew)); exact HO_0.out)); obtain ⟨ce22, hcl22, hM22, hcc22, hfr22⟩ := Kd.R_elem HX22.out z66 (x5_1 : Int) (of_decide_eq_true (by first | (with_reducible assumption) | assumption)) (by have h_ : (x5_1 : Int) < ((x0_1.length : Int) : Int) := oda; first | exact h_ | (have e_ := (Kd.R_reads' HO_0.out).1; omega) | simpa using h_); obtain rfl := k66_openM hM22; have HP22 := Kd.R_seg HX22.out (x5_1 : Int) (of_decide_eq_true (by first | (with_reducible assumption) | assumption)) (by have h_ : (x5_1 : Int) < ((x0_1.length : Int) : Int) := oda; first | exact h_ | (have e_ := (Kd.R_reads' HO_0.out).1; omega) | simpa using h_) (seg := [.string t272]) (j := 3) hcl22 hcc22 (show 4 ≤ 4 from by decide) (x' := (⟨(rd_T66 y271 x5_1).f0, (rd_T66 y271 x5_1).f1, (rd_T66 y271 x5_1).f2, t272⟩ : S66)) (k66_mkM _ _ _ (⟨(rd_T66 y271 x5_1).f0, (rd_T66 y271 x5_1).f1, (rd_T66 y271 x5_1).f2, t272⟩ : S66) ) (fun _ hk => hk); have hx22_3 := hcc22 3 _ rfl; (try simp only [show (k66).sz = 4 from rfl, Nat.mul_one, Nat.add_zero] at hx22_3); have hf22_3 := hfr22 3; (try simp only [show (k66).sz = 4 from rfl, Nat.mul_one, Nat.add_zero] at hf22_3); clear hcl22 hcc22 hfr22 hM22) | ((with_reducible refine gate_store (t := 9) (p := 40) rfl ?_); refine store_event (t := 9) (p := 40) (v := ?vo_w23) (w1 := (w21.setCell ⟨go5, (x5_1 : Int).toNat * 4 + 3, none⟩ (.string t272))) ?hg ?ho ?hn ?hr ?_; (case ho => rfl); (case hg => rfl); (case hn => rfl); (case hr => first | (go_simp; done) | (go_simp; rfl)); intro w23 hw; have hg : w21.grownBy w23 (some go5) := (by rw [hw]; exact HP22.2); have hp_ : Kd.R k66 66 w23 w0.heap.size (fun k_ => (P0_ k_ ∨ w.heap.size ≤ k_)) (.slice (some ⟨go5, 0, none⟩) x0_1.length co12) y273 := (by rw [hw, Ny273.out]; exact HP22.1); clear HP22; have n0_ := Aside0.mk (hp_); have n1_ := Aside0.mk ((by rw [hw]; exact below_set (HB.out) GB5.out : Below w0.heap.size w0 w23)); have n2_ := Aside0.mk (Kept.of_grown (S := (fun k_ => P0_ k_)) hg (by repeat (first | (with_reducible first | exact HK.out | apply Kept.alloc | apply Kept.drewN | apply Kept.drew) | exact HK.out)) (fun k_ e_ => (HO_0.out.1 k_ e_))); clear HO_0; clear HB; clear HK; have HO_0 := n0_; have HB := n1_; have HK := n2_; clear n0_ n1_ n2_; clear hg hw hp_))
      go_roundg k1
      case measure => have := HK1.out; omega
      case rel => exact ⟨(y273), (wrap64 ((wrap64 ((wrap64 ((wrap64 (x1_1 + 1)) + 1)) + 1)) + 1)), (wrap64 (x5_1 + 1)), eqa, eqa, H', ⟨by have := HK1.out; omega⟩, ⟨by (with_reducible repeat (first | apply Kd.R_alloc | apply Kd.R_drewN | apply Kd.R_drew)); exact HO_0.out⟩, ⟨by repeat (first | (with_reducible first | exact HK.out | apply Kept.alloc | apply Kept.drewN | apply Kept.drew) | exact HK.out)⟩, ⟨pl0 HB.out⟩⟩
     ·rw [if_neg c4] at H
      exact absurd H (by simp)
    ·rw [if_neg c3] at H
     have c3b0 : decide (x5_1 < (x0_1.length : Int)) = false := decide_eq_false c3
     clear c3
     simp only [Option.some.injEq, Prod.mk.injEq] at H
     obtain ⟨rfl, rfl⟩ := H
     obtain ⟨Ao24, co24, eo24⟩ := Kd.R_slice HO_0.out
     subst eo24
     go_wp2
     go_ret
     exact ⟨erq, by (with_reducible repeat (first | apply Kd.R_alloc | apply Kd.R_drewN | apply Kd.R_drew)); exact HO_0.out, by repeat (first | (with_reducible first | exact HB.out | apply below_alloc | apply pw_below_drewN | apply below_drew1) | exact HB.out), by repeat (first | (with_reducible first | exact HK.out | apply Kept.alloc | apply Kept.drewN | apply Kept.drew) | exact HK.out)⟩
def laws_heldActS.l0 : Nat → List (S66) → Int → Int → Option (Int)
  | 0, _, _, _ => none
  | k + 1, x0, x1, x5 => if x5 < (x0.length : Int) then (if 0 ≤ x5 then (if ((rd_T66 x0 x5).f0) = x1 then ((laws_markText.f k (wrap64 (x1 + 1))).bind fun t276 => (if ((rd_T66 x0 x5).f1).toList = t276.toList then ((laws_markText.f k (wrap64 ((wrap64 (x1 + 1)) + 1))).bind fun t278 => (if ((rd_T66 x0 x5).f2).toList = t278.toList then ((laws_markText.f k (wrap64 ((wrap64 ((wrap64 (x1 + 1)) + 1)) + 1))).bind fun t280 => (if ((rd_T66 x0 x5).f3).toList = t280.toList then (laws_heldActS.l0 k x0 (wrap64 ((wrap64 ((wrap64 ((wrap64 (x1 + 1)) + 1)) + 1)) + 1)) (wrap64 (x5 + 1))) else (some (-1)))) else (some (-1)))) else (some (-1)))) else (some (-1))) else (none)) else (some x1)
def laws_heldActS.f (k : Nat) (l0 : List (S66)) (a1 : Int) : Option (Int) := laws_heldActS.l0 k l0 a1 0
def laws_heldActS.T7 : Bool × List (List Nat × List Nat) := (true, [([], []), ([], []), ([0, 1], [0, 1]), ([2], [2]), ([3], [3]), ([], []), ([5], [5]), ([4, 6], [4, 6])])
def laws_heldActS.B7 : List Nat := [0, 0, 3, 7, 15, 0, 32, 127]
theorem laws_heldActS.tab7 : rtab .any (opsOf Tryd.f30 7) = laws_heldActS.T7 := by kernel_rfl
theorem laws_heldActS.bits7 : waitsOk laws_heldActS.T7.2 laws_heldActS.B7 = true := by kernel_rfl
def laws_heldActS.T10 : Bool × List (List Nat × List Nat) := (true, [([], []), ([], []), ([0, 1], [0, 1]), ([2], [2]), ([3], [3]), ([], []), ([5], [5]), ([4, 6], [4, 6])])
def laws_heldActS.B10 : List Nat := [0, 0, 3, 7, 15, 0, 32, 127]
theorem laws_heldActS.tab10 : rtab .any (opsOf Tryd.f30 10) = laws_heldActS.T10 := by kernel_rfl
theorem laws_heldActS.bits10 : waitsOk laws_heldActS.T10.2 laws_heldActS.B10 = true := by kernel_rfl
def laws_heldActS.T13 : Bool × List (List Nat × List Nat) := (true, [([], []), ([], []), ([0, 1], [0, 1]), ([2], [2]), ([3], [3]), ([], []), ([5], [5]), ([4, 6], [4, 6])])
def laws_heldActS.B13 : List Nat := [0, 0, 3, 7, 15, 0, 32, 127]
theorem laws_heldActS.tab13 : rtab .any (opsOf Tryd.f30 13) = laws_heldActS.T13 := by kernel_rfl
theorem laws_heldActS.bits13 : waitsOk laws_heldActS.T13.2 laws_heldActS.B13 = true := by kernel_rfl
set_option maxHeartbeats 8000000 in
set_option maxRecDepth 100000 in
theorem laws_heldActS.calls (k : Nat) (A0 : Option Addr) (c0 : Nat) (l0 : List (S66)) (a1 : Int) (r : Int) (w : World) (hr0 : Kd.C k66 w A0 l0.length l0) (hc0 : l0.length ≤ c0) (h : laws_heldActS.f k l0 a1 = some r) :
    Calls Tryd.prog 30 #[.slice A0 l0.length c0, .int .i64 a1] w fun e w' => e = .returned (.int .i64 r) ∧ Below w.heap.size w w' := by
  have HR0 := Aside0.mk hr0
  have HC0 := Aside0.mk hc0
  clear hr0 hc0
  have HB := Aside0.mk (Below.refl w.heap.size w)
  have H : (laws_heldActS.l0 k l0 a1 0) = some r := h
  clear h
  have H' := Aside0.mk H
  clear H
  go_enter Tryd.func30, Tryd.ntmps30
  go_wp2
  go_loopg [1, 5] k (fun kq v1 v5 w' => ∃ (x1_1 : Int) (x5_1 : Int), v1 = .int .i64 x1_1 ∧ v5 = .int .i64 x5_1 ∧ Aside0 (laws_heldActS.l0 kq l0 x1_1 x5_1 = some r) ∧ Aside0 (kq ≤ k) ∧ Aside0 (Below w.heap.size w w'))
  case atStart => exact ⟨(a1), (0), eqa, eqa, H', ⟨Nat.le_refl _⟩, ⟨pl0 HB.out⟩⟩
  case round =>
   clear H'
   obtain ⟨x1_1, x5_1, rfl, rfl, HA, HK1, HB⟩ := hrel
   cases gk with
   | zero => exact absurd HA.out (by simp [laws_heldActS.l0])
   | succ k1 =>
    have H := HA.out
    clear HA
    simp only [laws_heldActS.l0] at H
    by_cases c3 : x5_1 < (l0.length : Int)
    ·rw [if_pos c3] at H
     have c3b0 : decide (x5_1 < (l0.length : Int)) = true := decide_eq_true c3
     clear c3
     by_cases c4 : 0 ≤ x5_1
     ·rw [if_pos c4] at H
      have c4b0 : decide (0 ≤ x5_1) = true := decide_eq_true c4
      clear c4
      by_cases c5 : ((rd_T66 l0 x5_1).f0) = x1_1
      ·rw [if_pos c5] at H
       have c5b0 : (((rd_T66 l0 x5_1).f0) == x1_1) = true := beq_iff_eq.mpr c5
       have c5b1 : (((rd_T66 l0 x5_1).f0) != x1_1) = false := bne_eq_false_iff_eq.mpr c5
       clear c5
       replace H := Option.bind_eq_some_iff.mp H
       obtain ⟨t276, A60, H⟩ := H
       replace H : (if ((rd_T66 l0 x5_1).f1).toList = t276.toList then ((laws_markText.f k1 (wrap64 ((wrap64 (x1_1 + 1)) + 1))).bind fun t278 => (if ((rd_T66 l0 x5_1).f2).toList = t278.toList then ((laws_markText.f k1 (wrap64 ((wrap64 ((wrap64 (x1_1 + 1)) + 1)) + 1))).bind fun t280 => (if ((rd_T66 l0 x5_1).f3).toList = t280.toList then (laws_heldActS.l0 k1 l0 (wrap64 ((wrap64 ((wrap64 ((wrap64 (x1_1 + 1)) + 1)) + 1)) + 1)) (wrap64 (x5_1 + 1))) else (some (-1)))) else (some (-1)))) else (some (-1))) = some r := H
       have A6 := Aside0.mk A60
       clear A60
       by_cases c7 : ((rd_T66 l0 x5_1).f1).toList = t276.toList
       ·rw [if_pos c7] at H
        have c7b0 : (((rd_T66 l0 x5_1).f1).toList == t276.toList) = true := beq_iff_eq.mpr c7
        have c7b1 : (((rd_T66 l0 x5_1).f1).toList != t276.toList) = false := bne_eq_false_iff_eq.mpr c7
        clear c7
        replace H := Option.bind_eq_some_iff.mp H
        obtain ⟨t278, A80, H⟩ := H
        replace H : (if ((rd_T66 l0 x5_1).f2).toList = t278.toList then ((laws_markText.f k1 (wrap64 ((wrap64 ((wrap64 (x1_1 + 1)) + 1)) + 1))).bind fun t280 => (if ((rd_T66 l0 x5_1).f3).toList = t280.toList then (laws_heldActS.l0 k1 l0 (wrap64 ((wrap64 ((wrap64 ((wrap64 (x1_1 + 1)) + 1)) + 1)) + 1)) (wrap64 (x5_1 + 1))) else (some (-1)))) else (some (-1))) = some r := H
        have A8 := Aside0.mk A80
        clear A80
        by_cases c9 : ((rd_T66 l0 x5_1).f2).toList = t278.toList
        ·rw [if_pos c9] at H
         have c9b0 : (((rd_T66 l0 x5_1).f2).toList == t278.toList) = true := beq_iff_eq.mpr c9
         have c9b1 : (((rd_T66 l0 x5_1).f2).toList != t278.toList) = false := bne_eq_false_iff_eq.mpr c9
         clear c9
         replace H := Option.bind_eq_some_iff.mp H
         obtain ⟨t280, A100, H⟩ := H
         replace H : (if ((rd_T66 l0 x5_1).f3).toList = t280.toList then (laws_heldActS.l0 k1 l0 (wrap64 ((wrap64 ((wrap64 ((wrap64 (x1_1 + 1)) + 1)) + 1)) + 1)) (wrap64 (x5_1 + 1))) else (some (-1))) = some r := H
         have A10 := Aside0.mk A100
         clear A100
         by_cases c11 : ((rd_T66 l0 x5_1).f3).toList = t280.toList
         ·rw [if_pos c11] at H
          have c11b0 : (((rd_T66 l0 x5_1).f3).toList == t280.toList) = true := beq_iff_eq.mpr c11
          have c11b1 : (((rd_T66 l0 x5_1).f3).toList != t280.toList) = false := bne_eq_false_iff_eq.mpr c11
          clear c11
          have H' := Aside0.mk H
          clear H
          have p274 : 0 ≤ (x5_1 : Int) := oda
          have q274 : x5_1 < (l0.length : Int) := oda
          obtain ⟨ad274, e274, hx274_0, hx274_1, hx274_2, hx274_3⟩ := at_T66 HR0.out x5_1 p274 q274
          cases e274
          replace hx274_0 := hbc HB.out hx274_0
          replace hx274_1 := hbc HB.out hx274_1
          replace hx274_2 := hbc HB.out hx274_2
          replace hx274_3 := hbc HB.out hx274_3
          replace p274 := eq_true p274
          replace q274 := eq_true q274
          try go_wp2
          have n0_ := Aside0.mk (below_drew1 HB.out)
          clear HB
          have HB := n0_
          clear n0_
          have p275 : 0 ≤ (x5_1 : Int) := oda
          have q275 : x5_1 < (l0.length : Int) := oda
          obtain ⟨ad275, e275, hx275_0, hx275_1, hx275_2, hx275_3⟩ := at_T66 HR0.out x5_1 p275 q275
          have hw275_3 := hx275_3
          have hw275_2 := hx275_2
          have hw275_1 := hx275_1
          have hw275_0 := hx275_0
          obtain rfl : ad274 = ad275 := (by injection e275)
          replace hx275_0 := hbc HB.out hx275_0
          replace hx275_1 := hbc HB.out hx275_1
          replace hx275_2 := hbc HB.out hx275_2
          replace hx275_3 := hbc HB.out hx275_3
          replace p275 := eq_true p275
          replace q275 := eq_true q275
          refine start_ (n := 8) (S := fun w' => w'.cell? (ad274.add ((x5_1).toNat * 4)) = some (.int .i64 ((rd_T66 l0 x5_1).f0)) ∧ w'.cell? ⟨(ad274.add ((x5_1).toNat * 4)).block, (ad274.add ((x5_1).toNat * 4)).off + 1, none⟩ = some (.string ((rd_T66 l0 x5_1).f1)) ∧ w'.cell? ⟨(ad274.add ((x5_1).toNat * 4)).block, (ad274.add ((x5_1).toNat * 4)).off + 2, none⟩ = some (.string ((rd_T66 l0 x5_1).f2)) ∧ w'.cell? ⟨(ad274.add ((x5_1).toNat * 4)).block, (ad274.add ((x5_1).toNat * 4)).off + 3, none⟩ = some (.string ((rd_T66 l0 x5_1).f3))) (ds := []) #[O,O,O,O,O,O,O,O] (by kernel_rfl) rfl rfl ⟨((HB.out.cell (World.block_lt_of_cell? w _ hw275_0)).trans hw275_0), ((HB.out.cell (World.block_lt_of_cell? w _ hw275_1)).trans hw275_1), ((HB.out.cell (World.block_lt_of_cell? w _ hw275_2)).trans hw275_2), ((HB.out.cell (World.block_lt_of_cell? w _ hw275_3)).trans hw275_3)⟩ (fun hHeld => ?_); refine with_tabW laws_heldActS.tab7 laws_heldActS.bits7 (fun HT_ HW_ => ?_)
          generalize wr.drew = w12 at HB hx275_0 hx275_1 hx275_2 hx275_3 hHeld ⊢
          refine pz 0 21 #[Y,O,O,O,O,O,O,O] HT_ ?_
          refine pz 1 22 #[Y,Y,O,O,O,O,O,O] HT_ ?_
          refine pz 2 23 #[Y,Y,Y,O,O,O,O,O] HT_ ?_
          refine pz 3 24 #[Y,Y,Y,Y,O,O,O,O] HT_ ?_
          refine pure_ (i := 5) (N := some 26) (v := ?_) (a' := ?_) #[Y,Y,Y,Y,O,Y,O,O] rfl rfl (any_of HT_.out (by kernel_rfl)) (fun _ _ _ h => h) (Or.inl ⟨by rfl, ?_⟩) ?_ ?_
          rotate_left
          ·intro w'
           go_simp
           with_reducible rfl
          rotate_left
          ·simp only [Act.put, List.setIfInBounds_toArray, List.set_cons_zero, List.set_cons_succ, i64_w, i32_w]
           rfl
          refine take_ (i := 4) (N := some 25) (v := ?_) (a' := ?_) #[Y,Y,Y,Y,Y,Y,O,O] rfl rfl (take_ofW HT_.out HW_.out (by kernel_rfl)) (fun _ _ _ h => h) (Or.inl ⟨by rfl, ?_⟩) hHeld ?_ ?_
          rotate_left
          ·rintro w' ⟨s0, s1, s2, s3⟩
           go_simp
           with_reducible rfl
          rotate_left
          ·simp only [Act.put, List.setIfInBounds_toArray, List.set_cons_zero, List.set_cons_succ, i64_w, i32_w]
           rfl
          refine one_ (i := 6) (N := some 27) #[Y,Y,Y,Y,Y,Y,Y,O] rfl rfl (one_of HT_.out (by kernel_rfl)) (by decide) (fun K hK => ?_)
          refine goes_ Tryd.func42 (by kernel_rfl) rfl #[.int .i64 (wrap64 (x1_1 + 1))] (by rfl) rfl rfl (by (try simp only [List.map_toArray, List.map_cons, List.map_nil]); first | done | rfl | (simp only [List.length_drop, List.length_take]; rfl)) ?_
          with_reducible refine (laws_markText.calls k1 (wrap64 (x1_1 + 1)) t276 _ A6.out).mono ?_
          rintro e w13 ⟨rfl, hb⟩
          refine ⟨_, rfl, ?_⟩
          have n0_ := Aside0.mk (below_step (pl0 HB.out) hb)
          clear HB
          have HB := n0_
          clear n0_
          (try clear hb)
          (try clear hb2)
          (try clear hk)
          (try clear hi)
          refine hK.out _ _ ⟨((HB.out.cell (World.block_lt_of_cell? w _ hw275_0)).trans hw275_0), ((HB.out.cell (World.block_lt_of_cell? w _ hw275_1)).trans hw275_1), ((HB.out.cell (World.block_lt_of_cell? w _ hw275_2)).trans hw275_2), ((HB.out.cell (World.block_lt_of_cell? w _ hw275_3)).trans hw275_3)⟩ (fun hHeld => ?_)
          clear hK K
          refine norm_ (a' := ?_) ?_ ?_
          rotate_left
          ·show Act.put _ (some 27) _ = _
           simp only [Act.put, List.setIfInBounds_toArray, List.set_cons_zero, List.set_cons_succ, i64_w, i32_w]
           rfl
          refine pz 7 28 #[Y,Y,Y,Y,Y,Y,Y,Y] HT_ ?_
          refine done_ (done_of HT_.out (by kernel_rfl)) ?_
          try go_wp2
          have n0_ := Aside0.mk (below_drew1 HB.out)
          clear HB
          have HB := n0_
          clear n0_
          have p277 : 0 ≤ (x5_1 : Int) := oda
          have q277 : x5_1 < (l0.length : Int) := oda
          obtain ⟨ad277, e277, hx277_0, hx277_1, hx277_2, hx277_3⟩ := at_T66 HR0.out x5_1 p277 q277
          have hw277_3 := hx277_3
          have hw277_2 := hx277_2
          have hw277_1 := hx277_1
          have hw277_0 := hx277_0
          obtain rfl : ad274 = ad277 := (by injection e277)
          replace hx277_0 := hbc HB.out hx277_0
          replace hx277_1 := hbc HB.out hx277_1
          replace hx277_2 := hbc HB.out hx277_2
          replace hx277_3 := hbc HB.out hx277_3
          replace p277 := eq_true p277
          replace q277 := eq_true q277
          refine start_ (n := 8) (S := fun w' => w'.cell? (ad274.add ((x5_1).toNat * 4)) = some (.int .i64 ((rd_T66 l0 x5_1).f0)) ∧ w'.cell? ⟨(ad274.add ((x5_1).toNat * 4)).block, (ad274.add ((x5_1).toNat * 4)).off + 1, none⟩ = some (.string ((rd_T66 l0 x5_1).f1)) ∧ w'.cell? ⟨(ad274.add ((x5_1).toNat * 4)).block, (ad274.add ((x5_1).toNat * 4)).off + 2, none⟩ = some (.string ((rd_T66 l0 x5_1).f2)) ∧ w'.cell? ⟨(ad274.add ((x5_1).toNat * 4)).block, (ad274.add ((x5_1).toNat * 4)).off + 3, none⟩ = some (.string ((rd_T66 l0 x5_1).f3))) (ds := []) #[O,O,O,O,O,O,O,O] (by kernel_rfl) rfl rfl ⟨((HB.out.cell (World.block_lt_of_cell? w _ hw277_0)).trans hw277_0), ((HB.out.cell (World.block_lt_of_cell? w _ hw277_1)).trans hw277_1), ((HB.out.cell (World.block_lt_of_cell? w _ hw277_2)).trans hw277_2), ((HB.out.cell (World.block_lt_of_cell? w _ hw277_3)).trans hw277_3)⟩ (fun hHeld => ?_); refine with_tabW laws_heldActS.tab10 laws_heldActS.bits10 (fun HT_ HW_ => ?_)
          generalize w13.drew = w14 at HB hx277_0 hx277_1 hx277_2 hx277_3 hHeld ⊢
          refine pz 0 31 #[Y,O,O,O,O,O,O,O] HT_ ?_
          refine pz 1 32 #[Y,Y,O,O,O,O,O,O] HT_ ?_
          refine pz 2 33 #[Y,Y,Y,O,O,O,O,O] HT_ ?_
          refine pz 3 34 #[Y,Y,Y,Y,O,O,O,O] HT_ ?_
          refine pure_ (i := 5) (N := some 36) (v := ?_) (a' := ?_) #[Y,Y,Y,Y,O,Y,O,O] rfl rfl (any_of HT_.out (by kernel_rfl)) (fun _ _ _ h => h) (Or.inl ⟨by rfl, ?_⟩) ?_ ?_
          rotate_left
          ·intro w'
           go_simp
           with_reducible rfl
          rotate_left
          ·simp only [Act.put, List.setIfInBounds_toArray, List.set_cons_zero, List.set_cons_succ, i64_w, i32_w]
           rfl
          refine take_ (i := 4) (N := some 35) (v := ?_) (a' := ?_) #[Y,Y,Y,Y,Y,Y,O,O] rfl rfl (take_ofW HT_.out HW_.out (by kernel_rfl)) (fun _ _ _ h => h) (Or.inl ⟨by rfl, ?_⟩) hHeld ?_ ?_
          rotate_left
          ·rintro w' ⟨s0, s1, s2, s3⟩
           go_simp
           with_reducible rfl
          rotate_left
          ·simp only [Act.put, List.setIfInBounds_toArray, List.set_cons_zero, List.set_cons_succ, i64_w, i32_w]
           rfl
          refine one_ (i := 6) (N := some 37) #[Y,Y,Y,Y,Y,Y,Y,O] rfl rfl (one_of HT_.out (by kernel_rfl)) (by decide) (fun K hK => ?_)
          refine goes_ Tryd.func42 (by kernel_rfl) rfl #[.int .i64 (wrap64 ((wrap64 (x1_1 + 1)) + 1))] (by rfl) rfl rfl (by (try simp only [List.map_toArray, List.map_cons, List.map_nil]); first | done | rfl | (simp only [List.length_drop, List.length_take]; rfl)) ?_
          with_reducible refine (laws_markText.calls k1 (wrap64 ((wrap64 (x1_1 + 1)) + 1)) t278 _ A8.out).mono ?_
          rintro e w15 ⟨rfl, hb⟩
          refine ⟨_, rfl, ?_⟩
          have n0_ := Aside0.mk (below_step (pl0 HB.out) hb)
          clear HB
          have HB := n0_
          clear n0_
          (try clear hb)
          (try clear hb2)
          (try clear hk)
          (try clear hi)
          refine hK.out _ _ ⟨((HB.out.cell (World.block_lt_of_cell? w _ hw277_0)).trans hw277_0), ((HB.out.cell (World.block_lt_of_cell? w _ hw277_1)).trans hw277_1), ((HB.out.cell (World.block_lt_of_cell? w _ hw277_2)).trans hw277_2), ((HB.out.cell (World.block_lt_of_cell? w _ hw277_3)).trans hw277_3)⟩ (fun hHeld => ?_)
          clear hK K
          refine norm_ (a' := ?_) ?_ ?_
          rotate_left
          ·show Act.put _ (some 37) _ = _
           simp only [Act.put, List.setIfInBounds_toArray, List.set_cons_zero, List.set_cons_succ, i64_w, i32_w]
           rfl
          refine pz 7 38 #[Y,Y,Y,Y,Y,Y,Y,Y] HT_ ?_
          refine done_ (done_of HT_.out (by kernel_rfl)) ?_
          try go_wp2
          have n0_ := Aside0.mk (below_drew1 HB.out)
          clear HB
          have HB := n0_
          clear n0_
          have p279 : 0 ≤ (x5_1 : Int) := oda
          have q279 : x5_1 < (l0.length : Int) := oda
          obtain ⟨ad279, e279, hx279_0, hx279_1, hx279_2, hx279_3⟩ := at_T66 HR0.out x5_1 p279 q279
          have hw279_3 := hx279_3
          have hw279_2 := hx279_2
          have hw279_1 := hx279_1
          have hw279_0 := hx279_0
          obtain rfl : ad274 = ad279 := (by injection e279)
          replace hx279_0 := hbc HB.out hx279_0
          replace hx279_1 := hbc HB.out hx279_1
          replace hx279_2 := hbc HB.out hx279_2
          replace hx279_3 := hbc HB.out hx279_3
          replace p279 := eq_true p279
          replace q279 := eq_true q279
          refine start_ (n := 8) (S := fun w' => w'.cell? (ad274.add ((x5_1).toNat * 4)) = some (.int .i64 ((rd_T66 l0 x5_1).f0)) ∧ w'.cell? ⟨(ad274.add ((x5_1).toNat * 4)).block, (ad274.add ((x5_1).toNat * 4)).off + 1, none⟩ = some (.string ((rd_T66 l0 x5_1).f1)) ∧ w'.cell? ⟨(ad274.add ((x5_1).toNat * 4)).block, (ad274.add ((x5_1).toNat * 4)).off + 2, none⟩ = some (.string ((rd_T66 l0 x5_1).f2)) ∧ w'.cell? ⟨(ad274.add ((x5_1).toNat * 4)).block, (ad274.add ((x5_1).toNat * 4)).off + 3, none⟩ = some (.string ((rd_T66 l0 x5_1).f3))) (ds := []) #[O,O,O,O,O,O,O,O] (by kernel_rfl) rfl rfl ⟨((HB.out.cell (World.block_lt_of_cell? w _ hw279_0)).trans hw279_0), ((HB.out.cell (World.block_lt_of_cell? w _ hw279_1)).trans hw279_1), ((HB.out.cell (World.block_lt_of_cell? w _ hw279_2)).trans hw279_2), ((HB.out.cell (World.block_lt_of_cell? w _ hw279_3)).trans hw279_3)⟩ (fun hHeld => ?_); refine with_tabW laws_heldActS.tab13 laws_heldActS.bits13 (fun HT_ HW_ => ?_)
          generalize w15.drew = w16 at HB hx279_0 hx279_1 hx279_2 hx279_3 hHeld ⊢
          refine pz 0 41 #[Y,O,O,O,O,O,O,O] HT_ ?_
          refine pz 1 42 #[Y,Y,O,O,O,O,O,O] HT_ ?_
          refine pz 2 43 #[Y,Y,Y,O,O,O,O,O] HT_ ?_
          refine pz 3 44 #[Y,Y,Y,Y,O,O,O,O] HT_ ?_
          refine pure_ (i := 5) (N := some 46) (v := ?_) (a' := ?_) #[Y,Y,Y,Y,O,Y,O,O] rfl rfl (any_of HT_.out (by kernel_rfl)) (fun _ _ _ h => h) (Or.inl ⟨by rfl, ?_⟩) ?_ ?_
          rotate_left
          ·intro w'
           go_simp
           with_reducible rfl
          rotate_left
          ·simp only [Act.put, List.setIfInBounds_toArray, List.set_cons_zero, List.set_cons_succ, i64_w, i32_w]
           rfl
          refine take_ (i := 4) (N := some 45) (v := ?_) (a' := ?_) #[Y,Y,Y,Y,Y,Y,O,O] rfl rfl (take_ofW HT_.out HW_.out (by kernel_rfl)) (fun _ _ _ h => h) (Or.inl ⟨by rfl, ?_⟩) hHeld ?_ ?_
          rotate_left
          ·rintro w' ⟨s0, s1, s2, s3⟩
           go_simp
           with_reducible rfl
          rotate_left
          ·simp only [Act.put, List.setIfInBounds_toArray, List.set_cons_zero, List.set_cons_succ, i64_w, i32_w]
           rfl
          refine one_ (i := 6) (N := some 47) #[Y,Y,Y,Y,Y,Y,Y,O] rfl rfl (one_of HT_.out (by kernel_rfl)) (by decide) (fun K hK => ?_)
          refine goes_ Tryd.func42 (by kernel_rfl) rfl #[.int .i64 (wrap64 ((wrap64 ((wrap64 (x1_1 + 1)) + 1)) + 1))] (by rfl) rfl rfl (by (try simp only [List.map_toArray, List.map_cons, List.map_nil]); first | done | rfl | (simp only [List.length_drop, List.length_take]; rfl)) ?_
          with_reducible refine (laws_markText.calls k1 (wrap64 ((wrap64 ((wrap64 (x1_1 + 1)) + 1)) + 1)) t280 _ A10.out).mono ?_
          rintro e w17 ⟨rfl, hb⟩
          refine ⟨_, rfl, ?_⟩
          have n0_ := Aside0.mk (below_step (pl0 HB.out) hb)
          clear HB
          have HB := n0_
          clear n0_
          (try clear hb)
          (try clear hb2)
          (try clear hk)
          (try clear hi)
          refine hK.out _ _ ⟨((HB.out.cell (World.block_lt_of_cell? w _ hw279_0)).trans hw279_0), ((HB.out.cell (World.block_lt_of_cell? w _ hw279_1)).trans hw279_1), ((HB.out.cell (World.block_lt_of_cell? w _ hw279_2)).trans hw279_2), ((HB.out.cell (World.block_lt_of_cell? w _ hw279_3)).trans hw279_3)⟩ (fun hHeld => ?_)
          clear hK K
          refine norm_ (a' := ?_) ?_ ?_
          rotate_left
          ·show Act.put _ (some 47) _ = _
           simp only [Act.put, List.setIfInBounds_toArray, List.set_cons_zero, List.set_cons_succ, i64_w, i32_w]
           rfl
          refine pz 7 48 #[Y,Y,Y,Y,Y,Y,Y,Y] HT_ ?_
          refine done_ (done_of HT_.out (by kernel_rfl)) ?_
          try go_wp2
          go_roundg k1
          case measure => have := HK1.out; omega
          case rel => exact ⟨(wrap64 ((wrap64 ((wrap64 ((wrap64 (x1_1 + 1)) + 1)) + 1)) + 1)), (wrap64 (x5_1 + 1)), eqa, eqa, H', ⟨by have := HK1.out; omega⟩, ⟨pl0 HB.out⟩⟩
         ·rw [if_neg c11] at H
          have c11b0 : (((rd_T66 l0 x5_1).f3).toList == t280.toList) = false := beq_eq_false_iff_ne.mpr c11
          have c11b1 : (((rd_T66 l0 x5_1).f3).toList != t280.toList) = true := bne_iff_ne.mpr c11
          obtain rfl := Option.some.inj H
          have p274 : 0 ≤ (x5_1 : Int) := oda
          have q274 : x5_1 < (l0.length : Int) := oda
          obtain ⟨ad274, e274, hx274_0, hx274_1, hx274_2, hx274_3⟩ := at_T66 HR0.out x5_1 p274 q274
          cases e274
          replace hx274_0 := hbc HB.out hx274_0
          replace hx274_1 := hbc HB.out hx274_1
          replace hx274_2 := hbc HB.out hx274_2
          replace hx274_3 := hbc HB.out hx274_3
          replace p274 := eq_true p274
          replace q274 := eq_true q274
          try go_wp2
          have n0_ := Aside0.mk (below_drew1 HB.out)
          clear HB
          have HB := n0_
          clear n0_
          have p275 : 0 ≤ (x5_1 : Int) := oda
          have q275 : x5_1 < (l0.length : Int) := oda
          obtain ⟨ad275, e275, hx275_0, hx275_1, hx275_2, hx275_3⟩ := at_T66 HR0.out x5_1 p275 q275
          have hw275_3 := hx275_3
          have hw275_2 := hx275_2
          have hw275_1 := hx275_1
          have hw275_0 := hx275_0
          obtain rfl : ad274 = ad275 := (by injection e275)
          replace hx275_0 := hbc HB.out hx275_0
          replace hx275_1 := hbc HB.out hx275_1
          replace hx275_2 := hbc HB.out hx275_2
          replace hx275_3 := hbc HB.out hx275_3
          replace p275 := eq_true p275
          replace q275 := eq_true q275
          refine start_ (n := 8) (S := fun w' => w'.cell? (ad274.add ((x5_1).toNat * 4)) = some (.int .i64 ((rd_T66 l0 x5_1).f0)) ∧ w'.cell? ⟨(ad274.add ((x5_1).toNat * 4)).block, (ad274.add ((x5_1).toNat * 4)).off + 1, none⟩ = some (.string ((rd_T66 l0 x5_1).f1)) ∧ w'.cell? ⟨(ad274.add ((x5_1).toNat * 4)).block, (ad274.add ((x5_1).toNat * 4)).off + 2, none⟩ = some (.string ((rd_T66 l0 x5_1).f2)) ∧ w'.cell? ⟨(ad274.add ((x5_1).toNat * 4)).block, (ad274.add ((x5_1).toNat * 4)).off + 3, none⟩ = some (.string ((rd_T66 l0 x5_1).f3))) (ds := []) #[O,O,O,O,O,O,O,O] (by kernel_rfl) rfl rfl ⟨((HB.out.cell (World.block_lt_of_cell? w _ hw275_0)).trans hw275_0), ((HB.out.cell (World.block_lt_of_cell? w _ hw275_1)).trans hw275_1), ((HB.out.cell (World.block_lt_of_cell? w _ hw275_2)).trans hw275_2), ((HB.out.cell (World.block_lt_of_cell? w _ hw275_3)).trans hw275_3)⟩ (fun hHeld => ?_); refine with_tabW laws_heldActS.tab7 laws_heldActS.bits7 (fun HT_ HW_ => ?_)
          generalize wr.drew = w18 at HB hx275_0 hx275_1 hx275_2 hx275_3 hHeld ⊢
          refine pz 0 21 #[Y,O,O,O,O,O,O,O] HT_ ?_
          refine pz 1 22 #[Y,Y,O,O,O,O,O,O] HT_ ?_
          refine pz 2 23 #[Y,Y,Y,O,O,O,O,O] HT_ ?_
          refine pz 3 24 #[Y,Y,Y,Y,O,O,O,O] HT_ ?_
          refine pure_ (i := 5) (N := some 26) (v := ?_) (a' := ?_) #[Y,Y,Y,Y,O,Y,O,O] rfl rfl (any_of HT_.out (by kernel_rfl)) (fun _ _ _ h => h) (Or.inl ⟨by rfl, ?_⟩) ?_ ?_
          rotate_left
          ·intro w'
           go_simp
           with_reducible rfl
          rotate_left
          ·simp only [Act.put, List.setIfInBounds_toArray, List.set_cons_zero, List.set_cons_succ, i64_w, i32_w]
           rfl
          refine take_ (i := 4) (N := some 25) (v := ?_) (a' := ?_) #[Y,Y,Y,Y,Y,Y,O,O] rfl rfl (take_ofW HT_.out HW_.out (by kernel_rfl)) (fun _ _ _ h => h) (Or.inl ⟨by rfl, ?_⟩) hHeld ?_ ?_
          rotate_left
          ·rintro w' ⟨s0, s1, s2, s3⟩
           go_simp
           with_reducible rfl
          rotate_left
          ·simp only [Act.put, List.setIfInBounds_toArray, List.set_cons_zero, List.set_cons_succ, i64_w, i32_w]
           rfl
          refine one_ (i := 6) (N := some 27) #[Y,Y,Y,Y,Y,Y,Y,O] rfl rfl (one_of HT_.out (by kernel_rfl)) (by decide) (fun K hK => ?_)
          refine goes_ Tryd.func42 (by kernel_rfl) rfl #[.int .i64 (wrap64 (x1_1 + 1))] (by rfl) rfl rfl (by (try simp only [List.map_toArray, List.map_cons, List.map_nil]); first | done | rfl | (simp only [List.length_drop, List.length_take]; rfl)) ?_
          with_reducible refine (laws_markText.calls k1 (wrap64 (x1_1 + 1)) t276 _ A6.out).mono ?_
          rintro e w19 ⟨rfl, hb⟩
          refine ⟨_, rfl, ?_⟩
          have n0_ := Aside0.mk (below_step (pl0 HB.out) hb)
          clear HB
          have HB := n0_
          clear n0_
          (try clear hb)
          (try clear hb2)
          (try clear hk)
          (try clear hi)
          refine hK.out _ _ ⟨((HB.out.cell (World.block_lt_of_cell? w _ hw275_0)).trans hw275_0), ((HB.out.cell (World.block_lt_of_cell? w _ hw275_1)).trans hw275_1), ((HB.out.cell (World.block_lt_of_cell? w _ hw275_2)).trans hw275_2), ((HB.out.cell (World.block_lt_of_cell? w _ hw275_3)).trans hw275_3)⟩ (fun hHeld => ?_)
          clear hK K
          refine norm_ (a' := ?_) ?_ ?_
          rotate_left
          ·show Act.put _ (some 27) _ = _
           simp only [Act.put, List.setIfInBounds_toArray, List.set_cons_zero, List.set_cons_succ, i64_w, i32_w]
           rfl
          refine pz 7 28 #[Y,Y,Y,Y,Y,Y,Y,Y] HT_ ?_
          refine done_ (done_of HT_.out (by kernel_rfl)) ?_
          try go_wp2
          have n0_ := Aside0.mk (below_drew1 HB.out)
          clear HB
          have HB := n0_
          clear n0_
          have p277 : 0 ≤ (x5_1 : Int) := oda
          have q277 : x5_1 < (l0.length : Int) := oda
          obtain ⟨ad277, e277, hx277_0, hx277_1, hx277_2, hx277_3⟩ := at_T66 HR0.out x5_1 p277 q277
          have hw277_3 := hx277_3
          have hw277_2 := hx277_2
          have hw277_1 := hx277_1
          have hw277_0 := hx277_0
          obtain rfl : ad274 = ad277 := (by injection e277)
          replace hx277_0 := hbc HB.out hx277_0
          replace hx277_1 := hbc HB.out hx277_1
          replace hx277_2 := hbc HB.out hx277_2
          replace hx277_3 := hbc HB.out hx277_3
          replace p277 := eq_true p277
          replace q277 := eq_true q277
          refine start_ (n := 8) (S := fun w' => w'.cell? (ad274.add ((x5_1).toNat * 4)) = some (.int .i64 ((rd_T66 l0 x5_1).f0)) ∧ w'.cell? ⟨(ad274.add ((x5_1).toNat * 4)).block, (ad274.add ((x5_1).toNat * 4)).off + 1, none⟩ = some (.string ((rd_T66 l0 x5_1).f1)) ∧ w'.cell? ⟨(ad274.add ((x5_1).toNat * 4)).block, (ad274.add ((x5_1).toNat * 4)).off + 2, none⟩ = some (.string ((rd_T66 l0 x5_1).f2)) ∧ w'.cell? ⟨(ad274.add ((x5_1).toNat * 4)).block, (ad274.add ((x5_1).toNat * 4)).off + 3, none⟩ = some (.string ((rd_T66 l0 x5_1).f3))) (ds := []) #[O,O,O,O,O,O,O,O] (by kernel_rfl) rfl rfl ⟨((HB.out.cell (World.block_lt_of_cell? w _ hw277_0)).trans hw277_0), ((HB.out.cell (World.block_lt_of_cell? w _ hw277_1)).trans hw277_1), ((HB.out.cell (World.block_lt_of_cell? w _ hw277_2)).trans hw277_2), ((HB.out.cell (World.block_lt_of_cell? w _ hw277_3)).trans hw277_3)⟩ (fun hHeld => ?_); refine with_tabW laws_heldActS.tab10 laws_heldActS.bits10 (fun HT_ HW_ => ?_)
          generalize w19.drew = w20 at HB hx277_0 hx277_1 hx277_2 hx277_3 hHeld ⊢
          refine pz 0 31 #[Y,O,O,O,O,O,O,O] HT_ ?_
          refine pz 1 32 #[Y,Y,O,O,O,O,O,O] HT_ ?_
          refine pz 2 33 #[Y,Y,Y,O,O,O,O,O] HT_ ?_
          refine pz 3 34 #[Y,Y,Y,Y,O,O,O,O] HT_ ?_
          refine pure_ (i := 5) (N := some 36) (v := ?_) (a' := ?_) #[Y,Y,Y,Y,O,Y,O,O] rfl rfl (any_of HT_.out (by kernel_rfl)) (fun _ _ _ h => h) (Or.inl ⟨by rfl, ?_⟩) ?_ ?_
          rotate_left
          ·intro w'
           go_simp
           with_reducible rfl
          rotate_left
          ·simp only [Act.put, List.setIfInBounds_toArray, List.set_cons_zero, List.set_cons_succ, i64_w, i32_w]
           rfl
          refine take_ (i := 4) (N := some 35) (v := ?_) (a' := ?_) #[Y,Y,Y,Y,Y,Y,O,O] rfl rfl (take_ofW HT_.out HW_.out (by kernel_rfl)) (fun _ _ _ h => h) (Or.inl ⟨by rfl, ?_⟩) hHeld ?_ ?_
          rotate_left
          ·rintro w' ⟨s0, s1, s2, s3⟩
           go_simp
           with_reducible rfl
          rotate_left
          ·simp only [Act.put, List.setIfInBounds_toArray, List.set_cons_zero, List.set_cons_succ, i64_w, i32_w]
           rfl
          refine one_ (i := 6) (N := some 37) #[Y,Y,Y,Y,Y,Y,Y,O] rfl rfl (one_of HT_.out (by kernel_rfl)) (by decide) (fun K hK => ?_)
          refine goes_ Tryd.func42 (by kernel_rfl) rfl #[.int .i64 (wrap64 ((wrap64 (x1_1 + 1)) + 1))] (by rfl) rfl rfl (by (try simp only [List.map_toArray, List.map_cons, List.map_nil]); first | done | rfl | (simp only [List.length_drop, List.length_take]; rfl)) ?_
          with_reducible refine (laws_markText.calls k1 (wrap64 ((wrap64 (x1_1 + 1)) + 1)) t278 _ A8.out).mono ?_
          rintro e w21 ⟨rfl, hb⟩
          refine ⟨_, rfl, ?_⟩
          have n0_ := Aside0.mk (below_step (pl0 HB.out) hb)
          clear HB
          have HB := n0_
          clear n0_
          (try clear hb)
          (try clear hb2)
          (try clear hk)
          (try clear hi)
          refine hK.out _ _ ⟨((HB.out.cell (World.block_lt_of_cell? w _ hw277_0)).trans hw277_0), ((HB.out.cell (World.block_lt_of_cell? w _ hw277_1)).trans hw277_1), ((HB.out.cell (World.block_lt_of_cell? w _ hw277_2)).trans hw277_2), ((HB.out.cell (World.block_lt_of_cell? w _ hw277_3)).trans hw277_3)⟩ (fun hHeld => ?_)
          clear hK K
          refine norm_ (a' := ?_) ?_ ?_
          rotate_left
          ·show Act.put _ (some 37) _ = _
           simp only [Act.put, List.setIfInBounds_toArray, List.set_cons_zero, List.set_cons_succ, i64_w, i32_w]
           rfl
          refine pz 7 38 #[Y,Y,Y,Y,Y,Y,Y,Y] HT_ ?_
          refine done_ (done_of HT_.out (by kernel_rfl)) ?_
          try go_wp2
          have n0_ := Aside0.mk (below_drew1 HB.out)
          clear HB
          have HB := n0_
          clear n0_
          have p279 : 0 ≤ (x5_1 : Int) := oda
          have q279 : x5_1 < (l0.length : Int) := oda
          obtain ⟨ad279, e279, hx279_0, hx279_1, hx279_2, hx279_3⟩ := at_T66 HR0.out x5_1 p279 q279
          have hw279_3 := hx279_3
          have hw279_2 := hx279_2
          have hw279_1 := hx279_1
          have hw279_0 := hx279_0
          obtain rfl : ad274 = ad279 := (by injection e279)
          replace hx279_0 := hbc HB.out hx279_0
          replace hx279_1 := hbc HB.out hx279_1
          replace hx279_2 := hbc HB.out hx279_2
          replace hx279_3 := hbc HB.out hx279_3
          replace p279 := eq_true p279
          replace q279 := eq_true q279
          refine start_ (n := 8) (S := fun w' => w'.cell? (ad274.add ((x5_1).toNat * 4)) = some (.int .i64 ((rd_T66 l0 x5_1).f0)) ∧ w'.cell? ⟨(ad274.add ((x5_1).toNat * 4)).block, (ad274.add ((x5_1).toNat * 4)).off + 1, none⟩ = some (.string ((rd_T66 l0 x5_1).f1)) ∧ w'.cell? ⟨(ad274.add ((x5_1).toNat * 4)).block, (ad274.add ((x5_1).toNat * 4)).off + 2, none⟩ = some (.string ((rd_T66 l0 x5_1).f2)) ∧ w'.cell? ⟨(ad274.add ((x5_1).toNat * 4)).block, (ad274.add ((x5_1).toNat * 4)).off + 3, none⟩ = some (.string ((rd_T66 l0 x5_1).f3))) (ds := []) #[O,O,O,O,O,O,O,O] (by kernel_rfl) rfl rfl ⟨((HB.out.cell (World.block_lt_of_cell? w _ hw279_0)).trans hw279_0), ((HB.out.cell (World.block_lt_of_cell? w _ hw279_1)).trans hw279_1), ((HB.out.cell (World.block_lt_of_cell? w _ hw279_2)).trans hw279_2), ((HB.out.cell (World.block_lt_of_cell? w _ hw279_3)).trans hw279_3)⟩ (fun hHeld => ?_); refine with_tabW laws_heldActS.tab13 laws_heldActS.bits13 (fun HT_ HW_ => ?_)
          generalize w21.drew = w22 at HB hx279_0 hx279_1 hx279_2 hx279_3 hHeld ⊢
          refine pz 0 41 #[Y,O,O,O,O,O,O,O] HT_ ?_
          refine pz 1 42 #[Y,Y,O,O,O,O,O,O] HT_ ?_
          refine pz 2 43 #[Y,Y,Y,O,O,O,O,O] HT_ ?_
          refine pz 3 44 #[Y,Y,Y,Y,O,O,O,O] HT_ ?_
          refine pure_ (i := 5) (N := some 46) (v := ?_) (a' := ?_) #[Y,Y,Y,Y,O,Y,O,O] rfl rfl (any_of HT_.out (by kernel_rfl)) (fun _ _ _ h => h) (Or.inl ⟨by rfl, ?_⟩) ?_ ?_
          rotate_left
          ·intro w'
           go_simp
           with_reducible rfl
          rotate_left
          ·simp only [Act.put, List.setIfInBounds_toArray, List.set_cons_zero, List.set_cons_succ, i64_w, i32_w]
           rfl
          refine take_ (i := 4) (N := some 45) (v := ?_) (a' := ?_) #[Y,Y,Y,Y,Y,Y,O,O] rfl rfl (take_ofW HT_.out HW_.out (by kernel_rfl)) (fun _ _ _ h => h) (Or.inl ⟨by rfl, ?_⟩) hHeld ?_ ?_
          rotate_left
          ·rintro w' ⟨s0, s1, s2, s3⟩
           go_simp
           with_reducible rfl
          rotate_left
          ·simp only [Act.put, List.setIfInBounds_toArray, List.set_cons_zero, List.set_cons_succ, i64_w, i32_w]
           rfl
          refine one_ (i := 6) (N := some 47) #[Y,Y,Y,Y,Y,Y,Y,O] rfl rfl (one_of HT_.out (by kernel_rfl)) (by decide) (fun K hK => ?_)
          refine goes_ Tryd.func42 (by kernel_rfl) rfl #[.int .i64 (wrap64 ((wrap64 ((wrap64 (x1_1 + 1)) + 1)) + 1))] (by rfl) rfl rfl (by (try simp only [List.map_toArray, List.map_cons, List.map_nil]); first | done | rfl | (simp only [List.length_drop, List.length_take]; rfl)) ?_
          with_reducible refine (laws_markText.calls k1 (wrap64 ((wrap64 ((wrap64 (x1_1 + 1)) + 1)) + 1)) t280 _ A10.out).mono ?_
          rintro e w23 ⟨rfl, hb⟩
          refine ⟨_, rfl, ?_⟩
          have n0_ := Aside0.mk (below_step (pl0 HB.out) hb)
          clear HB
          have HB := n0_
          clear n0_
          (try clear hb)
          (try clear hb2)
          (try clear hk)
          (try clear hi)
          refine hK.out _ _ ⟨((HB.out.cell (World.block_lt_of_cell? w _ hw279_0)).trans hw279_0), ((HB.out.cell (World.block_lt_of_cell? w _ hw279_1)).trans hw279_1), ((HB.out.cell (World.block_lt_of_cell? w _ hw279_2)).trans hw279_2), ((HB.out.cell (World.block_lt_of_cell? w _ hw279_3)).trans hw279_3)⟩ (fun hHeld => ?_)
          clear hK K
          refine norm_ (a' := ?_) ?_ ?_
          rotate_left
          ·show Act.put _ (some 47) _ = _
           simp only [Act.put, List.setIfInBounds_toArray, List.set_cons_zero, List.set_cons_succ, i64_w, i32_w]
           rfl
          refine pz 7 48 #[Y,Y,Y,Y,Y,Y,Y,Y] HT_ ?_
          refine done_ (done_of HT_.out (by kernel_rfl)) ?_
          try go_wp2
          go_ret
          exact ⟨erq, pl0 HB.out⟩
        ·rw [if_neg c9] at H
         have c9b0 : (((rd_T66 l0 x5_1).f2).toList == t278.toList) = false := beq_eq_false_iff_ne.mpr c9
         have c9b1 : (((rd_T66 l0 x5_1).f2).toList != t278.toList) = true := bne_iff_ne.mpr c9
         obtain rfl := Option.some.inj H
         have p274 : 0 ≤ (x5_1 : Int) := oda
         have q274 : x5_1 < (l0.length : Int) := oda
         obtain ⟨ad274, e274, hx274_0, hx274_1, hx274_2, hx274_3⟩ := at_T66 HR0.out x5_1 p274 q274
         cases e274
         replace hx274_0 := hbc HB.out hx274_0
         replace hx274_1 := hbc HB.out hx274_1
         replace hx274_2 := hbc HB.out hx274_2
         replace hx274_3 := hbc HB.out hx274_3
         replace p274 := eq_true p274
         replace q274 := eq_true q274
         try go_wp2
         have n0_ := Aside0.mk (below_drew1 HB.out)
         clear HB
         have HB := n0_
         clear n0_
         have p275 : 0 ≤ (x5_1 : Int) := oda
         have q275 : x5_1 < (l0.length : Int) := oda
         obtain ⟨ad275, e275, hx275_0, hx275_1, hx275_2, hx275_3⟩ := at_T66 HR0.out x5_1 p275 q275
         have hw275_3 := hx275_3
         have hw275_2 := hx275_2
         have hw275_1 := hx275_1
         have hw275_0 := hx275_0
         obtain rfl : ad274 = ad275 := (by injection e275)
         replace hx275_0 := hbc HB.out hx275_0
         replace hx275_1 := hbc HB.out hx275_1
         replace hx275_2 := hbc HB.out hx275_2
         replace hx275_3 := hbc HB.out hx275_3
         replace p275 := eq_true p275
         replace q275 := eq_true q275
         refine start_ (n := 8) (S := fun w' => w'.cell? (ad274.add ((x5_1).toNat * 4)) = some (.int .i64 ((rd_T66 l0 x5_1).f0)) ∧ w'.cell? ⟨(ad274.add ((x5_1).toNat * 4)).block, (ad274.add ((x5_1).toNat * 4)).off + 1, none⟩ = some (.string ((rd_T66 l0 x5_1).f1)) ∧ w'.cell? ⟨(ad274.add ((x5_1).toNat * 4)).block, (ad274.add ((x5_1).toNat * 4)).off + 2, none⟩ = some (.string ((rd_T66 l0 x5_1).f2)) ∧ w'.cell? ⟨(ad274.add ((x5_1).toNat * 4)).block, (ad274.add ((x5_1).toNat * 4)).off + 3, none⟩ = some (.string ((rd_T66 l0 x5_1).f3))) (ds := []) #[O,O,O,O,O,O,O,O] (by kernel_rfl) rfl rfl ⟨((HB.out.cell (World.block_lt_of_cell? w _ hw275_0)).trans hw275_0), ((HB.out.cell (World.block_lt_of_cell? w _ hw275_1)).trans hw275_1), ((HB.out.cell (World.block_lt_of_cell? w _ hw275_2)).trans hw275_2), ((HB.out.cell (World.block_lt_of_cell? w _ hw275_3)).trans hw275_3)⟩ (fun hHeld => ?_); refine with_tabW laws_heldActS.tab7 laws_heldActS.bits7 (fun HT_ HW_ => ?_)
         generalize wr.drew = w24 at HB hx275_0 hx275_1 hx275_2 hx275_3 hHeld ⊢
         refine pz 0 21 #[Y,O,O,O,O,O,O,O] HT_ ?_
         refine pz 1 22 #[Y,Y,O,O,O,O,O,O] HT_ ?_
         refine pz 2 23 #[Y,Y,Y,O,O,O,O,O] HT_ ?_
         refine pz 3 24 #[Y,Y,Y,Y,O,O,O,O] HT_ ?_
         refine pure_ (i := 5) (N := some 26) (v := ?_) (a' := ?_) #[Y,Y,Y,Y,O,Y,O,O] rfl rfl (any_of HT_.out (by kernel_rfl)) (fun _ _ _ h => h) (Or.inl ⟨by rfl, ?_⟩) ?_ ?_
         rotate_left
         ·intro w'
          go_simp
          with_reducible rfl
         rotate_left
         ·simp only [Act.put, List.setIfInBounds_toArray, List.set_cons_zero, List.set_cons_succ, i64_w, i32_w]
          rfl
         refine take_ (i := 4) (N := some 25) (v := ?_) (a' := ?_) #[Y,Y,Y,Y,Y,Y,O,O] rfl rfl (take_ofW HT_.out HW_.out (by kernel_rfl)) (fun _ _ _ h => h) (Or.inl ⟨by rfl, ?_⟩) hHeld ?_ ?_
         rotate_left
         ·rintro w' ⟨s0, s1, s2, s3⟩
          go_simp
          with_reducible rfl
         rotate_left
         ·simp only [Act.put, List.setIfInBounds_toArray, List.set_cons_zero, List.set_cons_succ, i64_w, i32_w]
          rfl
         refine one_ (i := 6) (N := some 27) #[Y,Y,Y,Y,Y,Y,Y,O] rfl rfl (one_of HT_.out (by kernel_rfl)) (by decide) (fun K hK => ?_)
         refine goes_ Tryd.func42 (by kernel_rfl) rfl #[.int .i64 (wrap64 (x1_1 + 1))] (by rfl) rfl rfl (by (try simp only [List.map_toArray, List.map_cons, List.map_nil]); first | done | rfl | (simp only [List.length_drop, List.length_take]; rfl)) ?_
         with_reducible refine (laws_markText.calls k1 (wrap64 (x1_1 + 1)) t276 _ A6.out).mono ?_
         rintro e w25 ⟨rfl, hb⟩
         refine ⟨_, rfl, ?_⟩
         have n0_ := Aside0.mk (below_step (pl0 HB.out) hb)
         clear HB
         have HB := n0_
         clear n0_
         (try clear hb)
         (try clear hb2)
         (try clear hk)
         (try clear hi)
         refine hK.out _ _ ⟨((HB.out.cell (World.block_lt_of_cell? w _ hw275_0)).trans hw275_0), ((HB.out.cell (World.block_lt_of_cell? w _ hw275_1)).trans hw275_1), ((HB.out.cell (World.block_lt_of_cell? w _ hw275_2)).trans hw275_2), ((HB.out.cell (World.block_lt_of_cell? w _ hw275_3)).trans hw275_3)⟩ (fun hHeld => ?_)
         clear hK K
         refine norm_ (a' := ?_) ?_ ?_
         rotate_left
         ·show Act.put _ (some 27) _ = _
          simp only [Act.put, List.setIfInBounds_toArray, List.set_cons_zero, List.set_cons_succ, i64_w, i32_w]
          rfl
         refine pz 7 28 #[Y,Y,Y,Y,Y,Y,Y,Y] HT_ ?_
         refine done_ (done_of HT_.out (by kernel_rfl)) ?_
         try go_wp2
         have n0_ := Aside0.mk (below_drew1 HB.out)
         clear HB
         have HB := n0_
         clear n0_
         have p277 : 0 ≤ (x5_1 : Int) := oda
         have q277 : x5_1 < (l0.length : Int) := oda
         obtain ⟨ad277, e277, hx277_0, hx277_1, hx277_2, hx277_3⟩ := at_T66 HR0.out x5_1 p277 q277
         have hw277_3 := hx277_3
         have hw277_2 := hx277_2
         have hw277_1 := hx277_1
         have hw277_0 := hx277_0
         obtain rfl : ad274 = ad277 := (by injection e277)
         replace hx277_0 := hbc HB.out hx277_0
         replace hx277_1 := hbc HB.out hx277_1
         replace hx277_2 := hbc HB.out hx277_2
         replace hx277_3 := hbc HB.out hx277_3
         replace p277 := eq_true p277
         replace q277 := eq_true q277
         refine start_ (n := 8) (S := fun w' => w'.cell? (ad274.add ((x5_1).toNat * 4)) = some (.int .i64 ((rd_T66 l0 x5_1).f0)) ∧ w'.cell? ⟨(ad274.add ((x5_1).toNat * 4)).block, (ad274.add ((x5_1).toNat * 4)).off + 1, none⟩ = some (.string ((rd_T66 l0 x5_1).f1)) ∧ w'.cell? ⟨(ad274.add ((x5_1).toNat * 4)).block, (ad274.add ((x5_1).toNat * 4)).off + 2, none⟩ = some (.string ((rd_T66 l0 x5_1).f2)) ∧ w'.cell? ⟨(ad274.add ((x5_1).toNat * 4)).block, (ad274.add ((x5_1).toNat * 4)).off + 3, none⟩ = some (.string ((rd_T66 l0 x5_1).f3))) (ds := []) #[O,O,O,O,O,O,O,O] (by kernel_rfl) rfl rfl ⟨((HB.out.cell (World.block_lt_of_cell? w _ hw277_0)).trans hw277_0), ((HB.out.cell (World.block_lt_of_cell? w _ hw277_1)).trans hw277_1), ((HB.out.cell (World.block_lt_of_cell? w _ hw277_2)).trans hw277_2), ((HB.out.cell (World.block_lt_of_cell? w _ hw277_3)).trans hw277_3)⟩ (fun hHeld => ?_); refine with_tabW laws_heldActS.tab10 laws_heldActS.bits10 (fun HT_ HW_ => ?_)
         generalize w25.drew = w26 at HB hx277_0 hx277_1 hx277_2 hx277_3 hHeld ⊢
         refine pz 0 31 #[Y,O,O,O,O,O,O,O] HT_ ?_
         refine pz 1 32 #[Y,Y,O,O,O,O,O,O] HT_ ?_
         refine pz 2 33 #[Y,Y,Y,O,O,O,O,O] HT_ ?_
         refine pz 3 34 #[Y,Y,Y,Y,O,O,O,O] HT_ ?_
         refine pure_ (i := 5) (N := some 36) (v := ?_) (a' := ?_) #[Y,Y,Y,Y,O,Y,O,O] rfl rfl (any_of HT_.out (by kernel_rfl)) (fun _ _ _ h => h) (Or.inl ⟨by rfl, ?_⟩) ?_ ?_
         rotate_left
         ·intro w'
          go_simp
          with_reducible rfl
         rotate_left
         ·simp only [Act.put, List.setIfInBounds_toArray, List.set_cons_zero, List.set_cons_succ, i64_w, i32_w]
          rfl
         refine take_ (i := 4) (N := some 35) (v := ?_) (a' := ?_) #[Y,Y,Y,Y,Y,Y,O,O] rfl rfl (take_ofW HT_.out HW_.out (by kernel_rfl)) (fun _ _ _ h => h) (Or.inl ⟨by rfl, ?_⟩) hHeld ?_ ?_
         rotate_left
         ·rintro w' ⟨s0, s1, s2, s3⟩
          go_simp
          with_reducible rfl
         rotate_left
         ·simp only [Act.put, List.setIfInBounds_toArray, List.set_cons_zero, List.set_cons_succ, i64_w, i32_w]
          rfl
         refine one_ (i := 6) (N := some 37) #[Y,Y,Y,Y,Y,Y,Y,O] rfl rfl (one_of HT_.out (by kernel_rfl)) (by decide) (fun K hK => ?_)
         refine goes_ Tryd.func42 (by kernel_rfl) rfl #[.int .i64 (wrap64 ((wrap64 (x1_1 + 1)) + 1))] (by rfl) rfl rfl (by (try simp only [List.map_toArray, List.map_cons, List.map_nil]); first | done | rfl | (simp only [List.length_drop, List.length_take]; rfl)) ?_
         with_reducible refine (laws_markText.calls k1 (wrap64 ((wrap64 (x1_1 + 1)) + 1)) t278 _ A8.out).mono ?_
         rintro e w27 ⟨rfl, hb⟩
         refine ⟨_, rfl, ?_⟩
         have n0_ := Aside0.mk (below_step (pl0 HB.out) hb)
         clear HB
         have HB := n0_
         clear n0_
         (try clear hb)
         (try clear hb2)
         (try clear hk)
         (try clear hi)
         refine hK.out _ _ ⟨((HB.out.cell (World.block_lt_of_cell? w _ hw277_0)).trans hw277_0), ((HB.out.cell (World.block_lt_of_cell? w _ hw277_1)).trans hw277_1), ((HB.out.cell (World.block_lt_of_cell? w _ hw277_2)).trans hw277_2), ((HB.out.cell (World.block_lt_of_cell? w _ hw277_3)).trans hw277_3)⟩ (fun hHeld => ?_)
         clear hK K
         refine norm_ (a' := ?_) ?_ ?_
         rotate_left
         ·show Act.put _ (some 37) _ = _
          simp only [Act.put, List.setIfInBounds_toArray, List.set_cons_zero, List.set_cons_succ, i64_w, i32_w]
          rfl
         refine pz 7 38 #[Y,Y,Y,Y,Y,Y,Y,Y] HT_ ?_
         refine done_ (done_of HT_.out (by kernel_rfl)) ?_
         try go_wp2
         go_ret
         exact ⟨erq, pl0 HB.out⟩
       ·rw [if_neg c7] at H
        have c7b0 : (((rd_T66 l0 x5_1).f1).toList == t276.toList) = false := beq_eq_false_iff_ne.mpr c7
        have c7b1 : (((rd_T66 l0 x5_1).f1).toList != t276.toList) = true := bne_iff_ne.mpr c7
        obtain rfl := Option.some.inj H
        have p274 : 0 ≤ (x5_1 : Int) := oda
        have q274 : x5_1 < (l0.length : Int) := oda
        obtain ⟨ad274, e274, hx274_0, hx274_1, hx274_2, hx274_3⟩ := at_T66 HR0.out x5_1 p274 q274
        cases e274
        replace hx274_0 := hbc HB.out hx274_0
        replace hx274_1 := hbc HB.out hx274_1
        replace hx274_2 := hbc HB.out hx274_2
        replace hx274_3 := hbc HB.out hx274_3
        replace p274 := eq_true p274
        replace q274 := eq_true q274
        try go_wp2
        have n0_ := Aside0.mk (below_drew1 HB.out)
        clear HB
        have HB := n0_
        clear n0_
        have p275 : 0 ≤ (x5_1 : Int) := oda
        have q275 : x5_1 < (l0.length : Int) := oda
        obtain ⟨ad275, e275, hx275_0, hx275_1, hx275_2, hx275_3⟩ := at_T66 HR0.out x5_1 p275 q275
        have hw275_3 := hx275_3
        have hw275_2 := hx275_2
        have hw275_1 := hx275_1
        have hw275_0 := hx275_0
        obtain rfl : ad274 = ad275 := (by injection e275)
        replace hx275_0 := hbc HB.out hx275_0
        replace hx275_1 := hbc HB.out hx275_1
        replace hx275_2 := hbc HB.out hx275_2
        replace hx275_3 := hbc HB.out hx275_3
        replace p275 := eq_true p275
        replace q275 := eq_true q275
        refine start_ (n := 8) (S := fun w' => w'.cell? (ad274.add ((x5_1).toNat * 4)) = some (.int .i64 ((rd_T66 l0 x5_1).f0)) ∧ w'.cell? ⟨(ad274.add ((x5_1).toNat * 4)).block, (ad274.add ((x5_1).toNat * 4)).off + 1, none⟩ = some (.string ((rd_T66 l0 x5_1).f1)) ∧ w'.cell? ⟨(ad274.add ((x5_1).toNat * 4)).block, (ad274.add ((x5_1).toNat * 4)).off + 2, none⟩ = some (.string ((rd_T66 l0 x5_1).f2)) ∧ w'.cell? ⟨(ad274.add ((x5_1).toNat * 4)).block, (ad274.add ((x5_1).toNat * 4)).off + 3, none⟩ = some (.string ((rd_T66 l0 x5_1).f3))) (ds := []) #[O,O,O,O,O,O,O,O] (by kernel_rfl) rfl rfl ⟨((HB.out.cell (World.block_lt_of_cell? w _ hw275_0)).trans hw275_0), ((HB.out.cell (World.block_lt_of_cell? w _ hw275_1)).trans hw275_1), ((HB.out.cell (World.block_lt_of_cell? w _ hw275_2)).trans hw275_2), ((HB.out.cell (World.block_lt_of_cell? w _ hw275_3)).trans hw275_3)⟩ (fun hHeld => ?_); refine with_tabW laws_heldActS.tab7 laws_heldActS.bits7 (fun HT_ HW_ => ?_)
        generalize wr.drew = w28 at HB hx275_0 hx275_1 hx275_2 hx275_3 hHeld ⊢
        refine pz 0 21 #[Y,O,O,O,O,O,O,O] HT_ ?_
        refine pz 1 22 #[Y,Y,O,O,O,O,O,O] HT_ ?_
        refine pz 2 23 #[Y,Y,Y,O,O,O,O,O] HT_ ?_
        refine pz 3 24 #[Y,Y,Y,Y,O,O,O,O] HT_ ?_
        refine pure_ (i := 5) (N := some 26) (v := ?_) (a' := ?_) #[Y,Y,Y,Y,O,Y,O,O] rfl rfl (any_of HT_.out (by kernel_rfl)) (fun _ _ _ h => h) (Or.inl ⟨by rfl, ?_⟩) ?_ ?_
        rotate_left
        ·intro w'
         go_simp
         with_reducible rfl
        rotate_left
        ·simp only [Act.put, List.setIfInBounds_toArray, List.set_cons_zero, List.set_cons_succ, i64_w, i32_w]
         rfl
        refine take_ (i := 4) (N := some 25) (v := ?_) (a' := ?_) #[Y,Y,Y,Y,Y,Y,O,O] rfl rfl (take_ofW HT_.out HW_.out (by kernel_rfl)) (fun _ _ _ h => h) (Or.inl ⟨by rfl, ?_⟩) hHeld ?_ ?_
        rotate_left
        ·rintro w' ⟨s0, s1, s2, s3⟩
         go_simp
         with_reducible rfl
        rotate_left
        ·simp only [Act.put, List.setIfInBounds_toArray, List.set_cons_zero, List.set_cons_succ, i64_w, i32_w]
         rfl
        refine one_ (i := 6) (N := some 27) #[Y,Y,Y,Y,Y,Y,Y,O] rfl rfl (one_of HT_.out (by kernel_rfl)) (by decide) (fun K hK => ?_)
        refine goes_ Tryd.func42 (by kernel_rfl) rfl #[.int .i64 (wrap64 (x1_1 + 1))] (by rfl) rfl rfl (by (try simp only [List.map_toArray, List.map_cons, List.map_nil]); first | done | rfl | (simp only [List.length_drop, List.length_take]; rfl)) ?_
        with_reducible refine (laws_markText.calls k1 (wrap64 (x1_1 + 1)) t276 _ A6.out).mono ?_
        rintro e w29 ⟨rfl, hb⟩
        refine ⟨_, rfl, ?_⟩
        have n0_ := Aside0.mk (below_step (pl0 HB.out) hb)
        clear HB
        have HB := n0_
        clear n0_
        (try clear hb)
        (try clear hb2)
        (try clear hk)
        (try clear hi)
        refine hK.out _ _ ⟨((HB.out.cell (World.block_lt_of_cell? w _ hw275_0)).trans hw275_0), ((HB.out.cell (World.block_lt_of_cell? w _ hw275_1)).trans hw275_1), ((HB.out.cell (World.block_lt_of_cell? w _ hw275_2)).trans hw275_2), ((HB.out.cell (World.block_lt_of_cell? w _ hw275_3)).trans hw275_3)⟩ (fun hHeld => ?_)
        clear hK K
        refine norm_ (a' := ?_) ?_ ?_
        rotate_left
        ·show Act.put _ (some 27) _ = _
         simp only [Act.put, List.setIfInBounds_toArray, List.set_cons_zero, List.set_cons_succ, i64_w, i32_w]
         rfl
        refine pz 7 28 #[Y,Y,Y,Y,Y,Y,Y,Y] HT_ ?_
        refine done_ (done_of HT_.out (by kernel_rfl)) ?_
        try go_wp2
        go_ret
        exact ⟨erq, pl0 HB.out⟩
      ·rw [if_neg c5] at H
       have c5b0 : (((rd_T66 l0 x5_1).f0) == x1_1) = false := beq_eq_false_iff_ne.mpr c5
       have c5b1 : (((rd_T66 l0 x5_1).f0) != x1_1) = true := bne_iff_ne.mpr c5
       obtain rfl := Option.some.inj H
       have p274 : 0 ≤ (x5_1 : Int) := oda
       have q274 : x5_1 < (l0.length : Int) := oda
       obtain ⟨ad274, e274, hx274_0, hx274_1, hx274_2, hx274_3⟩ := at_T66 HR0.out x5_1 p274 q274
       cases e274
       replace hx274_0 := hbc HB.out hx274_0
       replace hx274_1 := hbc HB.out hx274_1
       replace hx274_2 := hbc HB.out hx274_2
       replace hx274_3 := hbc HB.out hx274_3
       replace p274 := eq_true p274
       replace q274 := eq_true q274
       go_wp2
       go_ret
       exact ⟨erq, pl0 HB.out⟩
     ·rw [if_neg c4] at H
      exact absurd H (by simp)
    ·rw [if_neg c3] at H
     have c3b0 : decide (x5_1 < (l0.length : Int)) = false := decide_eq_false c3
     clear c3
     obtain rfl := Option.some.inj H
     go_wp2
     go_ret
     exact ⟨erq, pl0 HB.out⟩
end Go.Proofs.YtffnjbhimhbomaaDoor.QTF
