/- Walks, as the kit's print writes them, run with stubs of my own and mended: TG. -/
import Derived.Test.YtffnjbhimhbomaaDoorQTG0
import Derived.Test.YtffnjbhimhbomaaDoorQTA1
namespace Go.Proofs.YtffnjbhimhbomaaDoor.QTG
open Go.Proofs.YtffnjbhimhbomaaDoor.QTA Go.Proofs.YtffnjbhimhbomaaDoor.QTB Go.Proofs.YtffnjbhimhbomaaDoor.QTC Go.Proofs.YtffnjbhimhbomaaDoor.QTD Go.Proofs.YtffnjbhimhbomaaDoor.QTE Go.Proofs.YtffnjbhimhbomaaDoor.QTF
open Go.Proofs.YtffnjbhimhbomaaDoorW Go.Proofs.YtffnjbhimhbomaaDoorW.Zip
open Go.RowKit Go.Proofs.YtffnjbhimhbomaaDoorW.PrintWords Go.Proofs.YtffnjbhimhbomaaDoorW.PrintLast Go.Proofs.YtffnjbhimhbomaaDoorW.PrintMore
attribute [local go_sem] max2_int min2_int max_two min_two max_three min_three max_four min_four   -- for this text's walks alone
set_option linter.unusedVariables false
set_option linter.unusedSimpArgs false
def laws_markEditS.l0 : Nat → List (S34) → Int → Int → Option (Int × (List (S34)))
  | 0, _, _, _ => none
  | k + 1, x0, x1, x5 => if x5 < (x0.length : Int) then (if 0 ≤ x5 then ((some (x0.set (x5 : Int).toNat (⟨x1, (rd_T34 x0 x5).f1, (rd_T34 x0 x5).f2, (rd_T34 x0 x5).f3, (rd_T34 x0 x5).f4⟩ : S34) : List (S34))).bind fun y321 => ((laws_markText.f k (wrap64 (x1 + 1))).bind fun t322 => ((some (y321.set (x5 : Int).toNat (⟨(rd_T34 y321 x5).f0, t322, (rd_T34 y321 x5).f2, (rd_T34 y321 x5).f3, (rd_T34 y321 x5).f4⟩ : S34) : List (S34))).bind fun y323 => ((laws_markText.f k (wrap64 ((wrap64 (x1 + 1)) + 1))).bind fun t324 => ((some (y323.set (x5 : Int).toNat (⟨(rd_T34 y323 x5).f0, (rd_T34 y323 x5).f1, t324, (rd_T34 y323 x5).f3, (rd_T34 y323 x5).f4⟩ : S34) : List (S34))).bind fun y325 => ((some (y325.set (x5 : Int).toNat (⟨(rd_T34 y325 x5).f0, (rd_T34 y325 x5).f1, (rd_T34 y325 x5).f2, wrap64 ((wrap64 ((wrap64 (x1 + 1)) + 1)) + 1), (rd_T34 y325 x5).f4⟩ : S34) : List (S34))).bind fun y326 => (laws_markEditS.l0 k (y326.set (x5 : Int).toNat (⟨(rd_T34 y326 x5).f0, (rd_T34 y326 x5).f1, (rd_T34 y326 x5).f2, (rd_T34 y326 x5).f3, wrap64 ((wrap64 ((wrap64 ((wrap64 (x1 + 1)) + 1)) + 1)) + 1)⟩ : S34)) (wrap64 ((wrap64 ((wrap64 ((wrap64 ((wrap64 (x1 + 1)) + 1)) + 1)) + 1)) + 1)) (wrap64 (x5 + 1))))))))) else (none)) else (some (x1, x0))
def laws_markEditS.f (k : Nat) (l0 : List (S34)) (a1 : Int) : Option (Int × (List (S34))) := laws_markEditS.l0 k l0 a1 0
set_option maxHeartbeats 8000000 in
set_option maxRecDepth 100000 in
theorem laws_markEditS.calls (k : Nat) (P0_ : Nat → Prop) (u9000_ : Value) (l0 : List (S34)) (a1 : Int) (r1 : Int) (r2 : List (S34)) (w0 w : World) (hB : Below w0.heap.size w0 w) (ho0 : Kd.R k34 34 w w0.heap.size P0_ u9000_ l0) (h : laws_markEditS.f k l0 a1 = some (r1, r2)) :
    Calls Tryd.prog 34 #[u9000_, .int .i64 a1] w fun e w' => e = .returned (.int .i64 r1) ∧ Kd.R k34 34 w' w0.heap.size (fun k_ => (P0_ k_ ∨ w.heap.size ≤ k_)) u9000_ r2 ∧ Below w0.heap.size w0 w' ∧ Kept w w' (fun k_ => P0_ k_) := by
  have HO0 := Aside0.mk (show Kd.R k34 34 w w0.heap.size (fun k_ => (P0_ k_ ∨ w.heap.size ≤ k_)) u9000_ l0 from Kd.R_mono ho0 (fun k_ hk => (.inl hk)))
  have HK := Aside0.mk (Kept.refl w (fun k_ => P0_ k_))
  have HW0 := Aside0.mk hB.size
  have HB := Aside0.mk hB
  clear hB
  have H : (laws_markEditS.l0 k l0 a1 0) = some (r1, r2) := h
  clear h
  have H' := Aside0.mk H
  clear H
  go_enter Tryd.func34, Tryd.ntmps34
  go_wp2
  go_loopg [1, 5] k (fun kq v1 v5 w' => ∃ (x0_1 : List (S34)) (x1_1 : Int) (x5_1 : Int), v1 = .int .i64 x1_1 ∧ v5 = .int .i64 x5_1 ∧ Aside0 (laws_markEditS.l0 kq x0_1 x1_1 x5_1 = some (r1, r2)) ∧ Aside0 (kq ≤ k) ∧ Aside0 (Kd.R k34 34 w' w0.heap.size (fun k_ => (P0_ k_ ∨ w.heap.size ≤ k_)) u9000_ x0_1) ∧ Aside0 (Kept w w' (fun k_ => P0_ k_)) ∧ Aside0 (Below w0.heap.size w0 w'))
  case atStart => exact ⟨(l0), (a1), (0), eqa, eqa, H', ⟨Nat.le_refl _⟩, ⟨by (with_reducible repeat (first | apply Kd.R_alloc | apply Kd.R_drewN | apply Kd.R_drew)); exact HO0.out⟩, ⟨by repeat (first | (with_reducible first | exact HK.out | apply Kept.alloc | apply Kept.drewN | apply Kept.drew) | exact HK.out)⟩, ⟨pl0 HB.out⟩⟩
  case round =>
   clear H'
   obtain ⟨x0_1, x1_1, x5_1, rfl, rfl, HA, HK1, HO_0, HK, HB⟩ := hrel
   cases gk with
   | zero => exact absurd HA.out (by simp [laws_markEditS.l0])
   | succ k1 =>
    have H := HA.out
    clear HA
    simp only [laws_markEditS.l0] at H
    by_cases c3 : x5_1 < (x0_1.length : Int)
    ·rw [if_pos c3] at H
     have c3b0 : decide (x5_1 < (x0_1.length : Int)) = true := decide_eq_true c3
     clear c3
     by_cases c4 : 0 ≤ x5_1
     ·rw [if_pos c4] at H
      have c4b0 : decide (0 ≤ x5_1) = true := decide_eq_true c4
      clear c4
      obtain ⟨y321, hy321⟩ : ∃ y_ : List (S34), y_ = (x0_1.set (x5_1 : Int).toNat (⟨x1_1, (rd_T34 x0_1 x5_1).f1, (rd_T34 x0_1 x5_1).f2, (rd_T34 x0_1 x5_1).f3, (rd_T34 x0_1 x5_1).f4⟩ : S34)) := ⟨_, rfl⟩
      replace H : ((laws_markText.f k1 (wrap64 (x1_1 + 1))).bind fun t322 => ((some (y321.set (x5_1 : Int).toNat (⟨(rd_T34 y321 x5_1).f0, t322, (rd_T34 y321 x5_1).f2, (rd_T34 y321 x5_1).f3, (rd_T34 y321 x5_1).f4⟩ : S34) : List (S34))).bind fun y323 => ((laws_markText.f k1 (wrap64 ((wrap64 (x1_1 + 1)) + 1))).bind fun t324 => ((some (y323.set (x5_1 : Int).toNat (⟨(rd_T34 y323 x5_1).f0, (rd_T34 y323 x5_1).f1, t324, (rd_T34 y323 x5_1).f3, (rd_T34 y323 x5_1).f4⟩ : S34) : List (S34))).bind fun y325 => ((some (y325.set (x5_1 : Int).toNat (⟨(rd_T34 y325 x5_1).f0, (rd_T34 y325 x5_1).f1, (rd_T34 y325 x5_1).f2, wrap64 ((wrap64 ((wrap64 (x1_1 + 1)) + 1)) + 1), (rd_T34 y325 x5_1).f4⟩ : S34) : List (S34))).bind fun y326 => (laws_markEditS.l0 k1 (y326.set (x5_1 : Int).toNat (⟨(rd_T34 y326 x5_1).f0, (rd_T34 y326 x5_1).f1, (rd_T34 y326 x5_1).f2, (rd_T34 y326 x5_1).f3, wrap64 ((wrap64 ((wrap64 ((wrap64 (x1_1 + 1)) + 1)) + 1)) + 1)⟩ : S34)) (wrap64 ((wrap64 ((wrap64 ((wrap64 ((wrap64 (x1_1 + 1)) + 1)) + 1)) + 1)) + 1)) (wrap64 (x5_1 + 1)))))))) = some (r1, r2) := by first | (rw [hy321]; with_reducible exact H) | (have H2_ := (Option.bind_some _ _).symm.trans H; rw [hy321]; with_reducible exact H2_) | (have H2_ := (Option.bind_some _ _).symm.trans H; with_reducible exact H2_) | with_reducible exact H | (rw [hy321]; exact H) | exact H
      have Ny321 := Aside0.mk hy321
      clear hy321
      replace H := Option.bind_eq_some_iff.mp H
      obtain ⟨t322, A60, H⟩ := H
      replace H : ((some (y321.set (x5_1 : Int).toNat (⟨(rd_T34 y321 x5_1).f0, t322, (rd_T34 y321 x5_1).f2, (rd_T34 y321 x5_1).f3, (rd_T34 y321 x5_1).f4⟩ : S34) : List (S34))).bind fun y323 => ((laws_markText.f k1 (wrap64 ((wrap64 (x1_1 + 1)) + 1))).bind fun t324 => ((some (y323.set (x5_1 : Int).toNat (⟨(rd_T34 y323 x5_1).f0, (rd_T34 y323 x5_1).f1, t324, (rd_T34 y323 x5_1).f3, (rd_T34 y323 x5_1).f4⟩ : S34) : List (S34))).bind fun y325 => ((some (y325.set (x5_1 : Int).toNat (⟨(rd_T34 y325 x5_1).f0, (rd_T34 y325 x5_1).f1, (rd_T34 y325 x5_1).f2, wrap64 ((wrap64 ((wrap64 (x1_1 + 1)) + 1)) + 1), (rd_T34 y325 x5_1).f4⟩ : S34) : List (S34))).bind fun y326 => (laws_markEditS.l0 k1 (y326.set (x5_1 : Int).toNat (⟨(rd_T34 y326 x5_1).f0, (rd_T34 y326 x5_1).f1, (rd_T34 y326 x5_1).f2, (rd_T34 y326 x5_1).f3, wrap64 ((wrap64 ((wrap64 ((wrap64 (x1_1 + 1)) + 1)) + 1)) + 1)⟩ : S34)) (wrap64 ((wrap64 ((wrap64 ((wrap64 ((wrap64 (x1_1 + 1)) + 1)) + 1)) + 1)) + 1)) (wrap64 (x5_1 + 1))))))) = some (r1, r2) := H
      have A6 := Aside0.mk A60
      clear A60
      obtain ⟨y323, hy323⟩ : ∃ y_ : List (S34), y_ = (y321.set (x5_1 : Int).toNat (⟨(rd_T34 y321 x5_1).f0, t322, (rd_T34 y321 x5_1).f2, (rd_T34 y321 x5_1).f3, (rd_T34 y321 x5_1).f4⟩ : S34)) := ⟨_, rfl⟩
      replace H : ((laws_markText.f k1 (wrap64 ((wrap64 (x1_1 + 1)) + 1))).bind fun t324 => ((some (y323.set (x5_1 : Int).toNat (⟨(rd_T34 y323 x5_1).f0, (rd_T34 y323 x5_1).f1, t324, (rd_T34 y323 x5_1).f3, (rd_T34 y323 x5_1).f4⟩ : S34) : List (S34))).bind fun y325 => ((some (y325.set (x5_1 : Int).toNat (⟨(rd_T34 y325 x5_1).f0, (rd_T34 y325 x5_1).f1, (rd_T34 y325 x5_1).f2, wrap64 ((wrap64 ((wrap64 (x1_1 + 1)) + 1)) + 1), (rd_T34 y325 x5_1).f4⟩ : S34) : List (S34))).bind fun y326 => (laws_markEditS.l0 k1 (y326.set (x5_1 : Int).toNat (⟨(rd_T34 y326 x5_1).f0, (rd_T34 y326 x5_1).f1, (rd_T34 y326 x5_1).f2, (rd_T34 y326 x5_1).f3, wrap64 ((wrap64 ((wrap64 ((wrap64 (x1_1 + 1)) + 1)) + 1)) + 1)⟩ : S34)) (wrap64 ((wrap64 ((wrap64 ((wrap64 ((wrap64 (x1_1 + 1)) + 1)) + 1)) + 1)) + 1)) (wrap64 (x5_1 + 1)))))) = some (r1, r2) := by first | (rw [hy323]; with_reducible exact H) | (have H2_ := (Option.bind_some _ _).symm.trans H; rw [hy323]; with_reducible exact H2_) | (have H2_ := (Option.bind_some _ _).symm.trans H; with_reducible exact H2_) | with_reducible exact H | (rw [hy323]; exact H) | exact H
      have Ny323 := Aside0.mk hy323
      clear hy323
      replace H := Option.bind_eq_some_iff.mp H
      obtain ⟨t324, A80, H⟩ := H
      replace H : ((some (y323.set (x5_1 : Int).toNat (⟨(rd_T34 y323 x5_1).f0, (rd_T34 y323 x5_1).f1, t324, (rd_T34 y323 x5_1).f3, (rd_T34 y323 x5_1).f4⟩ : S34) : List (S34))).bind fun y325 => ((some (y325.set (x5_1 : Int).toNat (⟨(rd_T34 y325 x5_1).f0, (rd_T34 y325 x5_1).f1, (rd_T34 y325 x5_1).f2, wrap64 ((wrap64 ((wrap64 (x1_1 + 1)) + 1)) + 1), (rd_T34 y325 x5_1).f4⟩ : S34) : List (S34))).bind fun y326 => (laws_markEditS.l0 k1 (y326.set (x5_1 : Int).toNat (⟨(rd_T34 y326 x5_1).f0, (rd_T34 y326 x5_1).f1, (rd_T34 y326 x5_1).f2, (rd_T34 y326 x5_1).f3, wrap64 ((wrap64 ((wrap64 ((wrap64 (x1_1 + 1)) + 1)) + 1)) + 1)⟩ : S34)) (wrap64 ((wrap64 ((wrap64 ((wrap64 ((wrap64 (x1_1 + 1)) + 1)) + 1)) + 1)) + 1)) (wrap64 (x5_1 + 1))))) = some (r1, r2) := H
      have A8 := Aside0.mk A80
      clear A80
      obtain ⟨y325, hy325⟩ : ∃ y_ : List (S34), y_ = (y323.set (x5_1 : Int).toNat (⟨(rd_T34 y323 x5_1).f0, (rd_T34 y323 x5_1).f1, t324, (rd_T34 y323 x5_1).f3, (rd_T34 y323 x5_1).f4⟩ : S34)) := ⟨_, rfl⟩
      replace H : ((some (y325.set (x5_1 : Int).toNat (⟨(rd_T34 y325 x5_1).f0, (rd_T34 y325 x5_1).f1, (rd_T34 y325 x5_1).f2, wrap64 ((wrap64 ((wrap64 (x1_1 + 1)) + 1)) + 1), (rd_T34 y325 x5_1).f4⟩ : S34) : List (S34))).bind fun y326 => (laws_markEditS.l0 k1 (y326.set (x5_1 : Int).toNat (⟨(rd_T34 y326 x5_1).f0, (rd_T34 y326 x5_1).f1, (rd_T34 y326 x5_1).f2, (rd_T34 y326 x5_1).f3, wrap64 ((wrap64 ((wrap64 ((wrap64 (x1_1 + 1)) + 1)) + 1)) + 1)⟩ : S34)) (wrap64 ((wrap64 ((wrap64 ((wrap64 ((wrap64 (x1_1 + 1)) + 1)) + 1)) + 1)) + 1)) (wrap64 (x5_1 + 1)))) = some (r1, r2) := by first | (rw [hy325]; with_reducible exact H) | (have H2_ := (Option.bind_some _ _).symm.trans H; rw [hy325]; with_reducible exact H2_) | (have H2_ := (Option.bind_some _ _).symm.trans H; with_reducible exact H2_) | with_reducible exact H | (rw [hy325]; exact H) | exact H
      have Ny325 := Aside0.mk hy325
      clear hy325
      obtain ⟨y326, hy326⟩ : ∃ y_ : List (S34), y_ = (y325.set (x5_1 : Int).toNat (⟨(rd_T34 y325 x5_1).f0, (rd_T34 y325 x5_1).f1, (rd_T34 y325 x5_1).f2, wrap64 ((wrap64 ((wrap64 (x1_1 + 1)) + 1)) + 1), (rd_T34 y325 x5_1).f4⟩ : S34)) := ⟨_, rfl⟩
      replace H : (laws_markEditS.l0 k1 (y326.set (x5_1 : Int).toNat (⟨(rd_T34 y326 x5_1).f0, (rd_T34 y326 x5_1).f1, (rd_T34 y326 x5_1).f2, (rd_T34 y326 x5_1).f3, wrap64 ((wrap64 ((wrap64 ((wrap64 (x1_1 + 1)) + 1)) + 1)) + 1)⟩ : S34)) (wrap64 ((wrap64 ((wrap64 ((wrap64 ((wrap64 (x1_1 + 1)) + 1)) + 1)) + 1)) + 1)) (wrap64 (x5_1 + 1))) = some (r1, r2) := by first | (rw [hy326]; with_reducible exact H) | (have H2_ := (Option.bind_some _ _).symm.trans H; rw [hy326]; with_reducible exact H2_) | (have H2_ := (Option.bind_some _ _).symm.trans H; with_reducible exact H2_) | with_reducible exact H | (rw [hy326]; exact H) | exact H
      have Ny326 := Aside0.mk hy326
      clear hy326
      obtain ⟨y327, hy327⟩ : ∃ y_ : List (S34), y_ = (y326.set (x5_1 : Int).toNat (⟨(rd_T34 y326 x5_1).f0, (rd_T34 y326 x5_1).f1, (rd_T34 y326 x5_1).f2, (rd_T34 y326 x5_1).f3, wrap64 ((wrap64 ((wrap64 ((wrap64 (x1_1 + 1)) + 1)) + 1)) + 1)⟩ : S34)) := ⟨_, rfl⟩
      replace H : (laws_markEditS.l0 k1 y327 (wrap64 ((wrap64 ((wrap64 ((wrap64 ((wrap64 (x1_1 + 1)) + 1)) + 1)) + 1)) + 1)) (wrap64 (x5_1 + 1))) = some (r1, r2) := by first | (rw [hy327]; with_reducible exact H) | (have H2_ := (Option.bind_some _ _).symm.trans H; rw [hy327]; with_reducible exact H2_) | (have H2_ := (Option.bind_some _ _).symm.trans H; with_reducible exact H2_) | with_reducible exact H | (rw [hy327]; exact H) | exact H
      have Ny327 := Aside0.mk hy327
      clear hy327
      have H' := Aside0.mk H
      clear H
      obtain ⟨Ao12, co12, eo12⟩ := Kd.R_slice HO_0.out
      subst eo12
      have p5 : 0 ≤ (x5_1 : Int) := oda
      have q5 : (x5_1 : Int) < ((x0_1.length : Int) : Int) := oda
      obtain ⟨go5, co5, eo5, gb5, gl5, cl5, HG5⟩ := Kd.R_form HO_0.out (by omega)
      (first | cases eo5 | (injection eo5 with ea_ en_ ec_; (first | subst ea_ | (injection ea_ with ea_; subst ea_)); subst ec_; clear en_))
      have GB5 := Aside0.mk gb5
      have GG5 := Aside0.mk HG5
      clear gb5 gl5 HG5
      have HMgo5 := Aside0.mk (show (P0_ go5 ∨ w.heap.size ≤ go5) from (HO_0.out.1 _ rfl))
      obtain ⟨ce5, hcl5, hM5, hcc5, hfr5⟩ := Kd.R_elem HO_0.out z34 (x5_1 : Int) p5 q5
      obtain rfl := k34_openM hM5
      have hx5_0 : wr.cell? ⟨go5, (x5_1 : Int).toNat * 5, none⟩ = some (.int .i64 ((rd_T34 x0_1 x5_1).f0)) := hcc5 0 _ rfl
      have hx5_1 : wr.cell? ⟨go5, (x5_1 : Int).toNat * 5 + 1, none⟩ = some (.string ((rd_T34 x0_1 x5_1).f1)) := hcc5 1 _ rfl
      have hx5_2 : wr.cell? ⟨go5, (x5_1 : Int).toNat * 5 + 2, none⟩ = some (.string ((rd_T34 x0_1 x5_1).f2)) := hcc5 2 _ rfl
      have hx5_3 : wr.cell? ⟨go5, (x5_1 : Int).toNat * 5 + 3, none⟩ = some (.int .i64 ((rd_T34 x0_1 x5_1).f3)) := hcc5 3 _ rfl
      have hx5_4 : wr.cell? ⟨go5, (x5_1 : Int).toNat * 5 + 4, none⟩ = some (.int .i64 ((rd_T34 x0_1 x5_1).f4)) := hcc5 4 _ rfl
      have hf5_0 : wr.frozen? ⟨go5, (x5_1 : Int).toNat * 5, none⟩ = false := hfr5 0
      have hf5_1 : wr.frozen? ⟨go5, (x5_1 : Int).toNat * 5 + 1, none⟩ = false := hfr5 1
      have hf5_2 : wr.frozen? ⟨go5, (x5_1 : Int).toNat * 5 + 2, none⟩ = false := hfr5 2
      have hf5_3 : wr.frozen? ⟨go5, (x5_1 : Int).toNat * 5 + 3, none⟩ = false := hfr5 3
      have hf5_4 : wr.frozen? ⟨go5, (x5_1 : Int).toNat * 5 + 4, none⟩ = false := hfr5 4
      clear hcl5 hcc5 hfr5 hM5
      replace p5 := eq_true p5
      replace q5 := eq_true q5
      have HX13 := Aside0.mk (show Kd.R k34 34 wr w0.heap.size (fun k_ => (P0_ k_ ∨ w.heap.size ≤ k_)) (.slice (some ⟨go5, 0, none⟩) x0_1.length co12) x0_1 from (by (with_reducible repeat (first | apply Kd.R_alloc | apply Kd.R_drewN | apply Kd.R_drew)); exact HO_0.out))
      obtain ⟨ce13, hcl13, hM13, hcc13, hfr13⟩ := Kd.R_elem HX13.out z34 (x5_1 : Int) (of_decide_eq_true (by first | (with_reducible assumption) | assumption)) (by have h_ : (x5_1 : Int) < ((x0_1.length : Int) : Int) := oda; first | exact h_ | (have e_ := (Kd.R_reads' HO_0.out).1; omega) | simpa using h_)
      obtain rfl := k34_openM hM13
      have HP13 := Kd.R_seg HX13.out (x5_1 : Int) (of_decide_eq_true (by first | (with_reducible assumption) | assumption)) (by have h_ : (x5_1 : Int) < ((x0_1.length : Int) : Int) := oda; first | exact h_ | (have e_ := (Kd.R_reads' HO_0.out).1; omega) | simpa using h_) (seg := [.int .i64 x1_1]) (j := 0) hcl13 hcc13 (show 1 ≤ 5 from by decide) (x' := (⟨x1_1, (rd_T34 x0_1 x5_1).f1, (rd_T34 x0_1 x5_1).f2, (rd_T34 x0_1 x5_1).f3, (rd_T34 x0_1 x5_1).f4⟩ : S34)) (k34_mkM _ _ _ (⟨x1_1, (rd_T34 x0_1 x5_1).f1, (rd_T34 x0_1 x5_1).f2, (rd_T34 x0_1 x5_1).f3, (rd_T34 x0_1 x5_1).f4⟩ : S34) ) (fun _ hk => hk)
      have hx13_0 := hcc13 0 _ rfl
      (try simp only [show (k34).sz = 5 from rfl, Nat.mul_one, Nat.add_zero] at hx13_0)
      have hf13_0 := hfr13 0
      (try simp only [show (k34).sz = 5 from rfl, Nat.mul_one, Nat.add_zero] at hf13_0)
      clear hcl13 hcc13 hfr13 hM13
      go_wp2_with (first | ((with_reducible refine gate_store (t := 3) (p := 16) rfl ?_); refine store_event (t := 3) (p := 16) (v := ?vo_w14) (w1 := (wr.setCell ⟨go5, (x5_1 : Int).toNat * 5, none⟩ (.int .i64 x1_1))) ?hg ?ho ?hn ?hr ?_; (case ho => rfl); (case hg => rfl); (case hn => rfl); (case hr => first | (go_simp; done) | (go_simp; rfl)); intro w14 hw; have hg : wr.grownBy w14 (some go5) := (by rw [hw]; exact HP13.2); have hp_ : Kd.R k34 34 w14 w0.heap.size (fun k_ => (P0_ k_ ∨ w.heap.size ≤ k_)) (.slice (some ⟨go5, 0, none⟩) x0_1.length co12) y321 := (by rw [hw, Ny321.out]; exact HP13.1); clear HP13; have n0_ := Aside0.mk (hp_); have n1_ := Aside0.mk ((by rw [hw]; exact below_set (HB.out) GB5.out : Below w0.heap.size w0 w14)); have n2_ := Aside0.mk (Kept.of_grown (S := (fun k_ => P0_ k_)) hg (by repeat (first | (with_reducible first | exact HK.out | apply Kept.alloc | apply Kept.drewN | apply Kept.drew) | exact HK.out)) (fun k_ e_ => (HO_0.out.1 k_ e_))); clear HO_0; clear HB; clear HK; have HO_0 := n0_; have HB := n1_; have HK := n2_; clear n0_ n1_ n2_; clear hg hw hp_) | ((with_reducible refine gate_callee (f := 42) rfl ?_); refine goesL_ (some 22) rfl rfl Tryd.func42 (by kernel_rfl) rfl #[.int .i64 (wrap64 (x1_1 + 1))] rfl (by (try simp only [List.map_toArray, List.map_cons, List.map_nil]); first | done | rfl | (simp only [List.length_drop, List.length_take]; rfl)) ?_; (with_reducible refine (laws_markText.calls k1 (wrap64 (x1_1 + 1)) t322 _ A6.out).mono ?_); rintro e w15 ⟨rfl, hb⟩; refine ⟨_, rfl, ?_⟩; have n0_ := Aside0.mk (Kd.R_below (by (with_reducible repeat (first | apply Kd.R_alloc | apply Kd.R_drewN | apply Kd.R_drew)); exact HO_0.out) hb); have n1_ := Aside0.mk (Kept.below (S := (fun k_ => P0_ k_)) (by repeat (first | (with_reducible first | exact HK.out | apply Kept.alloc | apply Kept.drewN | apply Kept.drew) | exact HK.out)) hb); have n2_ := Aside0.mk (below_step (pl0 HB.out) hb); clear HO_0; clear HK; clear HB; have HO_0 := n0_; have HK := n1_; have HB := n2_; clear n0_ n1_ n2_; (try clear hb); (try clear hb2); (try clear hk); (try clear hi); have p7 : 0 ≤ (x5_1 : Int) := oda; have q7 : (x5_1 : Int) < ((x0_1.length : Int) : Int) := oda; obtain ⟨ce7, hcl7, hM7, hcc7, hfr7⟩ := Kd.R_elem HO_0.out z34 (x5_1 : Int) p7 q7; obtain rfl := k34_openM hM7; have hx7_0 : w15.cell? ⟨go5, (x5_1 : Int).toNat * 5, none⟩ = some (.int .i64 ((rd_T34 y321 x5_1).f0)) := hcc7 0 _ rfl; have hx7_1 : w15.cell? ⟨go5, (x5_1 : Int).toNat * 5 + 1, none⟩ = some (.string ((rd_T34 y321 x5_1).f1)) := hcc7 1 _ rfl; have hx7_2 : w15.cell? ⟨go5, (x5_1 : Int).toNat * 5 + 2, none⟩ = some (.string ((rd_T34 y321 x5_1).f2)) := hcc7 2 _ rfl; have hx7_3 : w15.cell? ⟨go5, (x5_1 : Int).toNat * 5 + 3, none⟩ = some (.int .i64 ((rd_T34 y321 x5_1).f3)) := hcc7 3 _ rfl; have hx7_4 : w15.cell? ⟨go5, (x5_1 : Int).toNat * 5 + 4, none⟩ = some (.int .i64 ((rd_T34 y321 x5_1).f4)) := hcc7 4 _ rfl; have hf7_0 : w15.frozen? ⟨go5, (x5_1 : Int).toNat * 5, none⟩ = false := hfr7 0; have hf7_1 : w15.frozen? ⟨go5, (x5_1 : Int).toNat * 5 + 1, none⟩ = false := hfr7 1; have hf7_2 : w15.frozen? ⟨go5, (x5_1 : Int).toNat * 5 + 2, none⟩ = false := hfr7 2; have hf7_3 : w15.frozen? ⟨go5, (x5_1 : Int).toNat * 5 + 3, none⟩ = false := hfr7 3; have hf7_4 : w15.frozen? ⟨go5, (x5_1 : Int).toNat * 5 + 4, none⟩ = false := hfr7 4; clear hcl7 hcc7 hfr7 hM7; replace p7 := eq_true p7; replace q7 := eq_true q7; have HX16 := Aside0.mk (show Kd.R k34 34 w15 w0.heap.size (fun k_ => (P0_ k_ ∨ w.heap.size ≤ k_)) (.slice (some ⟨go5, 0, none⟩) x0_1.length co12) y321 from (by (with_reducible repeat (first | apply Kd.R_alloc | apply Kd.R_drewN | apply Kd.R_drew)); exact HO_0.out)); obtain ⟨ce16, hcl16, hM16, hcc16, hfr16⟩ := Kd.R_elem HX16.out z34 (x5_1 : Int) (of_decide_eq_true (by first | (with_reducible assumption) | assumption)) (by have h_ : (x5_1 : Int) < ((x0_1.length : Int) : Int) := oda; first | exact h_ | (have e_ := (Kd.R_reads' HO_0.out).1; omega) | simpa using h_); obtain rfl := k34_openM hM16; have HP16 := Kd.R_seg HX16.out (x5_1 : Int) (of_decide_eq_true (by first | (with_reducible assumption) | assumption)) (by have h_ : (x5_1 : Int) < ((x0_1.length : Int) : Int) := oda; first | exact h_ | (have e_ := (Kd.R_reads' HO_0.out).1; omega) | simpa using h_) (seg := [.string t322]) (j := 1) hcl16 hcc16 (show 2 ≤ 5 from by decide) (x' := (⟨(rd_T34 y321 x5_1).f0, t322, (rd_T34 y321 x5_1).f2, (rd_T34 y321 x5_1).f3, (rd_T34 y321 x5_1).f4⟩ : S34)) (k34_mkM _ _ _ (⟨(rd_T34 y321 x5_1).f0, t322, (rd_T34 y321 x5_1).f2, (rd_T34 y321 x5_1).f3, (rd_T34 y321 x5_1).f4⟩ : S34) ) (fun _ hk => hk); have hx16_1 := hcc16 1 _ rfl; (try simp only [show (k34).sz = 5 from rfl, Nat.mul_one, Nat.add_zero] at hx16_1); have hf16_1 := hfr16 1; (try simp only [show (k34).sz = 5 from rfl, Nat.mul_one, Nat.add_zero] at hf16_1); clear hcl16 hcc16 hfr16 hM16) | ((with_reducible refine gate_store (t := 9) (p := 24) rfl ?_); refine store_event (t := 9) (p := 24) (v := ?vo_w17) (w1 := (w15.setCell ⟨go5, (x5_1 : Int).toNat * 5 + 1, none⟩ (.string t322))) ?hg ?ho ?hn ?hr ?_; (case ho => rfl); (case hg => rfl); (case hn => rfl); (case hr => first | (go_simp; done) | (go_simp; rfl)); intro w17 hw; have hg : w15.grownBy w17 (some go5) := (by rw [hw]; exact HP16.2); have hp_ : Kd.R k34 34 w17 w0.heap.size (fun k_ => (P0_ k_ ∨ w.heap.size ≤ k_)) (.slice (some ⟨go5, 0, none⟩) x0_1.length co12) y323 := (by rw [hw, Ny323.out]; exact HP16.1); clear HP16; have n0_ := Aside0.mk (hp_); have n1_ := Aside0.mk ((by rw [hw]; exact below_set (HB.out) GB5.out : Below w0.heap.size w0 w17)); have n2_ := Aside0.mk (Kept.of_grown (S := (fun k_ => P0_ k_)) hg (by repeat (first | (with_reducible first | exact HK.out | apply Kept.alloc | apply Kept.drewN | apply Kept.drew) | exact HK.out)) (fun k_ e_ => (HO_0.out.1 k_ e_))); clear HO_0; clear HB; clear HK; have HO_0 := n0_; have HB := n1_; have HK := n2_; clear n0_ n1_ n2_; clear hg hw hp_) | ((with_reducible refine gate_callee (f := 42) rfl ?_); refine goesL_ (some 30) rfl rfl Tryd.func42 (by kernel_rfl) rfl #[.int .i64 (wrap64 ((wrap64 (x1_1 + 1)) + 1))] rfl (by (try simp only [List.map_toArray, List.map_cons, List.map_nil]); first | done | rfl | (simp only [List.length_drop, List.length_take]; rfl)) ?_; (with_reducible refine (laws_markText.calls k1 (wrap64 ((wrap64 (x1_1 + 1)) + 1)) t324 _ A8.out).mono ?_); rintro e w18 ⟨rfl, hb⟩; refine ⟨_, rfl, ?_⟩; have n0_ := Aside0.mk (Kd.R_below (by (with_reducible repeat (first | apply Kd.R_alloc | apply Kd.R_drewN | apply Kd.R_drew)); exact HO_0.out) hb); have n1_ := Aside0.mk (Kept.below (S := (fun k_ => P0_ k_)) (by repeat (first | (with_reducible first | exact HK.out | apply Kept.alloc | apply Kept.drewN | apply Kept.drew) | exact HK.out)) hb); have n2_ := Aside0.mk (below_step (pl0 HB.out) hb); clear HO_0; clear HK; clear HB; have HO_0 := n0_; have HK := n1_; have HB := n2_; clear n0_ n1_ n2_; (try clear hb); (try clear hb2); (try clear hk); (try clear hi); have p9 : 0 ≤ (x5_1 : Int) := oda; have q9 : (x5_1 : Int) < ((x0_1.length : Int) : Int) := oda; obtain ⟨ce9, hcl9, hM9, hcc9, hfr9⟩ := Kd.R_elem HO_0.out z34 (x5_1 : Int) p9 q9; obtain rfl := k34_openM hM9; have hx9_0 : w18.cell? ⟨go5, (x5_1 : Int).toNat * 5, none⟩ = some (.int .i64 ((rd_T34 y323 x5_1).f0)) := hcc9 0 _ rfl; have hx9_1 : w18.cell? ⟨go5, (x5_1 : Int).toNat * 5 + 1, none⟩ = some (.string ((rd_T34 y323 x5_1).f1)) := hcc9 1 _ rfl; have hx9_2 : w18.cell? ⟨go5, (x5_1 : Int).toNat * 5 + 2, none⟩ = some (.string ((rd_T34 y323 x5_1).f2)) := hcc9 2 _ rfl; have hx9_3 : w18.cell? ⟨go5, (x5_1 : Int).toNat * 5 + 3, none⟩ = some (.int .i64 ((rd_T34 y323 x5_1).f3)) := hcc9 3 _ rfl; have hx9_4 : w18.cell? ⟨go5, (x5_1 : Int).toNat * 5 + 4, none⟩ = some (.int .i64 ((rd_T34 y323 x5_1).f4)) := hcc9 4 _ rfl; have hf9_0 : w18.frozen? ⟨go5, (x5_1 : Int).toNat * 5, none⟩ = false := hfr9 0; have hf9_1 : w18.frozen? ⟨go5, (x5_1 : Int).toNat * 5 + 1, none⟩ = false := hfr9 1; have hf9_2 : w18.frozen? ⟨go5, (x5_1 : Int).toNat * 5 + 2, none⟩ = false := hfr9 2; have hf9_3 : w18.frozen? ⟨go5, (x5_1 : Int).toNat * 5 + 3, none⟩ = false := hfr9 3; have hf9_4 : w18.frozen? ⟨go5, (x5_1 : Int).toNat * 5 + 4, none⟩ = false := hfr9 4; clear hcl9 hcc9 hfr9 hM9; replace p9 := eq_true p9; replace q9 := eq_true q9; have HX19 := Aside0.mk (show Kd.R k34 34 w18 w0.heap.size (fun k_ => (P0_ k_ ∨ w.heap.size ≤ k_)) (.slice (some ⟨go5, 0, none⟩) x0_1.length co12) y323 from (by (with_reducible repeat (first | apply Kd.R_alloc | apply Kd.R_drewN | apply Kd.R_drew)); exact HO_0.out)); obtain ⟨ce19, hcl19, hM19, hcc19, hfr19⟩ := Kd.R_elem HX19.out z34 (x5_1 : Int) (of_decide_eq_true (by first | (with_reducible assumption) | assumption)) (by have h_ : (x5_1 : Int) < ((x0_1.length : Int) : Int) := oda; first | exact h_ | (have e_ := (Kd.R_reads' HO_0.out).1; omega) | simpa using h_); obtain rfl := k34_openM hM19; have HP19 := Kd.R_seg HX19.out (x5_1 : Int) (of_decide_eq_true (by first | (with_reducible assumption) | assumption)) (by have h_ : (x5_1 : Int) < ((x0_1.length : Int) : Int) := oda; first | exact h_ | (have e_ := (Kd.R_reads' HO_0.out).1; omega) | simpa using h_) (seg := [.string t324]) (j := 2) hcl19 hcc19 (show 3 ≤ 5 from by decide) (x' := (⟨(rd_T34 y323 x5_1).f0, (rd_T34 y323 x5_1).f1, t324, (rd_T34 y323 x5_1).f3, (rd_T34 y323 x5_1).f4⟩ : S34)) (k34_mkM _ _ _ (⟨(rd_T34 y323 x5_1).f0, (rd_T34 y323 x5_1).f1, t324, (rd_T34 y323 x5_1).f3, (rd_T34 y323 x5_1).f4⟩ : S34) ) (fun _ hk => hk); have hx19_2 := hcc19 2 _ rfl; (try simp only [show (k34).sz = 5 from rfl, Nat.mul_one, Nat.add_zero] at hx19_2); have hf19_2 := hfr19 2; (try simp only [show (k34).sz = 5 from rfl, Nat.mul_one, Nat.add_zero] at hf19_2); clear hcl19 hcc19 hfr19 hM19) | ((with_reducible refine gate_store (t := 9) (p := 32) rfl ?_); refine store_event (t := 9) (p := 32) (v := ?vo_w20) (w1 := (w18.setCell ⟨go5, (x5_1 : Int).toNat * 5 + 2, none⟩ (.string t324))) ?hg ?ho ?hn ?hr ?_; (case ho => rfl); (case hg => rfl); (case hn => rfl); (case hr => first | (go_simp; done) | (go_simp; rfl)); intro w20 hw; have hg : w18.grownBy w20 (some go5) := (by rw [hw]; exact HP19.2); have hp_ : Kd.R k34 34 w20 w0.heap.size (fun k_ => (P0_ k_ ∨ w.heap.size ≤ k_)) (.slice (some ⟨go5, 0, none⟩) x0_1.length co12) y325 := (by rw [hw, Ny325.out]; exact HP19.1); clear HP19; have n0_ := Aside0.mk (hp_); have n1_ := Aside0.mk ((by rw [hw]; exact below_set (HB.out) GB5.out : Below w0.heap.size w0 w20)); have n2_ := Aside0.mk (Kept.of_grown (S := (fun k_ => P0_ k_)) hg (by repeat (first | (with_reducible first | exact HK.out | apply Kept.alloc | apply Kept.drewN | apply Kept.drew) | exact HK.out)) (fun k_ e_ => (HO_0.out.1 k_ e_))); clear HO_0; clear HB; clear HK; have HO_0 := n0_; have HB := n1_; have HK := n2_; clear n0_ n1_ n2_; clear hg hw hp_; have p10 : 0 ≤ (x5_1 : Int) := oda; have q10 : (x5_1 : Int) < ((x0_1.length : Int) : Int) := oda; obtain ⟨ce10, hcl10, hM10, hcc10, hfr10⟩ := Kd.R_elem HO_0.out z34 (x5_1 : Int) p10 q10; obtain rfl := k34_openM hM10; have hx10_0 : w20.cell? ⟨go5, (x5_1 : Int).toNat * 5, none⟩ = some (.int .i64 ((rd_T34 y325 x5_1).f0)) := hcc10 0 _ rfl; have hx10_1 : w20.cell? ⟨go5, (x5_1 : Int).toNat * 5 + 1, none⟩ = some (.string ((rd_T34 y325 x5_1).f1)) := hcc10 1 _ rfl; have hx10_2 : w20.cell? ⟨go5, (x5_1 : Int).toNat * 5 + 2, none⟩ = some (.string ((rd_T34 y325 x5_1).f2)) := hcc10 2 _ rfl; have hx10_3 : w20.cell? ⟨go5, (x5_1 : Int).toNat * 5 + 3, none⟩ = some (.int .i64 ((rd_T34 y325 x5_1).f3)) := hcc10 3 _ rfl; have hx10_4 : w20.cell? ⟨go5, (x5_1 : Int).toNat * 5 + 4, none⟩ = some (.int .i64 ((rd_T34 y325 x5_1).f4)) := hcc10 4 _ rfl; have hf10_0 : w20.frozen? ⟨go5, (x5_1 : Int).toNat * 5, none⟩ = false := hfr10 0; have hf10_1 : w20.frozen? ⟨go5, (x5_1 : Int).toNat * 5 + 1, none⟩ = false := hfr10 1; have hf10_2 : w20.frozen? ⟨go5, (x5_1 : Int).toNat * 5 + 2, none⟩ = false := hfr10 2; have hf10_3 : w20.frozen? ⟨go5, (x5_1 : Int).toNat * 5 + 3, none⟩ = false := hfr10 3; have hf10_4 : w20.frozen? ⟨go5, (x5_1 : Int).toNat * 5 + 4, none⟩ = false := hfr10 4; clear hcl10 hcc10 hfr10 hM10; replace p10 := eq_true p10; replace q10 := eq_true q10; have HX21 := Aside0.mk (show Kd.R k34 34 w20 w0.heap.size (fun k_ => (P0_ k_ ∨ w.heap.size ≤ k_)) (.slice (some ⟨go5, 0, none⟩) x0_1.length co12) y325 from (by (with_reducible repeat (first | apply Kd.R_alloc | apply Kd.R_drewN | apply Kd.R_drew)); exact HO_0.out)); obtain ⟨ce21, hcl21, hM21, hcc21, hfr21⟩ := Kd.R_elem HX21.out z34 (x5_1 : Int) (of_decide_eq_true (by first | (with_reducible assumption) | assumption)) (by have h_ : (x5_1 : Int) < ((x0_1.length : Int) : Int) := oda; first | exact h_ | (have e_ := (Kd.R_reads' HO_0.out).1; omega) | simpa using h_); obtain rfl := k34_openM hM21; have HP21 := Kd.R_seg HX21.out (x5_1 : Int) (of_decide_eq_true (by first | (with_reducible assumption) | assumption)) (by have h_ : (x5_1 : Int) < ((x0_1.length : Int) : Int) := oda; first | exact h_ | (have e_ := (Kd.R_reads' HO_0.out).1; omega) | simpa using h_) (seg := [.int .i64 (wrap64 ((wrap64 ((wrap64 (x1_1 + 1)) + 1)) + 1))]) (j := 3) hcl21 hcc21 (show 4 ≤ 5 from by decide) (x' := (⟨(rd_T34 y325 x5_1).f0, (rd_T34 y325 x5_1).f1, (rd_T34 y325 x5_1).f2, wrap64 ((wrap64 ((wrap64 (x1_1 + 1)) + 1)) + 1), (rd_T34 y325 x5_1).f4⟩ : S34)) (k34_mkM _ _ _ (⟨(rd_T34 y325 x5_1).f0, (rd_T34 y325 x5_1).f1, (rd_T34 y325 x5_1).f2, wrap64 ((wrap64 ((wrap64 (x1_1 + 1)) + 1)) + 1), (rd_T34 y325 x5_1).f4⟩ : S34) ) (fun _ hk => hk); have hx21_3 := hcc21 3 _ rfl; (try simp only [show (k34).sz = 5 from rfl, Nat.mul_one, Nat.add_zero] at hx21_3); have hf21_3 := hfr21 3; (try simp only [show (k34).sz = 5 from rfl, Nat.mul_one, Nat.add_zero] at hf21_3); clear hcl21 hcc21 hfr21 hM21) | ((with_reducible refine gate_store (t := 3) (p := 39) rfl ?_); refine store_event (t := 3) (p := 39) (v := ?vo_w22) (w1 := (w20.setCell ⟨go5, (x5_1 : Int).toNat * 5 + 3, none⟩ (.int .i64 (wrap64 ((wrap64 ((wrap64 (x1_1 + 1)) + 1)) + 1))))) ?hg ?ho ?hn ?hr ?_; (case ho => rfl); (case hg => rfl); (case hn => rfl); (case hr => first | (go_simp; done) | (go_simp; rfl)); intro w22 hw; have hg : w20.grownBy w22 (some go5) := (by rw [hw]; exact HP21.2); have hp_ : Kd.R k34 34 w22 w0.heap.size (fun k_ => (P0_ k_ ∨ w.heap.size ≤ k_)) (.slice (some ⟨go5, 0, none⟩) x0_1.length co12) y326 := (by rw [hw, Ny326.out]; exact HP21.1); clear HP21; have n0_ := Aside0.mk (hp_); have n1_ := Aside0.mk ((by rw [hw]; exact below_set (HB.out) GB5.out : Below w0.heap.size w0 w22)); have n2_ := Aside0.mk (Kept.of_grown (S := (fun k_ => P0_ k_)) hg (by repeat (first | (with_reducible first | exact HK.out | apply Kept.alloc | apply Kept.drewN | apply Kept.drew) | exact HK.out)) (fun k_ e_ => (HO_0.out.1 k_ e_))); clear HO_0; clear HB; clear HK; have HO_0 := n0_; have HB := n1_; have HK := n2_; clear n0_ n1_ n2_; clear hg hw hp_; have p11 : 0 ≤ (x5_1 : Int) := oda; have q11 : (x5_1 : Int) < ((x0_1.length : Int) : Int) := oda; obtain ⟨ce11, hcl11, hM11, hcc11, hfr11⟩ := Kd.R_elem HO_0.out z34 (x5_1 : Int) p11 q11; obtain rfl := k34_openM hM11; have hx11_0 : w22.cell? ⟨go5, (x5_1 : Int).toNat * 5, none⟩ = some (.int .i64 ((rd_T34 y326 x5_1).f0)) := hcc11 0 _ rfl; have hx11_1 : w22.cell? ⟨go5, (x5_1 : Int).toNat * 5 + 1, none⟩ = some (.string ((rd_T34 y326 x5_1).f1)) := hcc11 1 _ rfl; have hx11_2 : w22.cell? ⟨go5, (x5_1 : Int).toNat * 5 + 2, none⟩ = some (.string ((rd_T34 y326 x5_1).f2)) := hcc11 2 _ rfl; have hx11_3 : w22.cell? ⟨go5, (x5_1 : Int).toNat * 5 + 3, none⟩ = some (.int .i64 ((rd_T34 y326 x5_1).f3)) := hcc11 3 _ rfl; have hx11_4 : w22.cell? ⟨go5, (x5_1 : Int).toNat * 5 + 4, none⟩ = some (.int .i64 ((rd_T34 y326 x5_1).f4)) := hcc11 4 _ rfl; have hf11_0 : w22.frozen? ⟨go5, (x5_1 : Int).toNat * 5, none⟩ = false := hfr11 0; have hf11_1 : w22.frozen? ⟨go5, (x5_1 : Int).toNat * 5 + 1, none⟩ = false := hfr11 1; have hf11_2 : w22.frozen? ⟨go5, (x5_1 : Int).toNat * 5 + 2, none⟩ = false := hfr11 2; have hf11_3 : w22.frozen? ⟨go5, (x5_1 : Int).toNat * 5 + 3, none⟩ = false := hfr11 3; have hf11_4 : w22.frozen? ⟨go5, (x5_1 : Int).toNat * 5 + 4, none⟩ = false := hfr11 4; clear hcl11 hcc11 hfr11 hM11; replace p11 := eq_true p11; replace q11 := eq_true q11; have HX23 := Aside0.mk (show Kd.R k34 34 w22 w0.heap.size (fun k_ => (P0_ k_ ∨ w.heap.size ≤ k_)) (.slice (some ⟨go5, 0, none⟩) x0_1.length co12) y326 from (by (with_reducible repeat (first | apply Kd.R_alloc | apply Kd.R_drewN | apply Kd.R_drew)); exact HO_0.out)); obtain ⟨ce23, hcl23, hM23, hcc23, hfr23⟩ := Kd.R_elem HX23.out z34 (x5_1 : Int) (of_decide_eq_true (by first | (with_reducible assumption) | assumption)) (by have h_ : (x5_1 : Int) < ((x0_1.length : Int) : Int) := oda; first | exact h_ | (have e_ := (Kd.R_reads' HO_0.out).1; omega) | simpa using h_); obtain rfl := k34_openM hM23; have HP23 := Kd.R_seg HX23.out (x5_1 : Int) (of_decide_eq_true (by first | (with_reducible assumption) | assumption)) (by have h_ : (x5_1 : Int) < ((x0_1.length : Int) : Int) := oda; first | exact h_ | (have e_ := (Kd.R_reads' HO_0.out).1; omega) | simpa using h_) (seg := [.int .i64 (wrap64 ((wrap64 ((wrap64 ((wrap64 (x1_1 + 1)) + 1)) + 1)) + 1))]) (j := 4) hcl23 hcc23 (show 5 ≤ 5 from by decide) (x' := (⟨(rd_T34 y326 x5_1).f0, (rd_T34 y326 x5_1).f1, (rd_T34 y326 x5_1).f2, (rd_T34 y326 x5_1).f3, wrap64 ((wrap64 ((wrap64 ((wrap64 (x1_1 + 1)) + 1)) + 1)) + 1)⟩ : S34)) (k34_mkM _ _ _ (⟨(rd_T34 y326 x5_1).f0, (rd_T34 y326 x5_1).f1, (rd_T34 y326 x5_1).f2, (rd_T34 y326 x5_1).f3, wrap64 ((wrap64 ((wrap64 ((wrap64 (x1_1 + 1)) + 1)) + 1)) + 1)⟩ : S34) ) (fun _ hk => hk); have hx23_4 := hcc23 4 _ rfl; (try simp only [show (k34).sz = 5 from rfl, Nat.mul_one, Nat.add_zero] at hx23_4); have hf23_4 := hfr23 4; (try simp only [show (k34).sz = 5 from rfl, Nat.mul_one, Nat.add_zero] at hf23_4); clear hcl23 hcc23 hfr23 hM23) | ((with_reducible refine gate_store (t := 3) (p := 46) rfl ?_); refine store_event (t := 3) (p := 46) (v := ?vo_w24) (w1 := (w22.setCell ⟨go5, (x5_1 : Int).toNat * 5 + 4, none⟩ (.int .i64 (wrap64 ((wrap64 ((wrap64 ((wrap64 (x1_1 + 1)) + 1)) + 1)) + 1))))) ?hg ?ho ?hn ?hr ?_; (case ho => rfl); (case hg => rfl); (case hn => rfl); (case hr => first | (go_simp; done) | (go_simp; rfl)); intro w24 hw; have hg : w22.grownBy w24 (some go5) := (by rw [hw]; exact HP23.2); have hp_ : Kd.R k34 34 w24 w0.heap.size (fun k_ => (P0_ k_ ∨ w.heap.size ≤ k_)) (.slice (some ⟨go5, 0, none⟩) x0_1.length co12) y327 := (by rw [hw, Ny327.out]; exact HP23.1); clear HP23; have n0_ := Aside0.mk (hp_); have n1_ := Aside0.mk ((by rw [hw]; exact below_set (HB.out) GB5.out : Below w0.heap.size w0 w24)); have n2_ := Aside0.mk (Kept.of_grown (S := (fun k_ => P0_ k_)) hg (by repeat (first | (with_reducible first | exact HK.out | apply Kept.alloc | apply Kept.drewN | apply Kept.drew) | exact HK.out)) (fun k_ e_ => (HO_0.out.1 k_ e_))); clear HO_0; clear HB; clear HK; have HO_0 := n0_; have HB := n1_; have HK := n2_; clear n0_ n1_ n2_; clear hg hw hp_))
      go_roundg k1
      case measure => have := HK1.out; omega
      case rel => exact ⟨(y327), (wrap64 ((wrap64 ((wrap64 ((wrap64 ((wrap64 (x1_1 + 1)) + 1)) + 1)) + 1)) + 1)), (wrap64 (x5_1 + 1)), eqa, eqa, H', ⟨by have := HK1.out; omega⟩, ⟨by (with_reducible repeat (first | apply Kd.R_alloc | apply Kd.R_drewN | apply Kd.R_drew)); exact HO_0.out⟩, ⟨by repeat (first | (with_reducible first | exact HK.out | apply Kept.alloc | apply Kept.drewN | apply Kept.drew) | exact HK.out)⟩, ⟨pl0 HB.out⟩⟩
     ·rw [if_neg c4] at H
      exact absurd H (by simp)
    ·rw [if_neg c3] at H
     have c3b0 : decide (x5_1 < (x0_1.length : Int)) = false := decide_eq_false c3
     clear c3
     simp only [Option.some.injEq, Prod.mk.injEq] at H
     obtain ⟨rfl, rfl⟩ := H
     obtain ⟨Ao25, co25, eo25⟩ := Kd.R_slice HO_0.out
     subst eo25
     go_wp2
     go_ret
     exact ⟨erq, by (with_reducible repeat (first | apply Kd.R_alloc | apply Kd.R_drewN | apply Kd.R_drew)); exact HO_0.out, by repeat (first | (with_reducible first | exact HB.out | apply below_alloc | apply pw_below_drewN | apply below_drew1) | exact HB.out), by repeat (first | (with_reducible first | exact HK.out | apply Kept.alloc | apply Kept.drewN | apply Kept.drew) | exact HK.out)⟩
def laws_heldEditS.l0 : Nat → List (S34) → Int → Int → Option (Int)
  | 0, _, _, _ => none
  | k + 1, x0, x1, x5 => if x5 < (x0.length : Int) then (if 0 ≤ x5 then (if ((rd_T34 x0 x5).f0) = x1 then ((laws_markText.f k (wrap64 (x1 + 1))).bind fun t330 => (if ((rd_T34 x0 x5).f1).toList = t330.toList then ((laws_markText.f k (wrap64 ((wrap64 (x1 + 1)) + 1))).bind fun t332 => (if ((rd_T34 x0 x5).f2).toList = t332.toList then (if ((rd_T34 x0 x5).f3) = (wrap64 ((wrap64 ((wrap64 (x1 + 1)) + 1)) + 1)) then (if ((rd_T34 x0 x5).f4) = (wrap64 ((wrap64 ((wrap64 ((wrap64 (x1 + 1)) + 1)) + 1)) + 1)) then (laws_heldEditS.l0 k x0 (wrap64 ((wrap64 ((wrap64 ((wrap64 ((wrap64 (x1 + 1)) + 1)) + 1)) + 1)) + 1)) (wrap64 (x5 + 1))) else (some (-1))) else (some (-1))) else (some (-1)))) else (some (-1)))) else (some (-1))) else (none)) else (some x1)
def laws_heldEditS.f (k : Nat) (l0 : List (S34)) (a1 : Int) : Option (Int) := laws_heldEditS.l0 k l0 a1 0
def laws_heldEditS.T7 : Bool × List (List Nat × List Nat) := (true, [([], []), ([], []), ([0, 1], [0, 1]), ([2], [2]), ([3], [3]), ([], []), ([5], [5]), ([4, 6], [4, 6])])
def laws_heldEditS.B7 : List Nat := [0, 0, 3, 7, 15, 0, 32, 127]
theorem laws_heldEditS.tab7 : rtab .any (opsOf Tryd.f35 7) = laws_heldEditS.T7 := by kernel_rfl
theorem laws_heldEditS.bits7 : waitsOk laws_heldEditS.T7.2 laws_heldEditS.B7 = true := by kernel_rfl
def laws_heldEditS.T10 : Bool × List (List Nat × List Nat) := (true, [([], []), ([], []), ([0, 1], [0, 1]), ([2], [2]), ([3], [3]), ([], []), ([5], [5]), ([4, 6], [4, 6])])
def laws_heldEditS.B10 : List Nat := [0, 0, 3, 7, 15, 0, 32, 127]
theorem laws_heldEditS.tab10 : rtab .any (opsOf Tryd.f35 10) = laws_heldEditS.T10 := by kernel_rfl
theorem laws_heldEditS.bits10 : waitsOk laws_heldEditS.T10.2 laws_heldEditS.B10 = true := by kernel_rfl
set_option maxHeartbeats 8000000 in
set_option maxRecDepth 100000 in
theorem laws_heldEditS.calls (k : Nat) (A0 : Option Addr) (c0 : Nat) (l0 : List (S34)) (a1 : Int) (r : Int) (w : World) (hr0 : Kd.C k34 w A0 l0.length l0) (hc0 : l0.length ≤ c0) (h : laws_heldEditS.f k l0 a1 = some r) :
    Calls Tryd.prog 35 #[.slice A0 l0.length c0, .int .i64 a1] w fun e w' => e = .returned (.int .i64 r) ∧ Below w.heap.size w w' := by
  have HR0 := Aside0.mk hr0
  have HC0 := Aside0.mk hc0
  clear hr0 hc0
  have HB := Aside0.mk (Below.refl w.heap.size w)
  have H : (laws_heldEditS.l0 k l0 a1 0) = some r := h
  clear h
  have H' := Aside0.mk H
  clear H
  go_enter Tryd.func35, Tryd.ntmps35
  go_wp2
  go_loopg [1, 5] k (fun kq v1 v5 w' => ∃ (x1_1 : Int) (x5_1 : Int), v1 = .int .i64 x1_1 ∧ v5 = .int .i64 x5_1 ∧ Aside0 (laws_heldEditS.l0 kq l0 x1_1 x5_1 = some r) ∧ Aside0 (kq ≤ k) ∧ Aside0 (Below w.heap.size w w'))
  case atStart => exact ⟨(a1), (0), eqa, eqa, H', ⟨Nat.le_refl _⟩, ⟨pl0 HB.out⟩⟩
  case round =>
   clear H'
   obtain ⟨x1_1, x5_1, rfl, rfl, HA, HK1, HB⟩ := hrel
   cases gk with
   | zero => exact absurd HA.out (by simp [laws_heldEditS.l0])
   | succ k1 =>
    have H := HA.out
    clear HA
    simp only [laws_heldEditS.l0] at H
    by_cases c3 : x5_1 < (l0.length : Int)
    ·rw [if_pos c3] at H
     have c3b0 : decide (x5_1 < (l0.length : Int)) = true := decide_eq_true c3
     clear c3
     by_cases c4 : 0 ≤ x5_1
     ·rw [if_pos c4] at H
      have c4b0 : decide (0 ≤ x5_1) = true := decide_eq_true c4
      clear c4
      by_cases c5 : ((rd_T34 l0 x5_1).f0) = x1_1
      ·rw [if_pos c5] at H
       have c5b0 : (((rd_T34 l0 x5_1).f0) == x1_1) = true := beq_iff_eq.mpr c5
       have c5b1 : (((rd_T34 l0 x5_1).f0) != x1_1) = false := bne_eq_false_iff_eq.mpr c5
       clear c5
       replace H := Option.bind_eq_some_iff.mp H
       obtain ⟨t330, A60, H⟩ := H
       replace H : (if ((rd_T34 l0 x5_1).f1).toList = t330.toList then ((laws_markText.f k1 (wrap64 ((wrap64 (x1_1 + 1)) + 1))).bind fun t332 => (if ((rd_T34 l0 x5_1).f2).toList = t332.toList then (if ((rd_T34 l0 x5_1).f3) = (wrap64 ((wrap64 ((wrap64 (x1_1 + 1)) + 1)) + 1)) then (if ((rd_T34 l0 x5_1).f4) = (wrap64 ((wrap64 ((wrap64 ((wrap64 (x1_1 + 1)) + 1)) + 1)) + 1)) then (laws_heldEditS.l0 k1 l0 (wrap64 ((wrap64 ((wrap64 ((wrap64 ((wrap64 (x1_1 + 1)) + 1)) + 1)) + 1)) + 1)) (wrap64 (x5_1 + 1))) else (some (-1))) else (some (-1))) else (some (-1)))) else (some (-1))) = some r := H
       have A6 := Aside0.mk A60
       clear A60
       by_cases c7 : ((rd_T34 l0 x5_1).f1).toList = t330.toList
       ·rw [if_pos c7] at H
        have c7b0 : (((rd_T34 l0 x5_1).f1).toList == t330.toList) = true := beq_iff_eq.mpr c7
        have c7b1 : (((rd_T34 l0 x5_1).f1).toList != t330.toList) = false := bne_eq_false_iff_eq.mpr c7
        clear c7
        replace H := Option.bind_eq_some_iff.mp H
        obtain ⟨t332, A80, H⟩ := H
        replace H : (if ((rd_T34 l0 x5_1).f2).toList = t332.toList then (if ((rd_T34 l0 x5_1).f3) = (wrap64 ((wrap64 ((wrap64 (x1_1 + 1)) + 1)) + 1)) then (if ((rd_T34 l0 x5_1).f4) = (wrap64 ((wrap64 ((wrap64 ((wrap64 (x1_1 + 1)) + 1)) + 1)) + 1)) then (laws_heldEditS.l0 k1 l0 (wrap64 ((wrap64 ((wrap64 ((wrap64 ((wrap64 (x1_1 + 1)) + 1)) + 1)) + 1)) + 1)) (wrap64 (x5_1 + 1))) else (some (-1))) else (some (-1))) else (some (-1))) = some r := H
        have A8 := Aside0.mk A80
        clear A80
        by_cases c9 : ((rd_T34 l0 x5_1).f2).toList = t332.toList
        ·rw [if_pos c9] at H
         have c9b0 : (((rd_T34 l0 x5_1).f2).toList == t332.toList) = true := beq_iff_eq.mpr c9
         have c9b1 : (((rd_T34 l0 x5_1).f2).toList != t332.toList) = false := bne_eq_false_iff_eq.mpr c9
         clear c9
         by_cases c10 : ((rd_T34 l0 x5_1).f3) = (wrap64 ((wrap64 ((wrap64 (x1_1 + 1)) + 1)) + 1))
         ·rw [if_pos c10] at H
          have c10b0 : (((rd_T34 l0 x5_1).f3) == (wrap64 ((wrap64 ((wrap64 (x1_1 + 1)) + 1)) + 1))) = true := beq_iff_eq.mpr c10
          have c10b1 : (((rd_T34 l0 x5_1).f3) != (wrap64 ((wrap64 ((wrap64 (x1_1 + 1)) + 1)) + 1))) = false := bne_eq_false_iff_eq.mpr c10
          clear c10
          by_cases c11 : ((rd_T34 l0 x5_1).f4) = (wrap64 ((wrap64 ((wrap64 ((wrap64 (x1_1 + 1)) + 1)) + 1)) + 1))
          ·rw [if_pos c11] at H
           have c11b0 : (((rd_T34 l0 x5_1).f4) == (wrap64 ((wrap64 ((wrap64 ((wrap64 (x1_1 + 1)) + 1)) + 1)) + 1))) = true := beq_iff_eq.mpr c11
           have c11b1 : (((rd_T34 l0 x5_1).f4) != (wrap64 ((wrap64 ((wrap64 ((wrap64 (x1_1 + 1)) + 1)) + 1)) + 1))) = false := bne_eq_false_iff_eq.mpr c11
           clear c11
           have H' := Aside0.mk H
           clear H
           have p328 : 0 ≤ (x5_1 : Int) := oda
           have q328 : x5_1 < (l0.length : Int) := oda
           obtain ⟨ad328, e328, hx328_0, hx328_1, hx328_2, hx328_3, hx328_4⟩ := at_T34 HR0.out x5_1 p328 q328
           cases e328
           replace hx328_0 := hbc HB.out hx328_0
           replace hx328_1 := hbc HB.out hx328_1
           replace hx328_2 := hbc HB.out hx328_2
           replace hx328_3 := hbc HB.out hx328_3
           replace hx328_4 := hbc HB.out hx328_4
           replace p328 := eq_true p328
           replace q328 := eq_true q328
           try go_wp2
           have n0_ := Aside0.mk (below_drew1 HB.out)
           clear HB
           have HB := n0_
           clear n0_
           have p329 : 0 ≤ (x5_1 : Int) := oda
           have q329 : x5_1 < (l0.length : Int) := oda
           obtain ⟨ad329, e329, hx329_0, hx329_1, hx329_2, hx329_3, hx329_4⟩ := at_T34 HR0.out x5_1 p329 q329
           have hw329_4 := hx329_4
           have hw329_3 := hx329_3
           have hw329_2 := hx329_2
           have hw329_1 := hx329_1
           have hw329_0 := hx329_0
           obtain rfl : ad328 = ad329 := (by injection e329)
           replace hx329_0 := hbc HB.out hx329_0
           replace hx329_1 := hbc HB.out hx329_1
           replace hx329_2 := hbc HB.out hx329_2
           replace hx329_3 := hbc HB.out hx329_3
           replace hx329_4 := hbc HB.out hx329_4
           replace p329 := eq_true p329
           replace q329 := eq_true q329
           refine start_ (n := 8) (S := fun w' => w'.cell? (ad328.add ((x5_1).toNat * 5)) = some (.int .i64 ((rd_T34 l0 x5_1).f0)) ∧ w'.cell? ⟨(ad328.add ((x5_1).toNat * 5)).block, (ad328.add ((x5_1).toNat * 5)).off + 1, none⟩ = some (.string ((rd_T34 l0 x5_1).f1)) ∧ w'.cell? ⟨(ad328.add ((x5_1).toNat * 5)).block, (ad328.add ((x5_1).toNat * 5)).off + 2, none⟩ = some (.string ((rd_T34 l0 x5_1).f2)) ∧ w'.cell? ⟨(ad328.add ((x5_1).toNat * 5)).block, (ad328.add ((x5_1).toNat * 5)).off + 3, none⟩ = some (.int .i64 ((rd_T34 l0 x5_1).f3)) ∧ w'.cell? ⟨(ad328.add ((x5_1).toNat * 5)).block, (ad328.add ((x5_1).toNat * 5)).off + 4, none⟩ = some (.int .i64 ((rd_T34 l0 x5_1).f4))) (ds := []) #[O,O,O,O,O,O,O,O] (by kernel_rfl) rfl rfl ⟨((HB.out.cell (World.block_lt_of_cell? w _ hw329_0)).trans hw329_0), ((HB.out.cell (World.block_lt_of_cell? w _ hw329_1)).trans hw329_1), ((HB.out.cell (World.block_lt_of_cell? w _ hw329_2)).trans hw329_2), ((HB.out.cell (World.block_lt_of_cell? w _ hw329_3)).trans hw329_3), ((HB.out.cell (World.block_lt_of_cell? w _ hw329_4)).trans hw329_4)⟩ (fun hHeld => ?_); refine with_tabW laws_heldEditS.tab7 laws_heldEditS.bits7 (fun HT_ HW_ => ?_)
           generalize wr.drew = w12 at HB hx329_0 hx329_1 hx329_2 hx329_3 hx329_4 hHeld ⊢
           refine pz 0 21 #[Y,O,O,O,O,O,O,O] HT_ ?_
           refine pz 1 22 #[Y,Y,O,O,O,O,O,O] HT_ ?_
           refine pz 2 23 #[Y,Y,Y,O,O,O,O,O] HT_ ?_
           refine pz 3 24 #[Y,Y,Y,Y,O,O,O,O] HT_ ?_
           refine pure_ (i := 5) (N := some 26) (v := ?_) (a' := ?_) #[Y,Y,Y,Y,O,Y,O,O] rfl rfl (any_of HT_.out (by kernel_rfl)) (fun _ _ _ h => h) (Or.inl ⟨by rfl, ?_⟩) ?_ ?_
           rotate_left
           ·intro w'
            go_simp
            with_reducible rfl
           rotate_left
           ·simp only [Act.put, List.setIfInBounds_toArray, List.set_cons_zero, List.set_cons_succ, i64_w, i32_w]
            rfl
           refine take_ (i := 4) (N := some 25) (v := ?_) (a' := ?_) #[Y,Y,Y,Y,Y,Y,O,O] rfl rfl (take_ofW HT_.out HW_.out (by kernel_rfl)) (fun _ _ _ h => h) (Or.inl ⟨by rfl, ?_⟩) hHeld ?_ ?_
           rotate_left
           ·rintro w' ⟨s0, s1, s2, s3, s4⟩
            go_simp
            with_reducible rfl
           rotate_left
           ·simp only [Act.put, List.setIfInBounds_toArray, List.set_cons_zero, List.set_cons_succ, i64_w, i32_w]
            rfl
           refine one_ (i := 6) (N := some 27) #[Y,Y,Y,Y,Y,Y,Y,O] rfl rfl (one_of HT_.out (by kernel_rfl)) (by decide) (fun K hK => ?_)
           refine goes_ Tryd.func42 (by kernel_rfl) rfl #[.int .i64 (wrap64 (x1_1 + 1))] (by rfl) rfl rfl (by (try simp only [List.map_toArray, List.map_cons, List.map_nil]); first | done | rfl | (simp only [List.length_drop, List.length_take]; rfl)) ?_
           with_reducible refine (laws_markText.calls k1 (wrap64 (x1_1 + 1)) t330 _ A6.out).mono ?_
           rintro e w13 ⟨rfl, hb⟩
           refine ⟨_, rfl, ?_⟩
           have n0_ := Aside0.mk (below_step (pl0 HB.out) hb)
           clear HB
           have HB := n0_
           clear n0_
           (try clear hb)
           (try clear hb2)
           (try clear hk)
           (try clear hi)
           refine hK.out _ _ ⟨((HB.out.cell (World.block_lt_of_cell? w _ hw329_0)).trans hw329_0), ((HB.out.cell (World.block_lt_of_cell? w _ hw329_1)).trans hw329_1), ((HB.out.cell (World.block_lt_of_cell? w _ hw329_2)).trans hw329_2), ((HB.out.cell (World.block_lt_of_cell? w _ hw329_3)).trans hw329_3), ((HB.out.cell (World.block_lt_of_cell? w _ hw329_4)).trans hw329_4)⟩ (fun hHeld => ?_)
           clear hK K
           refine norm_ (a' := ?_) ?_ ?_
           rotate_left
           ·show Act.put _ (some 27) _ = _
            simp only [Act.put, List.setIfInBounds_toArray, List.set_cons_zero, List.set_cons_succ, i64_w, i32_w]
            rfl
           refine pz 7 28 #[Y,Y,Y,Y,Y,Y,Y,Y] HT_ ?_
           refine done_ (done_of HT_.out (by kernel_rfl)) ?_
           try go_wp2
           have n0_ := Aside0.mk (below_drew1 HB.out)
           clear HB
           have HB := n0_
           clear n0_
           have p331 : 0 ≤ (x5_1 : Int) := oda
           have q331 : x5_1 < (l0.length : Int) := oda
           obtain ⟨ad331, e331, hx331_0, hx331_1, hx331_2, hx331_3, hx331_4⟩ := at_T34 HR0.out x5_1 p331 q331
           have hw331_4 := hx331_4
           have hw331_3 := hx331_3
           have hw331_2 := hx331_2
           have hw331_1 := hx331_1
           have hw331_0 := hx331_0
           obtain rfl : ad328 = ad331 := (by injection e331)
           replace hx331_0 := hbc HB.out hx331_0
           replace hx331_1 := hbc HB.out hx331_1
           replace hx331_2 := hbc HB.out hx331_2
           replace hx331_3 := hbc HB.out hx331_3
           replace hx331_4 := hbc HB.out hx331_4
           replace p331 := eq_true p331
           replace q331 := eq_true q331
           refine start_ (n := 8) (S := fun w' => w'.cell? (ad328.add ((x5_1).toNat * 5)) = some (.int .i64 ((rd_T34 l0 x5_1).f0)) ∧ w'.cell? ⟨(ad328.add ((x5_1).toNat * 5)).block, (ad328.add ((x5_1).toNat * 5)).off + 1, none⟩ = some (.string ((rd_T34 l0 x5_1).f1)) ∧ w'.cell? ⟨(ad328.add ((x5_1).toNat * 5)).block, (ad328.add ((x5_1).toNat * 5)).off + 2, none⟩ = some (.string ((rd_T34 l0 x5_1).f2)) ∧ w'.cell? ⟨(ad328.add ((x5_1).toNat * 5)).block, (ad328.add ((x5_1).toNat * 5)).off + 3, none⟩ = some (.int .i64 ((rd_T34 l0 x5_1).f3)) ∧ w'.cell? ⟨(ad328.add ((x5_1).toNat * 5)).block, (ad328.add ((x5_1).toNat * 5)).off + 4, none⟩ = some (.int .i64 ((rd_T34 l0 x5_1).f4))) (ds := []) #[O,O,O,O,O,O,O,O] (by kernel_rfl) rfl rfl ⟨((HB.out.cell (World.block_lt_of_cell? w _ hw331_0)).trans hw331_0), ((HB.out.cell (World.block_lt_of_cell? w _ hw331_1)).trans hw331_1), ((HB.out.cell (World.block_lt_of_cell? w _ hw331_2)).trans hw331_2), ((HB.out.cell (World.block_lt_of_cell? w _ hw331_3)).trans hw331_3), ((HB.out.cell (World.block_lt_of_cell? w _ hw331_4)).trans hw331_4)⟩ (fun hHeld => ?_); refine with_tabW laws_heldEditS.tab10 laws_heldEditS.bits10 (fun HT_ HW_ => ?_)
           generalize w13.drew = w14 at HB hx331_0 hx331_1 hx331_2 hx331_3 hx331_4 hHeld ⊢
           refine pz 0 31 #[Y,O,O,O,O,O,O,O] HT_ ?_
           refine pz 1 32 #[Y,Y,O,O,O,O,O,O] HT_ ?_
           refine pz 2 33 #[Y,Y,Y,O,O,O,O,O] HT_ ?_
           refine pz 3 34 #[Y,Y,Y,Y,O,O,O,O] HT_ ?_
           refine pure_ (i := 5) (N := some 36) (v := ?_) (a' := ?_) #[Y,Y,Y,Y,O,Y,O,O] rfl rfl (any_of HT_.out (by kernel_rfl)) (fun _ _ _ h => h) (Or.inl ⟨by rfl, ?_⟩) ?_ ?_
           rotate_left
           ·intro w'
            go_simp
            with_reducible rfl
           rotate_left
           ·simp only [Act.put, List.setIfInBounds_toArray, List.set_cons_zero, List.set_cons_succ, i64_w, i32_w]
            rfl
           refine take_ (i := 4) (N := some 35) (v := ?_) (a' := ?_) #[Y,Y,Y,Y,Y,Y,O,O] rfl rfl (take_ofW HT_.out HW_.out (by kernel_rfl)) (fun _ _ _ h => h) (Or.inl ⟨by rfl, ?_⟩) hHeld ?_ ?_
           rotate_left
           ·rintro w' ⟨s0, s1, s2, s3, s4⟩
            go_simp
            with_reducible rfl
           rotate_left
           ·simp only [Act.put, List.setIfInBounds_toArray, List.set_cons_zero, List.set_cons_succ, i64_w, i32_w]
            rfl
           refine one_ (i := 6) (N := some 37) #[Y,Y,Y,Y,Y,Y,Y,O] rfl rfl (one_of HT_.out (by kernel_rfl)) (by decide) (fun K hK => ?_)
           refine goes_ Tryd.func42 (by kernel_rfl) rfl #[.int .i64 (wrap64 ((wrap64 (x1_1 + 1)) + 1))] (by rfl) rfl rfl (by (try simp only [List.map_toArray, List.map_cons, List.map_nil]); first | done | rfl | (simp only [List.length_drop, List.length_take]; rfl)) ?_
           with_reducible refine (laws_markText.calls k1 (wrap64 ((wrap64 (x1_1 + 1)) + 1)) t332 _ A8.out).mono ?_
           rintro e w15 ⟨rfl, hb⟩
           refine ⟨_, rfl, ?_⟩
           have n0_ := Aside0.mk (below_step (pl0 HB.out) hb)
           clear HB
           have HB := n0_
           clear n0_
           (try clear hb)
           (try clear hb2)
           (try clear hk)
           (try clear hi)
           refine hK.out _ _ ⟨((HB.out.cell (World.block_lt_of_cell? w _ hw331_0)).trans hw331_0), ((HB.out.cell (World.block_lt_of_cell? w _ hw331_1)).trans hw331_1), ((HB.out.cell (World.block_lt_of_cell? w _ hw331_2)).trans hw331_2), ((HB.out.cell (World.block_lt_of_cell? w _ hw331_3)).trans hw331_3), ((HB.out.cell (World.block_lt_of_cell? w _ hw331_4)).trans hw331_4)⟩ (fun hHeld => ?_)
           clear hK K
           refine norm_ (a' := ?_) ?_ ?_
           rotate_left
           ·show Act.put _ (some 37) _ = _
            simp only [Act.put, List.setIfInBounds_toArray, List.set_cons_zero, List.set_cons_succ, i64_w, i32_w]
            rfl
           refine pz 7 38 #[Y,Y,Y,Y,Y,Y,Y,Y] HT_ ?_
           refine done_ (done_of HT_.out (by kernel_rfl)) ?_
           have p333 : 0 ≤ (x5_1 : Int) := oda
           have q333 : x5_1 < (l0.length : Int) := oda
           obtain ⟨ad333, e333, hx333_0, hx333_1, hx333_2, hx333_3, hx333_4⟩ := at_T34 HR0.out x5_1 p333 q333
           obtain rfl : ad328 = ad333 := (by injection e333)
           replace hx333_0 := hbc HB.out hx333_0
           replace hx333_1 := hbc HB.out hx333_1
           replace hx333_2 := hbc HB.out hx333_2
           replace hx333_3 := hbc HB.out hx333_3
           replace hx333_4 := hbc HB.out hx333_4
           replace p333 := eq_true p333
           replace q333 := eq_true q333
           have p334 : 0 ≤ (x5_1 : Int) := oda
           have q334 : x5_1 < (l0.length : Int) := oda
           obtain ⟨ad334, e334, hx334_0, hx334_1, hx334_2, hx334_3, hx334_4⟩ := at_T34 HR0.out x5_1 p334 q334
           obtain rfl : ad328 = ad334 := (by injection e334)
           replace hx334_0 := hbc HB.out hx334_0
           replace hx334_1 := hbc HB.out hx334_1
           replace hx334_2 := hbc HB.out hx334_2
           replace hx334_3 := hbc HB.out hx334_3
           replace hx334_4 := hbc HB.out hx334_4
           replace p334 := eq_true p334
           replace q334 := eq_true q334
           try go_wp2
           go_roundg k1
           case measure => have := HK1.out; omega
           case rel => exact ⟨(wrap64 ((wrap64 ((wrap64 ((wrap64 ((wrap64 (x1_1 + 1)) + 1)) + 1)) + 1)) + 1)), (wrap64 (x5_1 + 1)), eqa, eqa, H', ⟨by have := HK1.out; omega⟩, ⟨pl0 HB.out⟩⟩
          ·rw [if_neg c11] at H
           have c11b0 : (((rd_T34 l0 x5_1).f4) == (wrap64 ((wrap64 ((wrap64 ((wrap64 (x1_1 + 1)) + 1)) + 1)) + 1))) = false := beq_eq_false_iff_ne.mpr c11
           have c11b1 : (((rd_T34 l0 x5_1).f4) != (wrap64 ((wrap64 ((wrap64 ((wrap64 (x1_1 + 1)) + 1)) + 1)) + 1))) = true := bne_iff_ne.mpr c11
           obtain rfl := Option.some.inj H
           have p328 : 0 ≤ (x5_1 : Int) := oda
           have q328 : x5_1 < (l0.length : Int) := oda
           obtain ⟨ad328, e328, hx328_0, hx328_1, hx328_2, hx328_3, hx328_4⟩ := at_T34 HR0.out x5_1 p328 q328
           cases e328
           replace hx328_0 := hbc HB.out hx328_0
           replace hx328_1 := hbc HB.out hx328_1
           replace hx328_2 := hbc HB.out hx328_2
           replace hx328_3 := hbc HB.out hx328_3
           replace hx328_4 := hbc HB.out hx328_4
           replace p328 := eq_true p328
           replace q328 := eq_true q328
           try go_wp2
           have n0_ := Aside0.mk (below_drew1 HB.out)
           clear HB
           have HB := n0_
           clear n0_
           have p329 : 0 ≤ (x5_1 : Int) := oda
           have q329 : x5_1 < (l0.length : Int) := oda
           obtain ⟨ad329, e329, hx329_0, hx329_1, hx329_2, hx329_3, hx329_4⟩ := at_T34 HR0.out x5_1 p329 q329
           have hw329_4 := hx329_4
           have hw329_3 := hx329_3
           have hw329_2 := hx329_2
           have hw329_1 := hx329_1
           have hw329_0 := hx329_0
           obtain rfl : ad328 = ad329 := (by injection e329)
           replace hx329_0 := hbc HB.out hx329_0
           replace hx329_1 := hbc HB.out hx329_1
           replace hx329_2 := hbc HB.out hx329_2
           replace hx329_3 := hbc HB.out hx329_3
           replace hx329_4 := hbc HB.out hx329_4
           replace p329 := eq_true p329
           replace q329 := eq_true q329
           refine start_ (n := 8) (S := fun w' => w'.cell? (ad328.add ((x5_1).toNat * 5)) = some (.int .i64 ((rd_T34 l0 x5_1).f0)) ∧ w'.cell? ⟨(ad328.add ((x5_1).toNat * 5)).block, (ad328.add ((x5_1).toNat * 5)).off + 1, none⟩ = some (.string ((rd_T34 l0 x5_1).f1)) ∧ w'.cell? ⟨(ad328.add ((x5_1).toNat * 5)).block, (ad328.add ((x5_1).toNat * 5)).off + 2, none⟩ = some (.string ((rd_T34 l0 x5_1).f2)) ∧ w'.cell? ⟨(ad328.add ((x5_1).toNat * 5)).block, (ad328.add ((x5_1).toNat * 5)).off + 3, none⟩ = some (.int .i64 ((rd_T34 l0 x5_1).f3)) ∧ w'.cell? ⟨(ad328.add ((x5_1).toNat * 5)).block, (ad328.add ((x5_1).toNat * 5)).off + 4, none⟩ = some (.int .i64 ((rd_T34 l0 x5_1).f4))) (ds := []) #[O,O,O,O,O,O,O,O] (by kernel_rfl) rfl rfl ⟨((HB.out.cell (World.block_lt_of_cell? w _ hw329_0)).trans hw329_0), ((HB.out.cell (World.block_lt_of_cell? w _ hw329_1)).trans hw329_1), ((HB.out.cell (World.block_lt_of_cell? w _ hw329_2)).trans hw329_2), ((HB.out.cell (World.block_lt_of_cell? w _ hw329_3)).trans hw329_3), ((HB.out.cell (World.block_lt_of_cell? w _ hw329_4)).trans hw329_4)⟩ (fun hHeld => ?_); refine with_tabW laws_heldEditS.tab7 laws_heldEditS.bits7 (fun HT_ HW_ => ?_)
           generalize wr.drew = w16 at HB hx329_0 hx329_1 hx329_2 hx329_3 hx329_4 hHeld ⊢
           refine pz 0 21 #[Y,O,O,O,O,O,O,O] HT_ ?_
           refine pz 1 22 #[Y,Y,O,O,O,O,O,O] HT_ ?_
           refine pz 2 23 #[Y,Y,Y,O,O,O,O,O] HT_ ?_
           refine pz 3 24 #[Y,Y,Y,Y,O,O,O,O] HT_ ?_
           refine pure_ (i := 5) (N := some 26) (v := ?_) (a' := ?_) #[Y,Y,Y,Y,O,Y,O,O] rfl rfl (any_of HT_.out (by kernel_rfl)) (fun _ _ _ h => h) (Or.inl ⟨by rfl, ?_⟩) ?_ ?_
           rotate_left
           ·intro w'
            go_simp
            with_reducible rfl
           rotate_left
           ·simp only [Act.put, List.setIfInBounds_toArray, List.set_cons_zero, List.set_cons_succ, i64_w, i32_w]
            rfl
           refine take_ (i := 4) (N := some 25) (v := ?_) (a' := ?_) #[Y,Y,Y,Y,Y,Y,O,O] rfl rfl (take_ofW HT_.out HW_.out (by kernel_rfl)) (fun _ _ _ h => h) (Or.inl ⟨by rfl, ?_⟩) hHeld ?_ ?_
           rotate_left
           ·rintro w' ⟨s0, s1, s2, s3, s4⟩
            go_simp
            with_reducible rfl
           rotate_left
           ·simp only [Act.put, List.setIfInBounds_toArray, List.set_cons_zero, List.set_cons_succ, i64_w, i32_w]
            rfl
           refine one_ (i := 6) (N := some 27) #[Y,Y,Y,Y,Y,Y,Y,O] rfl rfl (one_of HT_.out (by kernel_rfl)) (by decide) (fun K hK => ?_)
           refine goes_ Tryd.func42 (by kernel_rfl) rfl #[.int .i64 (wrap64 (x1_1 + 1))] (by rfl) rfl rfl (by (try simp only [List.map_toArray, List.map_cons, List.map_nil]); first | done | rfl | (simp only [List.length_drop, List.length_take]; rfl)) ?_
           with_reducible refine (laws_markText.calls k1 (wrap64 (x1_1 + 1)) t330 _ A6.out).mono ?_
           rintro e w17 ⟨rfl, hb⟩
           refine ⟨_, rfl, ?_⟩
           have n0_ := Aside0.mk (below_step (pl0 HB.out) hb)
           clear HB
           have HB := n0_
           clear n0_
           (try clear hb)
           (try clear hb2)
           (try clear hk)
           (try clear hi)
           refine hK.out _ _ ⟨((HB.out.cell (World.block_lt_of_cell? w _ hw329_0)).trans hw329_0), ((HB.out.cell (World.block_lt_of_cell? w _ hw329_1)).trans hw329_1), ((HB.out.cell (World.block_lt_of_cell? w _ hw329_2)).trans hw329_2), ((HB.out.cell (World.block_lt_of_cell? w _ hw329_3)).trans hw329_3), ((HB.out.cell (World.block_lt_of_cell? w _ hw329_4)).trans hw329_4)⟩ (fun hHeld => ?_)
           clear hK K
           refine norm_ (a' := ?_) ?_ ?_
           rotate_left
           ·show Act.put _ (some 27) _ = _
            simp only [Act.put, List.setIfInBounds_toArray, List.set_cons_zero, List.set_cons_succ, i64_w, i32_w]
            rfl
           refine pz 7 28 #[Y,Y,Y,Y,Y,Y,Y,Y] HT_ ?_
           refine done_ (done_of HT_.out (by kernel_rfl)) ?_
           try go_wp2
           have n0_ := Aside0.mk (below_drew1 HB.out)
           clear HB
           have HB := n0_
           clear n0_
           have p331 : 0 ≤ (x5_1 : Int) := oda
           have q331 : x5_1 < (l0.length : Int) := oda
           obtain ⟨ad331, e331, hx331_0, hx331_1, hx331_2, hx331_3, hx331_4⟩ := at_T34 HR0.out x5_1 p331 q331
           have hw331_4 := hx331_4
           have hw331_3 := hx331_3
           have hw331_2 := hx331_2
           have hw331_1 := hx331_1
           have hw331_0 := hx331_0
           obtain rfl : ad328 = ad331 := (by injection e331)
           replace hx331_0 := hbc HB.out hx331_0
           replace hx331_1 := hbc HB.out hx331_1
           replace hx331_2 := hbc HB.out hx331_2
           replace hx331_3 := hbc HB.out hx331_3
           replace hx331_4 := hbc HB.out hx331_4
           replace p331 := eq_true p331
           replace q331 := eq_true q331
           refine start_ (n := 8) (S := fun w' => w'.cell? (ad328.add ((x5_1).toNat * 5)) = some (.int .i64 ((rd_T34 l0 x5_1).f0)) ∧ w'.cell? ⟨(ad328.add ((x5_1).toNat * 5)).block, (ad328.add ((x5_1).toNat * 5)).off + 1, none⟩ = some (.string ((rd_T34 l0 x5_1).f1)) ∧ w'.cell? ⟨(ad328.add ((x5_1).toNat * 5)).block, (ad328.add ((x5_1).toNat * 5)).off + 2, none⟩ = some (.string ((rd_T34 l0 x5_1).f2)) ∧ w'.cell? ⟨(ad328.add ((x5_1).toNat * 5)).block, (ad328.add ((x5_1).toNat * 5)).off + 3, none⟩ = some (.int .i64 ((rd_T34 l0 x5_1).f3)) ∧ w'.cell? ⟨(ad328.add ((x5_1).toNat * 5)).block, (ad328.add ((x5_1).toNat * 5)).off + 4, none⟩ = some (.int .i64 ((rd_T34 l0 x5_1).f4))) (ds := []) #[O,O,O,O,O,O,O,O] (by kernel_rfl) rfl rfl ⟨((HB.out.cell (World.block_lt_of_cell? w _ hw331_0)).trans hw331_0), ((HB.out.cell (World.block_lt_of_cell? w _ hw331_1)).trans hw331_1), ((HB.out.cell (World.block_lt_of_cell? w _ hw331_2)).trans hw331_2), ((HB.out.cell (World.block_lt_of_cell? w _ hw331_3)).trans hw331_3), ((HB.out.cell (World.block_lt_of_cell? w _ hw331_4)).trans hw331_4)⟩ (fun hHeld => ?_); refine with_tabW laws_heldEditS.tab10 laws_heldEditS.bits10 (fun HT_ HW_ => ?_)
           generalize w17.drew = w18 at HB hx331_0 hx331_1 hx331_2 hx331_3 hx331_4 hHeld ⊢
           refine pz 0 31 #[Y,O,O,O,O,O,O,O] HT_ ?_
           refine pz 1 32 #[Y,Y,O,O,O,O,O,O] HT_ ?_
           refine pz 2 33 #[Y,Y,Y,O,O,O,O,O] HT_ ?_
           refine pz 3 34 #[Y,Y,Y,Y,O,O,O,O] HT_ ?_
           refine pure_ (i := 5) (N := some 36) (v := ?_) (a' := ?_) #[Y,Y,Y,Y,O,Y,O,O] rfl rfl (any_of HT_.out (by kernel_rfl)) (fun _ _ _ h => h) (Or.inl ⟨by rfl, ?_⟩) ?_ ?_
           rotate_left
           ·intro w'
            go_simp
            with_reducible rfl
           rotate_left
           ·simp only [Act.put, List.setIfInBounds_toArray, List.set_cons_zero, List.set_cons_succ, i64_w, i32_w]
            rfl
           refine take_ (i := 4) (N := some 35) (v := ?_) (a' := ?_) #[Y,Y,Y,Y,Y,Y,O,O] rfl rfl (take_ofW HT_.out HW_.out (by kernel_rfl)) (fun _ _ _ h => h) (Or.inl ⟨by rfl, ?_⟩) hHeld ?_ ?_
           rotate_left
           ·rintro w' ⟨s0, s1, s2, s3, s4⟩
            go_simp
            with_reducible rfl
           rotate_left
           ·simp only [Act.put, List.setIfInBounds_toArray, List.set_cons_zero, List.set_cons_succ, i64_w, i32_w]
            rfl
           refine one_ (i := 6) (N := some 37) #[Y,Y,Y,Y,Y,Y,Y,O] rfl rfl (one_of HT_.out (by kernel_rfl)) (by decide) (fun K hK => ?_)
           refine goes_ Tryd.func42 (by kernel_rfl) rfl #[.int .i64 (wrap64 ((wrap64 (x1_1 + 1)) + 1))] (by rfl) rfl rfl (by (try simp only [List.map_toArray, List.map_cons, List.map_nil]); first | done | rfl | (simp only [List.length_drop, List.length_take]; rfl)) ?_
           with_reducible refine (laws_markText.calls k1 (wrap64 ((wrap64 (x1_1 + 1)) + 1)) t332 _ A8.out).mono ?_
           rintro e w19 ⟨rfl, hb⟩
           refine ⟨_, rfl, ?_⟩
           have n0_ := Aside0.mk (below_step (pl0 HB.out) hb)
           clear HB
           have HB := n0_
           clear n0_
           (try clear hb)
           (try clear hb2)
           (try clear hk)
           (try clear hi)
           refine hK.out _ _ ⟨((HB.out.cell (World.block_lt_of_cell? w _ hw331_0)).trans hw331_0), ((HB.out.cell (World.block_lt_of_cell? w _ hw331_1)).trans hw331_1), ((HB.out.cell (World.block_lt_of_cell? w _ hw331_2)).trans hw331_2), ((HB.out.cell (World.block_lt_of_cell? w _ hw331_3)).trans hw331_3), ((HB.out.cell (World.block_lt_of_cell? w _ hw331_4)).trans hw331_4)⟩ (fun hHeld => ?_)
           clear hK K
           refine norm_ (a' := ?_) ?_ ?_
           rotate_left
           ·show Act.put _ (some 37) _ = _
            simp only [Act.put, List.setIfInBounds_toArray, List.set_cons_zero, List.set_cons_succ, i64_w, i32_w]
            rfl
           refine pz 7 38 #[Y,Y,Y,Y,Y,Y,Y,Y] HT_ ?_
           refine done_ (done_of HT_.out (by kernel_rfl)) ?_
           have p333 : 0 ≤ (x5_1 : Int) := oda
           have q333 : x5_1 < (l0.length : Int) := oda
           obtain ⟨ad333, e333, hx333_0, hx333_1, hx333_2, hx333_3, hx333_4⟩ := at_T34 HR0.out x5_1 p333 q333
           obtain rfl : ad328 = ad333 := (by injection e333)
           replace hx333_0 := hbc HB.out hx333_0
           replace hx333_1 := hbc HB.out hx333_1
           replace hx333_2 := hbc HB.out hx333_2
           replace hx333_3 := hbc HB.out hx333_3
           replace hx333_4 := hbc HB.out hx333_4
           replace p333 := eq_true p333
           replace q333 := eq_true q333
           have p334 : 0 ≤ (x5_1 : Int) := oda
           have q334 : x5_1 < (l0.length : Int) := oda
           obtain ⟨ad334, e334, hx334_0, hx334_1, hx334_2, hx334_3, hx334_4⟩ := at_T34 HR0.out x5_1 p334 q334
           obtain rfl : ad328 = ad334 := (by injection e334)
           replace hx334_0 := hbc HB.out hx334_0
           replace hx334_1 := hbc HB.out hx334_1
           replace hx334_2 := hbc HB.out hx334_2
           replace hx334_3 := hbc HB.out hx334_3
           replace hx334_4 := hbc HB.out hx334_4
           replace p334 := eq_true p334
           replace q334 := eq_true q334
           try go_wp2
           go_ret
           exact ⟨erq, pl0 HB.out⟩
         ·rw [if_neg c10] at H
          have c10b0 : (((rd_T34 l0 x5_1).f3) == (wrap64 ((wrap64 ((wrap64 (x1_1 + 1)) + 1)) + 1))) = false := beq_eq_false_iff_ne.mpr c10
          have c10b1 : (((rd_T34 l0 x5_1).f3) != (wrap64 ((wrap64 ((wrap64 (x1_1 + 1)) + 1)) + 1))) = true := bne_iff_ne.mpr c10
          obtain rfl := Option.some.inj H
          have p328 : 0 ≤ (x5_1 : Int) := oda
          have q328 : x5_1 < (l0.length : Int) := oda
          obtain ⟨ad328, e328, hx328_0, hx328_1, hx328_2, hx328_3, hx328_4⟩ := at_T34 HR0.out x5_1 p328 q328
          cases e328
          replace hx328_0 := hbc HB.out hx328_0
          replace hx328_1 := hbc HB.out hx328_1
          replace hx328_2 := hbc HB.out hx328_2
          replace hx328_3 := hbc HB.out hx328_3
          replace hx328_4 := hbc HB.out hx328_4
          replace p328 := eq_true p328
          replace q328 := eq_true q328
          try go_wp2
          have n0_ := Aside0.mk (below_drew1 HB.out)
          clear HB
          have HB := n0_
          clear n0_
          have p329 : 0 ≤ (x5_1 : Int) := oda
          have q329 : x5_1 < (l0.length : Int) := oda
          obtain ⟨ad329, e329, hx329_0, hx329_1, hx329_2, hx329_3, hx329_4⟩ := at_T34 HR0.out x5_1 p329 q329
          have hw329_4 := hx329_4
          have hw329_3 := hx329_3
          have hw329_2 := hx329_2
          have hw329_1 := hx329_1
          have hw329_0 := hx329_0
          obtain rfl : ad328 = ad329 := (by injection e329)
          replace hx329_0 := hbc HB.out hx329_0
          replace hx329_1 := hbc HB.out hx329_1
          replace hx329_2 := hbc HB.out hx329_2
          replace hx329_3 := hbc HB.out hx329_3
          replace hx329_4 := hbc HB.out hx329_4
          replace p329 := eq_true p329
          replace q329 := eq_true q329
          refine start_ (n := 8) (S := fun w' => w'.cell? (ad328.add ((x5_1).toNat * 5)) = some (.int .i64 ((rd_T34 l0 x5_1).f0)) ∧ w'.cell? ⟨(ad328.add ((x5_1).toNat * 5)).block, (ad328.add ((x5_1).toNat * 5)).off + 1, none⟩ = some (.string ((rd_T34 l0 x5_1).f1)) ∧ w'.cell? ⟨(ad328.add ((x5_1).toNat * 5)).block, (ad328.add ((x5_1).toNat * 5)).off + 2, none⟩ = some (.string ((rd_T34 l0 x5_1).f2)) ∧ w'.cell? ⟨(ad328.add ((x5_1).toNat * 5)).block, (ad328.add ((x5_1).toNat * 5)).off + 3, none⟩ = some (.int .i64 ((rd_T34 l0 x5_1).f3)) ∧ w'.cell? ⟨(ad328.add ((x5_1).toNat * 5)).block, (ad328.add ((x5_1).toNat * 5)).off + 4, none⟩ = some (.int .i64 ((rd_T34 l0 x5_1).f4))) (ds := []) #[O,O,O,O,O,O,O,O] (by kernel_rfl) rfl rfl ⟨((HB.out.cell (World.block_lt_of_cell? w _ hw329_0)).trans hw329_0), ((HB.out.cell (World.block_lt_of_cell? w _ hw329_1)).trans hw329_1), ((HB.out.cell (World.block_lt_of_cell? w _ hw329_2)).trans hw329_2), ((HB.out.cell (World.block_lt_of_cell? w _ hw329_3)).trans hw329_3), ((HB.out.cell (World.block_lt_of_cell? w _ hw329_4)).trans hw329_4)⟩ (fun hHeld => ?_); refine with_tabW laws_heldEditS.tab7 laws_heldEditS.bits7 (fun HT_ HW_ => ?_)
          generalize wr.drew = w20 at HB hx329_0 hx329_1 hx329_2 hx329_3 hx329_4 hHeld ⊢
          refine pz 0 21 #[Y,O,O,O,O,O,O,O] HT_ ?_
          refine pz 1 22 #[Y,Y,O,O,O,O,O,O] HT_ ?_
          refine pz 2 23 #[Y,Y,Y,O,O,O,O,O] HT_ ?_
          refine pz 3 24 #[Y,Y,Y,Y,O,O,O,O] HT_ ?_
          refine pure_ (i := 5) (N := some 26) (v := ?_) (a' := ?_) #[Y,Y,Y,Y,O,Y,O,O] rfl rfl (any_of HT_.out (by kernel_rfl)) (fun _ _ _ h => h) (Or.inl ⟨by rfl, ?_⟩) ?_ ?_
          rotate_left
          ·intro w'
           go_simp
           with_reducible rfl
          rotate_left
          ·simp only [Act.put, List.setIfInBounds_toArray, List.set_cons_zero, List.set_cons_succ, i64_w, i32_w]
           rfl
          refine take_ (i := 4) (N := some 25) (v := ?_) (a' := ?_) #[Y,Y,Y,Y,Y,Y,O,O] rfl rfl (take_ofW HT_.out HW_.out (by kernel_rfl)) (fun _ _ _ h => h) (Or.inl ⟨by rfl, ?_⟩) hHeld ?_ ?_
          rotate_left
          ·rintro w' ⟨s0, s1, s2, s3, s4⟩
           go_simp
           with_reducible rfl
          rotate_left
          ·simp only [Act.put, List.setIfInBounds_toArray, List.set_cons_zero, List.set_cons_succ, i64_w, i32_w]
           rfl
          refine one_ (i := 6) (N := some 27) #[Y,Y,Y,Y,Y,Y,Y,O] rfl rfl (one_of HT_.out (by kernel_rfl)) (by decide) (fun K hK => ?_)
          refine goes_ Tryd.func42 (by kernel_rfl) rfl #[.int .i64 (wrap64 (x1_1 + 1))] (by rfl) rfl rfl (by (try simp only [List.map_toArray, List.map_cons, List.map_nil]); first | done | rfl | (simp only [List.length_drop, List.length_take]; rfl)) ?_
          with_reducible refine (laws_markText.calls k1 (wrap64 (x1_1 + 1)) t330 _ A6.out).mono ?_
          rintro e w21 ⟨rfl, hb⟩
          refine ⟨_, rfl, ?_⟩
          have n0_ := Aside0.mk (below_step (pl0 HB.out) hb)
          clear HB
          have HB := n0_
          clear n0_
          (try clear hb)
          (try clear hb2)
          (try clear hk)
          (try clear hi)
          refine hK.out _ _ ⟨((HB.out.cell (World.block_lt_of_cell? w _ hw329_0)).trans hw329_0), ((HB.out.cell (World.block_lt_of_cell? w _ hw329_1)).trans hw329_1), ((HB.out.cell (World.block_lt_of_cell? w _ hw329_2)).trans hw329_2), ((HB.out.cell (World.block_lt_of_cell? w _ hw329_3)).trans hw329_3), ((HB.out.cell (World.block_lt_of_cell? w _ hw329_4)).trans hw329_4)⟩ (fun hHeld => ?_)
          clear hK K
          refine norm_ (a' := ?_) ?_ ?_
          rotate_left
          ·show Act.put _ (some 27) _ = _
           simp only [Act.put, List.setIfInBounds_toArray, List.set_cons_zero, List.set_cons_succ, i64_w, i32_w]
           rfl
          refine pz 7 28 #[Y,Y,Y,Y,Y,Y,Y,Y] HT_ ?_
          refine done_ (done_of HT_.out (by kernel_rfl)) ?_
          try go_wp2
          have n0_ := Aside0.mk (below_drew1 HB.out)
          clear HB
          have HB := n0_
          clear n0_
          have p331 : 0 ≤ (x5_1 : Int) := oda
          have q331 : x5_1 < (l0.length : Int) := oda
          obtain ⟨ad331, e331, hx331_0, hx331_1, hx331_2, hx331_3, hx331_4⟩ := at_T34 HR0.out x5_1 p331 q331
          have hw331_4 := hx331_4
          have hw331_3 := hx331_3
          have hw331_2 := hx331_2
          have hw331_1 := hx331_1
          have hw331_0 := hx331_0
          obtain rfl : ad328 = ad331 := (by injection e331)
          replace hx331_0 := hbc HB.out hx331_0
          replace hx331_1 := hbc HB.out hx331_1
          replace hx331_2 := hbc HB.out hx331_2
          replace hx331_3 := hbc HB.out hx331_3
          replace hx331_4 := hbc HB.out hx331_4
          replace p331 := eq_true p331
          replace q331 := eq_true q331
          refine start_ (n := 8) (S := fun w' => w'.cell? (ad328.add ((x5_1).toNat * 5)) = some (.int .i64 ((rd_T34 l0 x5_1).f0)) ∧ w'.cell? ⟨(ad328.add ((x5_1).toNat * 5)).block, (ad328.add ((x5_1).toNat * 5)).off + 1, none⟩ = some (.string ((rd_T34 l0 x5_1).f1)) ∧ w'.cell? ⟨(ad328.add ((x5_1).toNat * 5)).block, (ad328.add ((x5_1).toNat * 5)).off + 2, none⟩ = some (.string ((rd_T34 l0 x5_1).f2)) ∧ w'.cell? ⟨(ad328.add ((x5_1).toNat * 5)).block, (ad328.add ((x5_1).toNat * 5)).off + 3, none⟩ = some (.int .i64 ((rd_T34 l0 x5_1).f3)) ∧ w'.cell? ⟨(ad328.add ((x5_1).toNat * 5)).block, (ad328.add ((x5_1).toNat * 5)).off + 4, none⟩ = some (.int .i64 ((rd_T34 l0 x5_1).f4))) (ds := []) #[O,O,O,O,O,O,O,O] (by kernel_rfl) rfl rfl ⟨((HB.out.cell (World.block_lt_of_cell? w _ hw331_0)).trans hw331_0), ((HB.out.cell (World.block_lt_of_cell? w _ hw331_1)).trans hw331_1), ((HB.out.cell (World.block_lt_of_cell? w _ hw331_2)).trans hw331_2), ((HB.out.cell (World.block_lt_of_cell? w _ hw331_3)).trans hw331_3), ((HB.out.cell (World.block_lt_of_cell? w _ hw331_4)).trans hw331_4)⟩ (fun hHeld => ?_); refine with_tabW laws_heldEditS.tab10 laws_heldEditS.bits10 (fun HT_ HW_ => ?_)
          generalize w21.drew = w22 at HB hx331_0 hx331_1 hx331_2 hx331_3 hx331_4 hHeld ⊢
          refine pz 0 31 #[Y,O,O,O,O,O,O,O] HT_ ?_
          refine pz 1 32 #[Y,Y,O,O,O,O,O,O] HT_ ?_
          refine pz 2 33 #[Y,Y,Y,O,O,O,O,O] HT_ ?_
          refine pz 3 34 #[Y,Y,Y,Y,O,O,O,O] HT_ ?_
          refine pure_ (i := 5) (N := some 36) (v := ?_) (a' := ?_) #[Y,Y,Y,Y,O,Y,O,O] rfl rfl (any_of HT_.out (by kernel_rfl)) (fun _ _ _ h => h) (Or.inl ⟨by rfl, ?_⟩) ?_ ?_
          rotate_left
          ·intro w'
           go_simp
           with_reducible rfl
          rotate_left
          ·simp only [Act.put, List.setIfInBounds_toArray, List.set_cons_zero, List.set_cons_succ, i64_w, i32_w]
           rfl
          refine take_ (i := 4) (N := some 35) (v := ?_) (a' := ?_) #[Y,Y,Y,Y,Y,Y,O,O] rfl rfl (take_ofW HT_.out HW_.out (by kernel_rfl)) (fun _ _ _ h => h) (Or.inl ⟨by rfl, ?_⟩) hHeld ?_ ?_
          rotate_left
          ·rintro w' ⟨s0, s1, s2, s3, s4⟩
           go_simp
           with_reducible rfl
          rotate_left
          ·simp only [Act.put, List.setIfInBounds_toArray, List.set_cons_zero, List.set_cons_succ, i64_w, i32_w]
           rfl
          refine one_ (i := 6) (N := some 37) #[Y,Y,Y,Y,Y,Y,Y,O] rfl rfl (one_of HT_.out (by kernel_rfl)) (by decide) (fun K hK => ?_)
          refine goes_ Tryd.func42 (by kernel_rfl) rfl #[.int .i64 (wrap64 ((wrap64 (x1_1 + 1)) + 1))] (by rfl) rfl rfl (by (try simp only [List.map_toArray, List.map_cons, List.map_nil]); first | done | rfl | (simp only [List.length_drop, List.length_take]; rfl)) ?_
          with_reducible refine (laws_markText.calls k1 (wrap64 ((wrap64 (x1_1 + 1)) + 1)) t332 _ A8.out).mono ?_
          rintro e w23 ⟨rfl, hb⟩
          refine ⟨_, rfl, ?_⟩
          have n0_ := Aside0.mk (below_step (pl0 HB.out) hb)
          clear HB
          have HB := n0_
          clear n0_
          (try clear hb)
          (try clear hb2)
          (try clear hk)
          (try clear hi)
          refine hK.out _ _ ⟨((HB.out.cell (World.block_lt_of_cell? w _ hw331_0)).trans hw331_0), ((HB.out.cell (World.block_lt_of_cell? w _ hw331_1)).trans hw331_1), ((HB.out.cell (World.block_lt_of_cell? w _ hw331_2)).trans hw331_2), ((HB.out.cell (World.block_lt_of_cell? w _ hw331_3)).trans hw331_3), ((HB.out.cell (World.block_lt_of_cell? w _ hw331_4)).trans hw331_4)⟩ (fun hHeld => ?_)
          clear hK K
          refine norm_ (a' := ?_) ?_ ?_
          rotate_left
          ·show Act.put _ (some 37) _ = _
           simp only [Act.put, List.setIfInBounds_toArray, List.set_cons_zero, List.set_cons_succ, i64_w, i32_w]
           rfl
          refine pz 7 38 #[Y,Y,Y,Y,Y,Y,Y,Y] HT_ ?_
          refine done_ (done_of HT_.out (by kernel_rfl)) ?_
          have p333 : 0 ≤ (x5_1 : Int) := oda
          have q333 : x5_1 < (l0.length : Int) := oda
          obtain ⟨ad333, e333, hx333_0, hx333_1, hx333_2, hx333_3, hx333_4⟩ := at_T34 HR0.out x5_1 p333 q333
          obtain rfl : ad328 = ad333 := (by injection e333)
          replace hx333_0 := hbc HB.out hx333_0
          replace hx333_1 := hbc HB.out hx333_1
          replace hx333_2 := hbc HB.out hx333_2
          replace hx333_3 := hbc HB.out hx333_3
          replace hx333_4 := hbc HB.out hx333_4
          replace p333 := eq_true p333
          replace q333 := eq_true q333
          try go_wp2
          go_ret
          exact ⟨erq, pl0 HB.out⟩
        ·rw [if_neg c9] at H
         have c9b0 : (((rd_T34 l0 x5_1).f2).toList == t332.toList) = false := beq_eq_false_iff_ne.mpr c9
         have c9b1 : (((rd_T34 l0 x5_1).f2).toList != t332.toList) = true := bne_iff_ne.mpr c9
         obtain rfl := Option.some.inj H
         have p328 : 0 ≤ (x5_1 : Int) := oda
         have q328 : x5_1 < (l0.length : Int) := oda
         obtain ⟨ad328, e328, hx328_0, hx328_1, hx328_2, hx328_3, hx328_4⟩ := at_T34 HR0.out x5_1 p328 q328
         cases e328
         replace hx328_0 := hbc HB.out hx328_0
         replace hx328_1 := hbc HB.out hx328_1
         replace hx328_2 := hbc HB.out hx328_2
         replace hx328_3 := hbc HB.out hx328_3
         replace hx328_4 := hbc HB.out hx328_4
         replace p328 := eq_true p328
         replace q328 := eq_true q328
         try go_wp2
         have n0_ := Aside0.mk (below_drew1 HB.out)
         clear HB
         have HB := n0_
         clear n0_
         have p329 : 0 ≤ (x5_1 : Int) := oda
         have q329 : x5_1 < (l0.length : Int) := oda
         obtain ⟨ad329, e329, hx329_0, hx329_1, hx329_2, hx329_3, hx329_4⟩ := at_T34 HR0.out x5_1 p329 q329
         have hw329_4 := hx329_4
         have hw329_3 := hx329_3
         have hw329_2 := hx329_2
         have hw329_1 := hx329_1
         have hw329_0 := hx329_0
         obtain rfl : ad328 = ad329 := (by injection e329)
         replace hx329_0 := hbc HB.out hx329_0
         replace hx329_1 := hbc HB.out hx329_1
         replace hx329_2 := hbc HB.out hx329_2
         replace hx329_3 := hbc HB.out hx329_3
         replace hx329_4 := hbc HB.out hx329_4
         replace p329 := eq_true p329
         replace q329 := eq_true q329
         refine start_ (n := 8) (S := fun w' => w'.cell? (ad328.add ((x5_1).toNat * 5)) = some (.int .i64 ((rd_T34 l0 x5_1).f0)) ∧ w'.cell? ⟨(ad328.add ((x5_1).toNat * 5)).block, (ad328.add ((x5_1).toNat * 5)).off + 1, none⟩ = some (.string ((rd_T34 l0 x5_1).f1)) ∧ w'.cell? ⟨(ad328.add ((x5_1).toNat * 5)).block, (ad328.add ((x5_1).toNat * 5)).off + 2, none⟩ = some (.string ((rd_T34 l0 x5_1).f2)) ∧ w'.cell? ⟨(ad328.add ((x5_1).toNat * 5)).block, (ad328.add ((x5_1).toNat * 5)).off + 3, none⟩ = some (.int .i64 ((rd_T34 l0 x5_1).f3)) ∧ w'.cell? ⟨(ad328.add ((x5_1).toNat * 5)).block, (ad328.add ((x5_1).toNat * 5)).off + 4, none⟩ = some (.int .i64 ((rd_T34 l0 x5_1).f4))) (ds := []) #[O,O,O,O,O,O,O,O] (by kernel_rfl) rfl rfl ⟨((HB.out.cell (World.block_lt_of_cell? w _ hw329_0)).trans hw329_0), ((HB.out.cell (World.block_lt_of_cell? w _ hw329_1)).trans hw329_1), ((HB.out.cell (World.block_lt_of_cell? w _ hw329_2)).trans hw329_2), ((HB.out.cell (World.block_lt_of_cell? w _ hw329_3)).trans hw329_3), ((HB.out.cell (World.block_lt_of_cell? w _ hw329_4)).trans hw329_4)⟩ (fun hHeld => ?_); refine with_tabW laws_heldEditS.tab7 laws_heldEditS.bits7 (fun HT_ HW_ => ?_)
         generalize wr.drew = w24 at HB hx329_0 hx329_1 hx329_2 hx329_3 hx329_4 hHeld ⊢
         refine pz 0 21 #[Y,O,O,O,O,O,O,O] HT_ ?_
         refine pz 1 22 #[Y,Y,O,O,O,O,O,O] HT_ ?_
         refine pz 2 23 #[Y,Y,Y,O,O,O,O,O] HT_ ?_
         refine pz 3 24 #[Y,Y,Y,Y,O,O,O,O] HT_ ?_
         refine pure_ (i := 5) (N := some 26) (v := ?_) (a' := ?_) #[Y,Y,Y,Y,O,Y,O,O] rfl rfl (any_of HT_.out (by kernel_rfl)) (fun _ _ _ h => h) (Or.inl ⟨by rfl, ?_⟩) ?_ ?_
         rotate_left
         ·intro w'
          go_simp
          with_reducible rfl
         rotate_left
         ·simp only [Act.put, List.setIfInBounds_toArray, List.set_cons_zero, List.set_cons_succ, i64_w, i32_w]
          rfl
         refine take_ (i := 4) (N := some 25) (v := ?_) (a' := ?_) #[Y,Y,Y,Y,Y,Y,O,O] rfl rfl (take_ofW HT_.out HW_.out (by kernel_rfl)) (fun _ _ _ h => h) (Or.inl ⟨by rfl, ?_⟩) hHeld ?_ ?_
         rotate_left
         ·rintro w' ⟨s0, s1, s2, s3, s4⟩
          go_simp
          with_reducible rfl
         rotate_left
         ·simp only [Act.put, List.setIfInBounds_toArray, List.set_cons_zero, List.set_cons_succ, i64_w, i32_w]
          rfl
         refine one_ (i := 6) (N := some 27) #[Y,Y,Y,Y,Y,Y,Y,O] rfl rfl (one_of HT_.out (by kernel_rfl)) (by decide) (fun K hK => ?_)
         refine goes_ Tryd.func42 (by kernel_rfl) rfl #[.int .i64 (wrap64 (x1_1 + 1))] (by rfl) rfl rfl (by (try simp only [List.map_toArray, List.map_cons, List.map_nil]); first | done | rfl | (simp only [List.length_drop, List.length_take]; rfl)) ?_
         with_reducible refine (laws_markText.calls k1 (wrap64 (x1_1 + 1)) t330 _ A6.out).mono ?_
         rintro e w25 ⟨rfl, hb⟩
         refine ⟨_, rfl, ?_⟩
         have n0_ := Aside0.mk (below_step (pl0 HB.out) hb)
         clear HB
         have HB := n0_
         clear n0_
         (try clear hb)
         (try clear hb2)
         (try clear hk)
         (try clear hi)
         refine hK.out _ _ ⟨((HB.out.cell (World.block_lt_of_cell? w _ hw329_0)).trans hw329_0), ((HB.out.cell (World.block_lt_of_cell? w _ hw329_1)).trans hw329_1), ((HB.out.cell (World.block_lt_of_cell? w _ hw329_2)).trans hw329_2), ((HB.out.cell (World.block_lt_of_cell? w _ hw329_3)).trans hw329_3), ((HB.out.cell (World.block_lt_of_cell? w _ hw329_4)).trans hw329_4)⟩ (fun hHeld => ?_)
         clear hK K
         refine norm_ (a' := ?_) ?_ ?_
         rotate_left
         ·show Act.put _ (some 27) _ = _
          simp only [Act.put, List.setIfInBounds_toArray, List.set_cons_zero, List.set_cons_succ, i64_w, i32_w]
          rfl
         refine pz 7 28 #[Y,Y,Y,Y,Y,Y,Y,Y] HT_ ?_
         refine done_ (done_of HT_.out (by kernel_rfl)) ?_
         try go_wp2
         have n0_ := Aside0.mk (below_drew1 HB.out)
         clear HB
         have HB := n0_
         clear n0_
         have p331 : 0 ≤ (x5_1 : Int) := oda
         have q331 : x5_1 < (l0.length : Int) := oda
         obtain ⟨ad331, e331, hx331_0, hx331_1, hx331_2, hx331_3, hx331_4⟩ := at_T34 HR0.out x5_1 p331 q331
         have hw331_4 := hx331_4
         have hw331_3 := hx331_3
         have hw331_2 := hx331_2
         have hw331_1 := hx331_1
         have hw331_0 := hx331_0
         obtain rfl : ad328 = ad331 := (by injection e331)
         replace hx331_0 := hbc HB.out hx331_0
         replace hx331_1 := hbc HB.out hx331_1
         replace hx331_2 := hbc HB.out hx331_2
         replace hx331_3 := hbc HB.out hx331_3
         replace hx331_4 := hbc HB.out hx331_4
         replace p331 := eq_true p331
         replace q331 := eq_true q331
         refine start_ (n := 8) (S := fun w' => w'.cell? (ad328.add ((x5_1).toNat * 5)) = some (.int .i64 ((rd_T34 l0 x5_1).f0)) ∧ w'.cell? ⟨(ad328.add ((x5_1).toNat * 5)).block, (ad328.add ((x5_1).toNat * 5)).off + 1, none⟩ = some (.string ((rd_T34 l0 x5_1).f1)) ∧ w'.cell? ⟨(ad328.add ((x5_1).toNat * 5)).block, (ad328.add ((x5_1).toNat * 5)).off + 2, none⟩ = some (.string ((rd_T34 l0 x5_1).f2)) ∧ w'.cell? ⟨(ad328.add ((x5_1).toNat * 5)).block, (ad328.add ((x5_1).toNat * 5)).off + 3, none⟩ = some (.int .i64 ((rd_T34 l0 x5_1).f3)) ∧ w'.cell? ⟨(ad328.add ((x5_1).toNat * 5)).block, (ad328.add ((x5_1).toNat * 5)).off + 4, none⟩ = some (.int .i64 ((rd_T34 l0 x5_1).f4))) (ds := []) #[O,O,O,O,O,O,O,O] (by kernel_rfl) rfl rfl ⟨((HB.out.cell (World.block_lt_of_cell? w _ hw331_0)).trans hw331_0), ((HB.out.cell (World.block_lt_of_cell? w _ hw331_1)).trans hw331_1), ((HB.out.cell (World.block_lt_of_cell? w _ hw331_2)).trans hw331_2), ((HB.out.cell (World.block_lt_of_cell? w _ hw331_3)).trans hw331_3), ((HB.out.cell (World.block_lt_of_cell? w _ hw331_4)).trans hw331_4)⟩ (fun hHeld => ?_); refine with_tabW laws_heldEditS.tab10 laws_heldEditS.bits10 (fun HT_ HW_ => ?_)
         generalize w25.drew = w26 at HB hx331_0 hx331_1 hx331_2 hx331_3 hx331_4 hHeld ⊢
         refine pz 0 31 #[Y,O,O,O,O,O,O,O] HT_ ?_
         refine pz 1 32 #[Y,Y,O,O,O,O,O,O] HT_ ?_
         refine pz 2 33 #[Y,Y,Y,O,O,O,O,O] HT_ ?_
         refine pz 3 34 #[Y,Y,Y,Y,O,O,O,O] HT_ ?_
         refine pure_ (i := 5) (N := some 36) (v := ?_) (a' := ?_) #[Y,Y,Y,Y,O,Y,O,O] rfl rfl (any_of HT_.out (by kernel_rfl)) (fun _ _ _ h => h) (Or.inl ⟨by rfl, ?_⟩) ?_ ?_
         rotate_left
         ·intro w'
          go_simp
          with_reducible rfl
         rotate_left
         ·simp only [Act.put, List.setIfInBounds_toArray, List.set_cons_zero, List.set_cons_succ, i64_w, i32_w]
          rfl
         refine take_ (i := 4) (N := some 35) (v := ?_) (a' := ?_) #[Y,Y,Y,Y,Y,Y,O,O] rfl rfl (take_ofW HT_.out HW_.out (by kernel_rfl)) (fun _ _ _ h => h) (Or.inl ⟨by rfl, ?_⟩) hHeld ?_ ?_
         rotate_left
         ·rintro w' ⟨s0, s1, s2, s3, s4⟩
          go_simp
          with_reducible rfl
         rotate_left
         ·simp only [Act.put, List.setIfInBounds_toArray, List.set_cons_zero, List.set_cons_succ, i64_w, i32_w]
          rfl
         refine one_ (i := 6) (N := some 37) #[Y,Y,Y,Y,Y,Y,Y,O] rfl rfl (one_of HT_.out (by kernel_rfl)) (by decide) (fun K hK => ?_)
         refine goes_ Tryd.func42 (by kernel_rfl) rfl #[.int .i64 (wrap64 ((wrap64 (x1_1 + 1)) + 1))] (by rfl) rfl rfl (by (try simp only [List.map_toArray, List.map_cons, List.map_nil]); first | done | rfl | (simp only [List.length_drop, List.length_take]; rfl)) ?_
         with_reducible refine (laws_markText.calls k1 (wrap64 ((wrap64 (x1_1 + 1)) + 1)) t332 _ A8.out).mono ?_
         rintro e w27 ⟨rfl, hb⟩
         refine ⟨_, rfl, ?_⟩
         have n0_ := Aside0.mk (below_step (pl0 HB.out) hb)
         clear HB
         have HB := n0_
         clear n0_
         (try clear hb)
         (try clear hb2)
         (try clear hk)
         (try clear hi)
         refine hK.out _ _ ⟨((HB.out.cell (World.block_lt_of_cell? w _ hw331_0)).trans hw331_0), ((HB.out.cell (World.block_lt_of_cell? w _ hw331_1)).trans hw331_1), ((HB.out.cell (World.block_lt_of_cell? w _ hw331_2)).trans hw331_2), ((HB.out.cell (World.block_lt_of_cell? w _ hw331_3)).trans hw331_3), ((HB.out.cell (World.block_lt_of_cell? w _ hw331_4)).trans hw331_4)⟩ (fun hHeld => ?_)
         clear hK K
         refine norm_ (a' := ?_) ?_ ?_
         rotate_left
         ·show Act.put _ (some 37) _ = _
          simp only [Act.put, List.setIfInBounds_toArray, List.set_cons_zero, List.set_cons_succ, i64_w, i32_w]
          rfl
         refine pz 7 38 #[Y,Y,Y,Y,Y,Y,Y,Y] HT_ ?_
         refine done_ (done_of HT_.out (by kernel_rfl)) ?_
         try go_wp2
         go_ret
         exact ⟨erq, pl0 HB.out⟩
       ·rw [if_neg c7] at H
        have c7b0 : (((rd_T34 l0 x5_1).f1).toList == t330.toList) = false := beq_eq_false_iff_ne.mpr c7
        have c7b1 : (((rd_T34 l0 x5_1).f1).toList != t330.toList) = true := bne_iff_ne.mpr c7
        obtain rfl := Option.some.inj H
        have p328 : 0 ≤ (x5_1 : Int) := oda
        have q328 : x5_1 < (l0.length : Int) := oda
        obtain ⟨ad328, e328, hx328_0, hx328_1, hx328_2, hx328_3, hx328_4⟩ := at_T34 HR0.out x5_1 p328 q328
        cases e328
        replace hx328_0 := hbc HB.out hx328_0
        replace hx328_1 := hbc HB.out hx328_1
        replace hx328_2 := hbc HB.out hx328_2
        replace hx328_3 := hbc HB.out hx328_3
        replace hx328_4 := hbc HB.out hx328_4
        replace p328 := eq_true p328
        replace q328 := eq_true q328
        try go_wp2
        have n0_ := Aside0.mk (below_drew1 HB.out)
        clear HB
        have HB := n0_
        clear n0_
        have p329 : 0 ≤ (x5_1 : Int) := oda
        have q329 : x5_1 < (l0.length : Int) := oda
        obtain ⟨ad329, e329, hx329_0, hx329_1, hx329_2, hx329_3, hx329_4⟩ := at_T34 HR0.out x5_1 p329 q329
        have hw329_4 := hx329_4
        have hw329_3 := hx329_3
        have hw329_2 := hx329_2
        have hw329_1 := hx329_1
        have hw329_0 := hx329_0
        obtain rfl : ad328 = ad329 := (by injection e329)
        replace hx329_0 := hbc HB.out hx329_0
        replace hx329_1 := hbc HB.out hx329_1
        replace hx329_2 := hbc HB.out hx329_2
        replace hx329_3 := hbc HB.out hx329_3
        replace hx329_4 := hbc HB.out hx329_4
        replace p329 := eq_true p329
        replace q329 := eq_true q329
        refine start_ (n := 8) (S := fun w' => w'.cell? (ad328.add ((x5_1).toNat * 5)) = some (.int .i64 ((rd_T34 l0 x5_1).f0)) ∧ w'.cell? ⟨(ad328.add ((x5_1).toNat * 5)).block, (ad328.add ((x5_1).toNat * 5)).off + 1, none⟩ = some (.string ((rd_T34 l0 x5_1).f1)) ∧ w'.cell? ⟨(ad328.add ((x5_1).toNat * 5)).block, (ad328.add ((x5_1).toNat * 5)).off + 2, none⟩ = some (.string ((rd_T34 l0 x5_1).f2)) ∧ w'.cell? ⟨(ad328.add ((x5_1).toNat * 5)).block, (ad328.add ((x5_1).toNat * 5)).off + 3, none⟩ = some (.int .i64 ((rd_T34 l0 x5_1).f3)) ∧ w'.cell? ⟨(ad328.add ((x5_1).toNat * 5)).block, (ad328.add ((x5_1).toNat * 5)).off + 4, none⟩ = some (.int .i64 ((rd_T34 l0 x5_1).f4))) (ds := []) #[O,O,O,O,O,O,O,O] (by kernel_rfl) rfl rfl ⟨((HB.out.cell (World.block_lt_of_cell? w _ hw329_0)).trans hw329_0), ((HB.out.cell (World.block_lt_of_cell? w _ hw329_1)).trans hw329_1), ((HB.out.cell (World.block_lt_of_cell? w _ hw329_2)).trans hw329_2), ((HB.out.cell (World.block_lt_of_cell? w _ hw329_3)).trans hw329_3), ((HB.out.cell (World.block_lt_of_cell? w _ hw329_4)).trans hw329_4)⟩ (fun hHeld => ?_); refine with_tabW laws_heldEditS.tab7 laws_heldEditS.bits7 (fun HT_ HW_ => ?_)
        generalize wr.drew = w28 at HB hx329_0 hx329_1 hx329_2 hx329_3 hx329_4 hHeld ⊢
        refine pz 0 21 #[Y,O,O,O,O,O,O,O] HT_ ?_
        refine pz 1 22 #[Y,Y,O,O,O,O,O,O] HT_ ?_
        refine pz 2 23 #[Y,Y,Y,O,O,O,O,O] HT_ ?_
        refine pz 3 24 #[Y,Y,Y,Y,O,O,O,O] HT_ ?_
        refine pure_ (i := 5) (N := some 26) (v := ?_) (a' := ?_) #[Y,Y,Y,Y,O,Y,O,O] rfl rfl (any_of HT_.out (by kernel_rfl)) (fun _ _ _ h => h) (Or.inl ⟨by rfl, ?_⟩) ?_ ?_
        rotate_left
        ·intro w'
         go_simp
         with_reducible rfl
        rotate_left
        ·simp only [Act.put, List.setIfInBounds_toArray, List.set_cons_zero, List.set_cons_succ, i64_w, i32_w]
         rfl
        refine take_ (i := 4) (N := some 25) (v := ?_) (a' := ?_) #[Y,Y,Y,Y,Y,Y,O,O] rfl rfl (take_ofW HT_.out HW_.out (by kernel_rfl)) (fun _ _ _ h => h) (Or.inl ⟨by rfl, ?_⟩) hHeld ?_ ?_
        rotate_left
        ·rintro w' ⟨s0, s1, s2, s3, s4⟩
         go_simp
         with_reducible rfl
        rotate_left
        ·simp only [Act.put, List.setIfInBounds_toArray, List.set_cons_zero, List.set_cons_succ, i64_w, i32_w]
         rfl
        refine one_ (i := 6) (N := some 27) #[Y,Y,Y,Y,Y,Y,Y,O] rfl rfl (one_of HT_.out (by kernel_rfl)) (by decide) (fun K hK => ?_)
        refine goes_ Tryd.func42 (by kernel_rfl) rfl #[.int .i64 (wrap64 (x1_1 + 1))] (by rfl) rfl rfl (by (try simp only [List.map_toArray, List.map_cons, List.map_nil]); first | done | rfl | (simp only [List.length_drop, List.length_take]; rfl)) ?_
        with_reducible refine (laws_markText.calls k1 (wrap64 (x1_1 + 1)) t330 _ A6.out).mono ?_
        rintro e w29 ⟨rfl, hb⟩
        refine ⟨_, rfl, ?_⟩
        have n0_ := Aside0.mk (below_step (pl0 HB.out) hb)
        clear HB
        have HB := n0_
        clear n0_
        (try clear hb)
        (try clear hb2)
        (try clear hk)
        (try clear hi)
        refine hK.out _ _ ⟨((HB.out.cell (World.block_lt_of_cell? w _ hw329_0)).trans hw329_0), ((HB.out.cell (World.block_lt_of_cell? w _ hw329_1)).trans hw329_1), ((HB.out.cell (World.block_lt_of_cell? w _ hw329_2)).trans hw329_2), ((HB.out.cell (World.block_lt_of_cell? w _ hw329_3)).trans hw329_3), ((HB.out.cell (World.block_lt_of_cell? w _ hw329_4)).trans hw329_4)⟩ (fun hHeld => ?_)
        clear hK K
        refine norm_ (a' := ?_) ?_ ?_
        rotate_left
        ·show Act.put _ (some 27) _ = _
         simp only [Act.put, List.setIfInBounds_toArray, List.set_cons_zero, List.set_cons_succ, i64_w, i32_w]
         rfl
        refine pz 7 28 #[Y,Y,Y,Y,Y,Y,Y,Y] HT_ ?_
        refine done_ (done_of HT_.out (by kernel_rfl)) ?_
        try go_wp2
        go_ret
        exact ⟨erq, pl0 HB.out⟩
      ·rw [if_neg c5] at H
       have c5b0 : (((rd_T34 l0 x5_1).f0) == x1_1) = false := beq_eq_false_iff_ne.mpr c5
       have c5b1 : (((rd_T34 l0 x5_1).f0) != x1_1) = true := bne_iff_ne.mpr c5
       obtain rfl := Option.some.inj H
       have p328 : 0 ≤ (x5_1 : Int) := oda
       have q328 : x5_1 < (l0.length : Int) := oda
       obtain ⟨ad328, e328, hx328_0, hx328_1, hx328_2, hx328_3, hx328_4⟩ := at_T34 HR0.out x5_1 p328 q328
       cases e328
       replace hx328_0 := hbc HB.out hx328_0
       replace hx328_1 := hbc HB.out hx328_1
       replace hx328_2 := hbc HB.out hx328_2
       replace hx328_3 := hbc HB.out hx328_3
       replace hx328_4 := hbc HB.out hx328_4
       replace p328 := eq_true p328
       replace q328 := eq_true q328
       go_wp2
       go_ret
       exact ⟨erq, pl0 HB.out⟩
     ·rw [if_neg c4] at H
      exact absurd H (by simp)
    ·rw [if_neg c3] at H
     have c3b0 : decide (x5_1 < (l0.length : Int)) = false := decide_eq_false c3
     clear c3
     obtain rfl := Option.some.inj H
     go_wp2
     go_ret
     exact ⟨erq, pl0 HB.out⟩
end Go.Proofs.YtffnjbhimhbomaaDoor.QTG
