/- Walks, as the kit's print writes them, run with stubs of my own and mended: TG. -/
import Derived.Test.YtffnjbhimhbomaaDoorQTG0
import Derived.Test.YtffnjbhimhbomaaDoorQTA0
import Derived.Test.YtffnjbhimhbomaaDoorQTA1
import Derived.Test.YtffnjbhimhbomaaDoorQTE1
import Derived.Test.YtffnjbhimhbomaaDoorQTE2
import Derived.Test.YtffnjbhimhbomaaDoorQTE3
import Derived.Test.YtffnjbhimhbomaaDoorQTE4
import Derived.Test.YtffnjbhimhbomaaDoorQTF1
namespace Go.Proofs.YtffnjbhimhbomaaDoor.QTG
open Go.Proofs.YtffnjbhimhbomaaDoor.QTA Go.Proofs.YtffnjbhimhbomaaDoor.QTB Go.Proofs.YtffnjbhimhbomaaDoor.QTC Go.Proofs.YtffnjbhimhbomaaDoor.QTD Go.Proofs.YtffnjbhimhbomaaDoor.QTE Go.Proofs.YtffnjbhimhbomaaDoor.QTF
open Go.Proofs.YtffnjbhimhbomaaDoorW Go.Proofs.YtffnjbhimhbomaaDoorW.Zip
open Go.RowKit Go.Proofs.YtffnjbhimhbomaaDoorW.PrintWords Go.Proofs.YtffnjbhimhbomaaDoorW.PrintLast Go.Proofs.YtffnjbhimhbomaaDoorW.PrintMore
attribute [local go_sem] max2_int min2_int max_two min_two max_three min_three max_four min_four   -- for this text's walks alone
set_option linter.unusedVariables false
set_option linter.unusedSimpArgs false
mutual
def spec_Unframe.l0 : Nat → ByteArray → List ByteArray → Int → Option (List ByteArray × Int)
  | 0, _, _, _ => none
  | k + 1, x0, x4, x5 => if x5 < (x0.size : Int) then ((spec_ReadVar.f k x0 x5).bind fun bt185 => (if bt185.2.2 = true then (spec_Unframe.j1 k x0 x4 x5 bt185.1 bt185.2.1 (decide (bt185.1 > (wrap64 ((wrap64 ((x0.size : Int) - bt185.2.1)) - 4))))) else (spec_Unframe.j1 k x0 x4 x5 bt185.1 bt185.2.1 true))) else (some (x4, x5))
def spec_Unframe.j1 : Nat → ByteArray → List ByteArray → Int → Int → Int → Bool → Option (List ByteArray × Int)
  | 0, _, _, _, _, _, _ => none
  | k + 1, x0, x4, x5, x6, x7, x38 => if x38 = true then (some (x4, x5)) else (if 0 ≤ (wrap64 (x7 + 4)) then (if (wrap64 (x7 + 4)) ≤ (wrap64 ((wrap64 (x7 + 4)) + x6)) then (if (wrap64 ((wrap64 (x7 + 4)) + x6)) ≤ (x0.size : Int) then ((spec_Frame.f k (x0.extract ((wrap64 (x7 + 4)) : Int).toNat ((wrap64 ((wrap64 (x7 + 4)) + x6)) : Int).toNat)).bind fun bt188 => (if bt188.2 = true then (if 0 ≤ x5 then (if x5 ≤ (wrap64 ((wrap64 (x7 + 4)) + x6)) then (if bt188.1.toList = (x0.extract (x5 : Int).toNat ((wrap64 ((wrap64 (x7 + 4)) + x6)) : Int).toNat).toList then (if x4.length < 8796093022208 then (spec_Unframe.l0 k x0 (x4 ++ [x0.extract ((wrap64 (x7 + 4)) : Int).toNat ((wrap64 ((wrap64 (x7 + 4)) + x6)) : Int).toNat]) (wrap64 ((wrap64 (x7 + 4)) + x6))) else (none)) else (some (x4, x5))) else (none)) else (none)) else (some (x4, x5)))) else (none)) else (none)) else (none))
end
def spec_Unframe.f (k : Nat) (a0 : ByteArray) : Option (List ByteArray × Int) := (some (([] : List ByteArray) : List ByteArray)).bind fun y182 => (if (a0.size : Int) > 20000 then (some (y182, 0)) else (spec_Unframe.l0 k a0 y182 0))
set_option maxHeartbeats 8000000 in
set_option maxRecDepth 100000 in
theorem spec_Unframe.calls (k : Nat) (a0 : ByteArray) (r1 : List ByteArray) (r2 : Int) (w : World) (h : spec_Unframe.f k a0 = some (r1, r2)) :
    Calls Tryd.prog 59 #[.string a0] w fun e w' => ∃ v0_ : Value, e = .returned (.tuple #[v0_, .int .i64 r2]) ∧ Kd.R Kd.string 9 w' w.heap.size (fun _ => True) v0_ r1 ∧ Below w.heap.size w w' := by
  have HB := Aside0.mk (Below.refl w.heap.size w)
  have H : ((some (([] : List ByteArray) : List ByteArray)).bind fun y182 => (if (a0.size : Int) > 20000 then (some (y182, 0)) else (spec_Unframe.l0 k a0 y182 0))) = some (r1, r2) := h
  clear h
  obtain ⟨y182, hy182⟩ : ∃ y_ : List ByteArray, y_ = (([] : List ByteArray)) := ⟨_, rfl⟩
  replace H : (if (a0.size : Int) > 20000 then (some (y182, 0)) else (spec_Unframe.l0 k a0 y182 0)) = some (r1, r2) := by first | (rw [hy182]; with_reducible exact H) | (have H2_ := (Option.bind_some _ _).symm.trans H; rw [hy182]; with_reducible exact H2_) | (have H2_ := (Option.bind_some _ _).symm.trans H; with_reducible exact H2_) | with_reducible exact H | (rw [hy182]; exact H) | exact H
  have Ny182 := Aside0.mk hy182
  clear hy182
  by_cases c2 : (a0.size : Int) > 20000
  ·rw [if_pos c2] at H
   have c2b0 : decide (20000 < (a0.size : Int)) = true := decide_eq_true c2
   have c2b1 : decide (20000 < a0.size) = true := decide_eq_true (by omega)
   clear c2
   simp only [Option.some.injEq, Prod.mk.injEq] at H
   obtain ⟨rfl, rfl⟩ := H
   go_enter Tryd.func59, Tryd.ntmps59
   go_wp2_with (first | ((with_reducible refine gate_dst (N := 12) rfl ?_); (try (refine gate_guard (by rfl) ?_; dsimp only)); refine Kd.R_lit Kd.string _ 9 ?hg (N := 12) ?hd (xs := ([] : List ByteArray)) (inner := []) (ok := fun _ => True) (okp := fun _ => True) ?hr ?hp (fun _ hk => hk) trivial (Below.refl _ _) (Nat.le_refl _) (by simp) ?_; (case hd => rfl); (case hg => rfl); (case hr => first | (go_simp; done) | (go_simp; rfl)); (case hp => exact (Reps.none _ _)); intro v183 w3 ho4 hb hg_ hnew_; clear hg_ hnew_; (first | rw [← Ny182.out] at ho4 | (simp only [Int.reduceToNat] at ho4; rw [← Ny182.out] at ho4)); have n0_ := Aside0.mk (Kd.R_lower ho4 (below_size (pl0 HB.out))); have n1_ := Aside0.mk (below_step (pl0 HB.out) hb); clear HB; have HO184 := n0_; have HB := n1_; clear n0_ n1_; clear hb ho4))
   go_ret2
   exact ⟨_, erq, by (with_reducible repeat (first | apply Kd.R_alloc | apply Kd.R_drewN | apply Kd.R_drew)); exact HO184.out, pl0 HB.out⟩
  ·rw [if_neg c2] at H
   have c2b0 : decide (20000 < (a0.size : Int)) = false := decide_eq_false c2
   have c2b1 : decide (20000 < a0.size) = false := decide_eq_false (by omega)
   clear c2
   have H' := Aside0.mk H
   clear H
   go_enter Tryd.func59, Tryd.ntmps59
   go_wp2_with (first | ((with_reducible refine gate_dst (N := 12) rfl ?_); (try (refine gate_guard (by rfl) ?_; dsimp only)); refine Kd.R_lit Kd.string _ 9 ?hg (N := 12) ?hd (xs := ([] : List ByteArray)) (inner := []) (ok := fun _ => True) (okp := fun _ => True) ?hr ?hp (fun _ hk => hk) trivial (Below.refl _ _) (Nat.le_refl _) (by simp) ?_; (case hd => rfl); (case hg => rfl); (case hr => first | (go_simp; done) | (go_simp; rfl)); (case hp => exact (Reps.none _ _)); intro v183 w5 ho6 hb hg_ hnew_; clear hg_ hnew_; (first | rw [← Ny182.out] at ho6 | (simp only [Int.reduceToNat] at ho6; rw [← Ny182.out] at ho6)); have n0_ := Aside0.mk (Kd.R_lower ho6 (below_size (pl0 HB.out))); have n1_ := Aside0.mk (below_step (pl0 HB.out) hb); clear HB; have HO184 := n0_; have HB := n1_; clear n0_ n1_; clear hb ho6))
   go_loopg [4, 5] k (fun kq v4 v5 w' => ∃ (x4_1 : List ByteArray) (x5_1 : Int), v5 = .int .i64 x5_1 ∧ Aside0 (spec_Unframe.l0 kq a0 x4_1 x5_1 = some (r1, r2)) ∧ Aside0 (kq ≤ k) ∧ Aside0 (Kd.R Kd.string 9 w' w.heap.size (fun _ => True) v4 x4_1) ∧ Aside0 (Below w.heap.size w w'))
   case atStart => exact ⟨(y182), (0), eqa, H', ⟨Nat.le_refl _⟩, ⟨by (with_reducible repeat (first | apply Kd.R_alloc | apply Kd.R_drewN | apply Kd.R_drew)); exact HO184.out⟩, ⟨pl0 HB.out⟩⟩
   case round =>
    clear H'
    try clear c2; try clear c2b0; try clear c2b1
    obtain ⟨x4_1, x5_1, rfl, HA, HK1, HO_4, HB⟩ := hrel
    cases gk with
    | zero => exact absurd HA.out (by simp [spec_Unframe.l0])
    | succ k1 =>
     have H := HA.out
     clear HA
     simp only [spec_Unframe.l0] at H
     by_cases c7 : x5_1 < (a0.size : Int)
     ·rw [if_pos c7] at H
      have c7b0 : decide (x5_1 < (a0.size : Int)) = true := decide_eq_true c7
      clear c7
      replace H := Option.bind_eq_some_iff.mp H
      obtain ⟨⟨t185, t186, t187⟩, A80, H⟩ := H
      replace H : (if t187 = true then (spec_Unframe.j1 k1 a0 x4_1 x5_1 t185 t186 (decide (t185 > (wrap64 ((wrap64 ((a0.size : Int) - t186)) - 4))))) else (spec_Unframe.j1 k1 a0 x4_1 x5_1 t185 t186 true)) = some (r1, r2) := H
      have A8 := Aside0.mk A80
      clear A80
      have HC9 := Aside0.mk H
      clear H
      go_upto_region 7 with (first | ((with_reducible refine gate_callee (f := 53) rfl ?_); refine goesL_ (some 24) rfl rfl Tryd.func53 (by kernel_rfl) rfl #[.string a0, .int .i64 x5_1] rfl (by (try simp only [List.map_toArray, List.map_cons, List.map_nil]); first | done | rfl | (simp only [List.length_drop, List.length_take]; rfl)) ?_; (with_reducible refine (spec_ReadVar.calls k1 a0 x5_1 t185 t186 t187 _ A8.out).mono ?_); rintro e w10 ⟨rfl, hb⟩; refine ⟨_, rfl, ?_⟩; have n0_ := Aside0.mk (Kd.R_below (by (with_reducible repeat (first | apply Kd.R_alloc | apply Kd.R_drewN | apply Kd.R_drew)); exact HO_4.out) hb); have n1_ := Aside0.mk (below_step (pl0 HB.out) hb); clear HO_4; clear HB; have HO_4 := n0_; have HB := n1_; clear n0_ n1_; (try clear hb); (try clear hb2); (try clear hk); (try clear hi)))
      (try simp only [Act.put, List.setIfInBounds_toArray, List.set_cons_zero, List.set_cons_succ])
      go_cut [38] (fun v38 wc => ∃ (kq : Nat) (x38_8 : Bool), v38 = .bool x38_8 ∧ Aside0 (spec_Unframe.j1 kq a0 x4_1 x5_1 t185 t186 x38_8 = some (r1, r2)) ∧ Aside0 (kq ≤ k1) ∧ Aside0 (Kd.R Kd.string 9 wc w.heap.size (fun _ => True) u4 x4_1) ∧ Aside0 (Below w.heap.size w wc))
      case first =>
       have H := HC9.out
       clear HC9
       by_cases c11 : t187 = true
       ·subst c11
        have H1 : (spec_Unframe.j1 k1 a0 x4_1 x5_1 t185 t186 (decide (t185 > (wrap64 ((wrap64 ((a0.size : Int) - t186)) - 4))))) = some (r1, r2) := by rw [if_pos rfl] at H; exact H
        clear H
        have H := H1
        clear H1
        have H' := Aside0.mk H
        clear H
        go_wp2
        go_meet
        case rel => exact ⟨_, (decide (t185 > (wrap64 ((wrap64 ((a0.size : Int) - t186)) - 4)))), eqa, H', ⟨by have := HK1.out; first | omega | exact Nat.le_refl _⟩, ⟨by (with_reducible repeat (first | apply Kd.R_alloc | apply Kd.R_drewN | apply Kd.R_drew)); exact HO_4.out⟩, ⟨pl0 HB.out⟩⟩
       ·replace c11 := Bool.eq_false_iff.mpr c11
        subst c11
        have H1 : (spec_Unframe.j1 k1 a0 x4_1 x5_1 t185 t186 true) = some (r1, r2) := by rw [if_neg (show ¬ (false = true) by decide)] at H; exact H
        clear H
        have H := H1
        clear H1
        have H' := Aside0.mk H
        clear H
        go_wp2
        go_meet
        case rel => exact ⟨_, (true), eqa, H', ⟨by have := HK1.out; first | omega | exact Nat.le_refl _⟩, ⟨by (with_reducible repeat (first | apply Kd.R_alloc | apply Kd.R_drewN | apply Kd.R_drew)); exact HO_4.out⟩, ⟨pl0 HB.out⟩⟩
      case rest =>
       clear HC9
       try clear c7; try clear c7b0
       obtain ⟨kq, x38_8, rfl, HA, HJ8, HO_4, HB⟩ := hcut
       cases kq with
       | zero => exact absurd HA.out (by simp [spec_Unframe.j1])
       | succ kj8 =>
        have H := HA.out
        clear HA
        simp only [spec_Unframe.j1] at H
        by_cases c12 : x38_8 = true
        ·subst c12
         have H1 : (some (x4_1, x5_1)) = some (r1, r2) := by rw [if_pos rfl] at H; exact H
         clear H
         have H := H1
         clear H1
         simp only [Option.some.injEq, Prod.mk.injEq] at H
         obtain ⟨rfl, rfl⟩ := H
         go_wp2
         go_ret2
         exact ⟨_, erq, by (with_reducible repeat (first | apply Kd.R_alloc | apply Kd.R_drewN | apply Kd.R_drew)); exact HO_4.out, pl0 HB.out⟩
        ·replace c12 := Bool.eq_false_iff.mpr c12
         subst c12
         have H1 : (if 0 ≤ (wrap64 (t186 + 4)) then (if (wrap64 (t186 + 4)) ≤ (wrap64 ((wrap64 (t186 + 4)) + t185)) then (if (wrap64 ((wrap64 (t186 + 4)) + t185)) ≤ (a0.size : Int) then ((spec_Frame.f kj8 (a0.extract ((wrap64 (t186 + 4)) : Int).toNat ((wrap64 ((wrap64 (t186 + 4)) + t185)) : Int).toNat)).bind fun bt188 => (if bt188.2 = true then (if 0 ≤ x5_1 then (if x5_1 ≤ (wrap64 ((wrap64 (t186 + 4)) + t185)) then (if bt188.1.toList = (a0.extract (x5_1 : Int).toNat ((wrap64 ((wrap64 (t186 + 4)) + t185)) : Int).toNat).toList then (if x4_1.length < 8796093022208 then (spec_Unframe.l0 kj8 a0 (x4_1 ++ [a0.extract ((wrap64 (t186 + 4)) : Int).toNat ((wrap64 ((wrap64 (t186 + 4)) + t185)) : Int).toNat]) (wrap64 ((wrap64 (t186 + 4)) + t185))) else (none)) else (some (x4_1, x5_1))) else (none)) else (none)) else (some (x4_1, x5_1)))) else (none)) else (none)) else (none)) = some (r1, r2) := by rw [if_neg (show ¬ (false = true) by decide)] at H; exact H
         clear H
         have H := H1
         clear H1
         obtain ⟨ji13, hji13⟩ : ∃ j_ : Int, (wrap64 (t186 + 4)) = j_ := ⟨_, rfl⟩
         replace H : (if 0 ≤ (ji13) then (if (ji13) ≤ (wrap64 ((ji13) + t185)) then (if (wrap64 ((ji13) + t185)) ≤ (a0.size : Int) then ((spec_Frame.f kj8 (a0.extract ((ji13) : Int).toNat ((wrap64 ((ji13) + t185)) : Int).toNat)).bind fun bt188 => (if bt188.2 = true then (if 0 ≤ x5_1 then (if x5_1 ≤ (wrap64 ((ji13) + t185)) then (if bt188.1.toList = (a0.extract (x5_1 : Int).toNat ((wrap64 ((ji13) + t185)) : Int).toNat).toList then (if x4_1.length < 8796093022208 then (spec_Unframe.l0 kj8 a0 (x4_1 ++ [a0.extract ((ji13) : Int).toNat ((wrap64 ((ji13) + t185)) : Int).toNat]) (wrap64 ((ji13) + t185))) else (none)) else (some (x4_1, x5_1))) else (none)) else (none)) else (some (x4_1, x5_1)))) else (none)) else (none)) else (none)) = some (r1, r2) := by first | (rw [hji13] at H; exact H) | (simp only [hji13] at H ⊢; exact H)
         have hji13w : (IntKind.i64.wrap (t186 + 4)) = ji13 := (i64_w _).trans hji13
         by_cases c14 : 0 ≤ (ji13)
         ·rw [if_pos c14] at H
          have c14b0 := eq_true c14
          have c14b1 : decide (0 ≤ (ji13)) = true := decide_eq_true c14
          clear c14
          by_cases c15 : (ji13) ≤ (wrap64 ((ji13) + t185))
          ·rw [if_pos c15] at H
           have c15b0 := eq_true c15
           have c15b1 : decide ((ji13) ≤ (wrap64 ((ji13) + t185))) = true := decide_eq_true c15
           by_cases c16 : (wrap64 ((ji13) + t185)) ≤ (a0.size : Int)
           ·rw [if_pos c16] at H
            have c16b0 := eq_true c16
            have c16b1 : decide ((wrap64 ((ji13) + t185)) ≤ (a0.size : Int)) = true := decide_eq_true c16
            replace H := Option.bind_eq_some_iff.mp H
            obtain ⟨⟨t188, t189⟩, A170, H⟩ := H
            replace H : (if t189 = true then (if 0 ≤ x5_1 then (if x5_1 ≤ (wrap64 ((ji13) + t185)) then (if t188.toList = (a0.extract (x5_1 : Int).toNat ((wrap64 ((ji13) + t185)) : Int).toNat).toList then (if x4_1.length < 8796093022208 then (spec_Unframe.l0 kj8 a0 (x4_1 ++ [a0.extract ((ji13) : Int).toNat ((wrap64 ((ji13) + t185)) : Int).toNat]) (wrap64 ((ji13) + t185))) else (none)) else (some (x4_1, x5_1))) else (none)) else (none)) else (some (x4_1, x5_1))) = some (r1, r2) := H
            have A17 := Aside0.mk A170
            clear A170
            by_cases c18 : t189 = true
            ·subst c18
             have H1 : (if 0 ≤ x5_1 then (if x5_1 ≤ (wrap64 ((ji13) + t185)) then (if t188.toList = (a0.extract (x5_1 : Int).toNat ((wrap64 ((ji13) + t185)) : Int).toNat).toList then (if x4_1.length < 8796093022208 then (spec_Unframe.l0 kj8 a0 (x4_1 ++ [a0.extract ((ji13) : Int).toNat ((wrap64 ((ji13) + t185)) : Int).toNat]) (wrap64 ((ji13) + t185))) else (none)) else (some (x4_1, x5_1))) else (none)) else (none)) = some (r1, r2) := by rw [if_pos rfl] at H; exact H
             clear H
             have H := H1
             clear H1
             by_cases c19 : 0 ≤ x5_1
             ·rw [if_pos c19] at H
              have c19b0 := eq_true c19
              have c19b1 : decide (0 ≤ x5_1) = true := decide_eq_true c19
              clear c19
              by_cases c20 : x5_1 ≤ (wrap64 ((ji13) + t185))
              ·rw [if_pos c20] at H
               have c20b0 := eq_true c20
               have c20b1 : decide (x5_1 ≤ (wrap64 ((ji13) + t185))) = true := decide_eq_true c20
               have c21b0 := eq_true (of_decide_eq_true (by first | (with_reducible assumption) | assumption) : (wrap64 ((ji13) + t185)) ≤ (a0.size : Int))
               by_cases c22 : t188.toList = (a0.extract (x5_1 : Int).toNat ((wrap64 ((ji13) + t185)) : Int).toNat).toList
               ·rw [if_pos c22] at H
                have c22b0 : (t188.toList == (a0.extract (x5_1 : Int).toNat ((wrap64 ((ji13) + t185)) : Int).toNat).toList) = true := beq_iff_eq.mpr c22
                have c22b1 : (t188.toList != (a0.extract (x5_1 : Int).toNat ((wrap64 ((ji13) + t185)) : Int).toNat).toList) = false := bne_eq_false_iff_eq.mpr c22
                clear c22
                by_cases c23 : x4_1.length < 8796093022208
                ·rw [if_pos c23] at H
                 have LMc23 := Aside0.mk c23
                 clear c23
                 obtain ⟨y190, hy190⟩ : ∃ y_ : List ByteArray, y_ = (x4_1 ++ [a0.extract ((ji13) : Int).toNat ((wrap64 ((ji13) + t185)) : Int).toNat]) := ⟨_, rfl⟩
                 replace H : (spec_Unframe.l0 kj8 a0 y190 (wrap64 ((ji13) + t185))) = some (r1, r2) := by first | (rw [hy190]; with_reducible exact H) | (have H2_ := (Option.bind_some _ _).symm.trans H; rw [hy190]; with_reducible exact H2_) | (have H2_ := (Option.bind_some _ _).symm.trans H; with_reducible exact H2_) | with_reducible exact H | (rw [hy190]; exact H) | exact H
                 have Ny190 := Aside0.mk hy190
                 clear hy190
                 have H' := Aside0.mk H
                 clear H
                 go_wp2_with (first | ((with_reducible refine gate_callee (f := 56) rfl ?_); refine goesL_ (some 51) rfl rfl Tryd.func56 (by kernel_rfl) rfl #[.string (a0.extract ((ji13) : Int).toNat ((wrap64 ((ji13) + t185)) : Int).toNat)] rfl (by (try simp only [List.map_toArray, List.map_cons, List.map_nil]); first | done | (simp only [hji13]; rfl) | rfl | (simp only [List.length_drop, List.length_take]; rfl)) ?_; (with_reducible refine (spec_Frame.calls kj8 (a0.extract ((ji13) : Int).toNat ((wrap64 ((ji13) + t185)) : Int).toNat) t188 true _ A17.out).mono ?_); rintro e w24 ⟨rfl, hb⟩; refine ⟨_, rfl, ?_⟩; have n0_ := Aside0.mk (Kd.R_below (by (with_reducible repeat (first | apply Kd.R_alloc | apply Kd.R_drewN | apply Kd.R_drew)); exact HO_4.out) hb); have n1_ := Aside0.mk (below_step (pl0 HB.out) hb); clear HO_4; clear HB; have HO_4 := n0_; have HB := n1_; clear n0_ n1_; (try clear hb); (try clear hb2); (try clear hk); (try clear hi)) | ((with_reducible refine gate_builtin (b := .append) (xs := #[.tmp 69, .tmp 71]) rfl ?_); (try (refine gate_guard (by rfl) ?_; dsimp only)); at_builtin; refine Kd.R_append Kd.string (w0 := w) w.heap.size rfl (.tmp 69) (.tmp 71) 22 9 (.string ⟨#[]⟩) 16 rfl Tryd.underlying22 info9 rfl (by decide) (by omega) u4 x4_1 (a0.extract ((ji13) : Int).toNat ((wrap64 ((ji13) + t185)) : Int).toNat) [.string (a0.extract ((ji13) : Int).toNat ((wrap64 ((ji13) + t185)) : Int).toNat)] (fun _ => True) (fun _ => False) rfl rfl ?aP (fun _ hk => hk.elim) ?aF ?aO ?aB ?aS ?aL ?_; (case aP => exact rfl); (case aB => exact (pl0 HB.out)); (case aF => exact (fun _ _ => trivial)); (case aO => exact (by (with_reducible repeat (first | apply Kd.R_alloc | apply Kd.R_drewN | apply Kd.R_drew)); exact HO_4.out)); (case aS => exact (below_size (pl0 HB.out))); (case aL => have := LMc23.out; omega); intro v191 w25 ho hb hg hat; rw [← Ny190.out] at ho; have n0_ := Aside0.mk (hb); have n1_ := Aside0.mk (ho); clear HB; clear HO_4; have HB := n0_; have HO192 := n1_; clear n0_ n1_; clear ho hb hg hat))
                 go_roundg kj8
                 case measure => have := HK1.out; have := HJ8.out; omega
                 case rel => exact ⟨(y190), (wrap64 ((ji13) + t185)), (by first | rfl | (simp; done) | (simp only [← hji13] <;> (first | rfl | simp)) | (simp [*]; done)), H', ⟨by have := HK1.out; have := HJ8.out; omega⟩, ⟨by (with_reducible repeat (first | apply Kd.R_alloc | apply Kd.R_drewN | apply Kd.R_drew)); exact HO192.out⟩, ⟨pl0 HB.out⟩⟩
                ·rw [if_neg c23] at H
                 exact absurd H (by simp)
               ·rw [if_neg c22] at H
                have c22b0 : (t188.toList == (a0.extract (x5_1 : Int).toNat ((wrap64 ((ji13) + t185)) : Int).toNat).toList) = false := beq_eq_false_iff_ne.mpr c22
                have c22b1 : (t188.toList != (a0.extract (x5_1 : Int).toNat ((wrap64 ((ji13) + t185)) : Int).toNat).toList) = true := bne_iff_ne.mpr c22
                simp only [Option.some.injEq, Prod.mk.injEq] at H
                obtain ⟨rfl, rfl⟩ := H
                go_wp2_with (first | ((with_reducible refine gate_callee (f := 56) rfl ?_); refine goesL_ (some 51) rfl rfl Tryd.func56 (by kernel_rfl) rfl #[.string (a0.extract ((ji13) : Int).toNat ((wrap64 ((ji13) + t185)) : Int).toNat)] rfl (by (try simp only [List.map_toArray, List.map_cons, List.map_nil]); first | done | (simp only [hji13]; rfl) | rfl | (simp only [List.length_drop, List.length_take]; rfl)) ?_; (with_reducible refine (spec_Frame.calls kj8 (a0.extract ((ji13) : Int).toNat ((wrap64 ((ji13) + t185)) : Int).toNat) t188 true _ A17.out).mono ?_); rintro e w26 ⟨rfl, hb⟩; refine ⟨_, rfl, ?_⟩; have n0_ := Aside0.mk (Kd.R_below (by (with_reducible repeat (first | apply Kd.R_alloc | apply Kd.R_drewN | apply Kd.R_drew)); exact HO_4.out) hb); have n1_ := Aside0.mk (below_step (pl0 HB.out) hb); clear HO_4; clear HB; have HO_4 := n0_; have HB := n1_; clear n0_ n1_; (try clear hb); (try clear hb2); (try clear hk); (try clear hi)))
                go_ret2
                exact ⟨_, by first | rfl | (simp [errW_none, errW_some] <;> rfl) | (simp only [← hji13]; first | rfl | (simp [errW_none, errW_some] <;> rfl)) | (simp [*, errW_none, errW_some] <;> rfl), by (with_reducible repeat (first | apply Kd.R_alloc | apply Kd.R_drewN | apply Kd.R_drew)); exact HO_4.out, pl0 HB.out⟩
              ·rw [if_neg c20] at H
               exact absurd H (by simp)
             ·rw [if_neg c19] at H
              exact absurd H (by simp)
            ·replace c18 := Bool.eq_false_iff.mpr c18
             subst c18
             have H1 : (some (x4_1, x5_1)) = some (r1, r2) := by rw [if_neg (show ¬ (false = true) by decide)] at H; exact H
             clear H
             have H := H1
             clear H1
             simp only [Option.some.injEq, Prod.mk.injEq] at H
             obtain ⟨rfl, rfl⟩ := H
             go_wp2_with (first | ((with_reducible refine gate_callee (f := 56) rfl ?_); refine goesL_ (some 51) rfl rfl Tryd.func56 (by kernel_rfl) rfl #[.string (a0.extract ((ji13) : Int).toNat ((wrap64 ((ji13) + t185)) : Int).toNat)] rfl (by (try simp only [List.map_toArray, List.map_cons, List.map_nil]); first | done | (simp only [hji13]; rfl) | rfl | (simp only [List.length_drop, List.length_take]; rfl)) ?_; (with_reducible refine (spec_Frame.calls kj8 (a0.extract ((ji13) : Int).toNat ((wrap64 ((ji13) + t185)) : Int).toNat) t188 false _ A17.out).mono ?_); rintro e w27 ⟨rfl, hb⟩; refine ⟨_, rfl, ?_⟩; have n0_ := Aside0.mk (Kd.R_below (by (with_reducible repeat (first | apply Kd.R_alloc | apply Kd.R_drewN | apply Kd.R_drew)); exact HO_4.out) hb); have n1_ := Aside0.mk (below_step (pl0 HB.out) hb); clear HO_4; clear HB; have HO_4 := n0_; have HB := n1_; clear n0_ n1_; (try clear hb); (try clear hb2); (try clear hk); (try clear hi)))
             go_ret2
             exact ⟨_, by first | rfl | (simp [errW_none, errW_some] <;> rfl) | (simp only [← hji13]; first | rfl | (simp [errW_none, errW_some] <;> rfl)) | (simp [*, errW_none, errW_some] <;> rfl), by (with_reducible repeat (first | apply Kd.R_alloc | apply Kd.R_drewN | apply Kd.R_drew)); exact HO_4.out, pl0 HB.out⟩
           ·rw [if_neg c16] at H
            exact absurd H (by simp)
          ·rw [if_neg c15] at H
           exact absurd H (by simp)
         ·rw [if_neg c14] at H
          exact absurd H (by simp)
     ·rw [if_neg c7] at H
      have c7b0 : decide (x5_1 < (a0.size : Int)) = false := decide_eq_false c7
      clear c7
      simp only [Option.some.injEq, Prod.mk.injEq] at H
      obtain ⟨rfl, rfl⟩ := H
      go_wp2
      go_ret2
      exact ⟨_, erq, by (with_reducible repeat (first | apply Kd.R_alloc | apply Kd.R_drewN | apply Kd.R_drew)); exact HO_4.out, pl0 HB.out⟩
def spec_ReadLog.l0 : Nat → List (S34) → Int → List ByteArray → Int → Option ((List (S34)) × Int)
  | 0, _, _, _, _ => none
  | k + 1, x4, x5, x6, x8 => if x8 < (x6.length : Int) then (if 0 ≤ x8 then ((spec_ReadEdit.f k (rdOf ByteArray.empty x6 x8)).bind fun bt201 => (if bt201.2.2.2.2.2 = true then ((spec_Frame.f k (rdOf ByteArray.empty x6 x8)).bind fun bt209 => (if x4.length < 2513169434916 then (spec_ReadLog.l0 k (x4 ++ [(⟨bt201.1, bt201.2.1, bt201.2.2.1, bt201.2.2.2.1, bt201.2.2.2.2.1⟩ : S34)]) (wrap64 (x5 + (bt209.1.size : Int))) x6 (wrap64 (x8 + 1))) else (none))) else (some (x4, x5)))) else (none)) else (some (x4, x5))
def spec_ReadLog.f (k : Nat) (a0 : ByteArray) : Option ((List (S34)) × Int) := (spec_Unframe.f k a0).bind fun bt196 => (spec_ReadLog.l0 k (([] : List (S34))) 0 bt196.1 0)
set_option maxHeartbeats 8000000 in
set_option maxRecDepth 100000 in
theorem spec_ReadLog.calls (k : Nat) (a0 : ByteArray) (r1 : List (S34)) (r2 : Int) (w : World) (h : spec_ReadLog.f k a0 = some (r1, r2)) :
    Calls Tryd.prog 31 #[.string a0] w fun e w' => ∃ v0_ : Value, e = .returned (.tuple #[v0_, .int .i64 r2]) ∧ Kd.R k34 34 w' w.heap.size (fun _ => True) v0_ r1 ∧ Below w.heap.size w w' := by
  have hu34 := Tryd.underlying34
  have HB := Aside0.mk (Below.refl w.heap.size w)
  have H : ((spec_Unframe.f k a0).bind fun bt196 => (spec_ReadLog.l0 k (([] : List (S34))) 0 bt196.1 0)) = some (r1, r2) := h
  clear h
  obtain ⟨y193, hy193⟩ : ∃ y_ : List (S34), y_ = (([] : List (S34))) := ⟨_, rfl⟩
  replace H : ((spec_Unframe.f k a0).bind fun bt196 => (spec_ReadLog.l0 k y193 0 bt196.1 0)) = some (r1, r2) := by first | (rw [hy193]; with_reducible exact H) | (have H2_ := (Option.bind_some _ _).symm.trans H; rw [hy193]; with_reducible exact H2_) | (have H2_ := (Option.bind_some _ _).symm.trans H; with_reducible exact H2_) | with_reducible exact H | (rw [hy193]; exact H) | exact H
  have Ny193 := Aside0.mk hy193
  clear hy193
  replace H := Option.bind_eq_some_iff.mp H
  obtain ⟨⟨t196, t197⟩, A20, H⟩ := H
  replace H : (spec_ReadLog.l0 k y193 0 t196 0) = some (r1, r2) := H
  have A2 := Aside0.mk A20
  clear A20
  have H' := Aside0.mk H
  clear H
  go_enter Tryd.func31, Tryd.ntmps31
  go_wp2_with (first | ((with_reducible refine gate_dst (N := 13) rfl ?_); refine Kd.R_lit k34 _ 34 ?hg (N := 13) ?hd (xs := ([] : List (S34))) (inner := []) (ok := fun _ => True) (okp := fun _ => True) ?hr ?hp (fun _ hk => hk) trivial (Below.refl _ _) (Nat.le_refl _) (by simp) ?_; (case hd => rfl); (case hg => rfl); (case hr => first | (go_simp; done) | (go_simp; rfl)); (case hp => exact (Reps.none _ _)); intro v194 w3 ho4 hb hg_ hnew_; clear hg_ hnew_; (first | rw [← Ny193.out] at ho4 | (simp only [Int.reduceToNat] at ho4; rw [← Ny193.out] at ho4)); have n0_ := Aside0.mk (Kd.R_lower ho4 (below_size (pl0 HB.out))); have n1_ := Aside0.mk (below_step (pl0 HB.out) hb); clear HB; have HO195 := n0_; have HB := n1_; clear n0_ n1_; clear hb ho4) | ((with_reducible refine gate_callee (f := 59) rfl ?_); refine goesL_ (some 16) rfl rfl Tryd.func59 (by kernel_rfl) rfl #[.string a0] rfl (by (try simp only [List.map_toArray, List.map_cons, List.map_nil]); first | done | rfl | (simp only [List.length_drop, List.length_take]; rfl)) ?_; (with_reducible refine (spec_Unframe.calls k a0 t196 t197 _ A2.out).mono ?_); rintro e w5 ⟨v198, rfl, ho0, hb⟩; refine ⟨_, rfl, ?_⟩; have n0_ := Aside0.mk (Kd.R_below (by (with_reducible repeat (first | apply Kd.R_alloc | apply Kd.R_drewN | apply Kd.R_drew)); exact HO195.out) hb); have n1_ := Aside0.mk (Kd.R_lower ho0 (below_size (pl0 HB.out))); have n2_ := Aside0.mk (below_step (pl0 HB.out) hb); clear HO195; clear HB; have HO195 := n0_; have HO199 := n1_; have HB := n2_; clear n0_ n1_ n2_; (try clear hb); (try clear hb2); (try clear hk); (try clear hi); (try clear ho0)))
  go_loopg [4, 5, 8] k (fun kq v4 v5 v8 w' => ∃ (x4_1 : List (S34)) (x5_1 : Int) (x8_1 : Int), v5 = .int .i64 x5_1 ∧ v8 = .int .i64 x8_1 ∧ Aside0 (spec_ReadLog.l0 kq x4_1 x5_1 t196 x8_1 = some (r1, r2)) ∧ Aside0 (kq ≤ k) ∧ Aside0 (Kd.R k34 34 w' w.heap.size (fun _ => True) v4 x4_1) ∧ Aside0 (Kd.R Kd.string 9 w' w.heap.size (fun _ => True) v198 t196) ∧ Aside0 (Below w.heap.size w w'))
  case atStart => exact ⟨(y193), (0), (0), eqa, eqa, H', ⟨Nat.le_refl _⟩, ⟨by (with_reducible repeat (first | apply Kd.R_alloc | apply Kd.R_drewN | apply Kd.R_drew)); exact HO195.out⟩, ⟨by (with_reducible repeat (first | apply Kd.R_alloc | apply Kd.R_drewN | apply Kd.R_drew)); exact HO199.out⟩, ⟨pl0 HB.out⟩⟩
  case round =>
   clear H'
   obtain ⟨x4_1, x5_1, x8_1, rfl, rfl, HA, HK1, HO_4, HO_6, HB⟩ := hrel
   cases gk with
   | zero => exact absurd HA.out (by simp [spec_ReadLog.l0])
   | succ k1 =>
    have H := HA.out
    clear HA
    simp only [spec_ReadLog.l0] at H
    by_cases c6 : x8_1 < (t196.length : Int)
    ·rw [if_pos c6] at H
     have c6b0 : decide (x8_1 < (t196.length : Int)) = true := decide_eq_true c6
     clear c6
     by_cases c7 : 0 ≤ x8_1
     ·rw [if_pos c7] at H
      have c7b0 : decide (0 ≤ x8_1) = true := decide_eq_true c7
      clear c7
      replace H := Option.bind_eq_some_iff.mp H
      obtain ⟨⟨t201, t202, t203, t204, t205, t206⟩, A80, H⟩ := H
      replace H : (if t206 = true then ((spec_Frame.f k1 (rdOf ByteArray.empty t196 x8_1)).bind fun bt209 => (if x4_1.length < 2513169434916 then (spec_ReadLog.l0 k1 (x4_1 ++ [(⟨t201, t202, t203, t204, t205⟩ : S34)]) (wrap64 (x5_1 + (bt209.1.size : Int))) t196 (wrap64 (x8_1 + 1))) else (none))) else (some (x4_1, x5_1))) = some (r1, r2) := H
      have A8 := Aside0.mk A80
      clear A80
      by_cases c9 : t206 = true
      ·subst c9
       have H1 : ((spec_Frame.f k1 (rdOf ByteArray.empty t196 x8_1)).bind fun bt209 => (if x4_1.length < 2513169434916 then (spec_ReadLog.l0 k1 (x4_1 ++ [(⟨t201, t202, t203, t204, t205⟩ : S34)]) (wrap64 (x5_1 + (bt209.1.size : Int))) t196 (wrap64 (x8_1 + 1))) else (none))) = some (r1, r2) := by rw [if_pos rfl] at H; exact H
       clear H
       have H := H1
       clear H1
       replace H := Option.bind_eq_some_iff.mp H
       obtain ⟨⟨t209, t210⟩, A100, H⟩ := H
       replace H : (if x4_1.length < 2513169434916 then (spec_ReadLog.l0 k1 (x4_1 ++ [(⟨t201, t202, t203, t204, t205⟩ : S34)]) (wrap64 (x5_1 + (t209.size : Int))) t196 (wrap64 (x8_1 + 1))) else (none)) = some (r1, r2) := H
       have A10 := Aside0.mk A100
       clear A100
       by_cases c11 : x4_1.length < 2513169434916
       ·rw [if_pos c11] at H
        have LMc11 := Aside0.mk c11
        clear c11
        obtain ⟨y211, hy211⟩ : ∃ y_ : List (S34), y_ = (x4_1 ++ [(⟨t201, t202, t203, t204, t205⟩ : S34)]) := ⟨_, rfl⟩
        replace H : (spec_ReadLog.l0 k1 y211 (wrap64 (x5_1 + (t209.size : Int))) t196 (wrap64 (x8_1 + 1))) = some (r1, r2) := by first | (rw [hy211]; with_reducible exact H) | (have H2_ := (Option.bind_some _ _).symm.trans H; rw [hy211]; with_reducible exact H2_) | (have H2_ := (Option.bind_some _ _).symm.trans H; with_reducible exact H2_) | with_reducible exact H | (rw [hy211]; exact H) | exact H
        have Ny211 := Aside0.mk hy211
        clear hy211
        have H' := Aside0.mk H
        clear H
        obtain ⟨Ao12, co12, eo12⟩ := Kd.R_slice HO_6.out
        subst eo12
        have p200 : 0 ≤ (x8_1 : Int) := oda
        have q200 : x8_1 < (t196.length : Int) := oda
        obtain ⟨ad200, e200, hx200_0⟩ := Kd.at_string (Kd.R_reads' HO_6.out).2.2 x8_1 p200 q200
        cases e200
        replace p200 := eq_true p200
        replace q200 := eq_true q200
        go_wp2_with (first | ((with_reducible refine gate_callee (f := 23) rfl ?_); refine goesL_ (some 30) rfl rfl Tryd.func23 (by kernel_rfl) rfl #[.string (rdOf ByteArray.empty t196 x8_1)] rfl (by (try simp only [List.map_toArray, List.map_cons, List.map_nil]); first | done | rfl | (simp only [List.length_drop, List.length_take]; rfl)) ?_; (with_reducible refine (spec_ReadEdit.calls k1 (rdOf ByteArray.empty t196 x8_1) t201 t202 t203 t204 t205 true _ A8.out).mono ?_); rintro e w13 ⟨rfl, hb⟩; refine ⟨_, rfl, ?_⟩; have n0_ := Aside0.mk (Kd.R_below (by (with_reducible repeat (first | apply Kd.R_alloc | apply Kd.R_drewN | apply Kd.R_drew)); exact HO_4.out) hb); have n1_ := Aside0.mk (Kd.R_below (by (with_reducible repeat (first | apply Kd.R_alloc | apply Kd.R_drewN | apply Kd.R_drew)); exact HO_6.out) hb); have n2_ := Aside0.mk (below_step (pl0 HB.out) hb); clear HO_4; clear HO_6; clear HB; have HO_4 := n0_; have HO_6 := n1_; have HB := n2_; clear n0_ n1_ n2_; (try clear hb); (try clear hb2); (try clear hk); (try clear hi)) | ((with_reducible refine gate_dst (N := 9) rfl ?_); refine box_event ?hg (N := 9) ?hd (cs := #[.int .i64 0, .string (⟨#[]⟩ : ByteArray), .string (⟨#[]⟩ : ByteArray), .int .i64 0, .int .i64 0]) (t := 34) ?hr ?_; (case hd => rfl); (case hg => rfl); (case hr => first | (go_simp; done) | (go_simp; rfl)); intro gb207 hg w14 hbox hb; have n0_ := Aside0.mk (Kd.R_below (Kd.R_elderB (by (with_reducible repeat (first | apply Kd.R_alloc | apply Kd.R_drewN | apply Kd.R_drew)); exact HO_4.out) gb207 (Nat.le_of_eq hg.symm)) hb); have n1_ := Aside0.mk (Kd.R_below (by (with_reducible repeat (first | apply Kd.R_alloc | apply Kd.R_drewN | apply Kd.R_drew)); exact HO_6.out) hb); have n2_ := Aside0.mk (below_step (pl0 HB.out) hb); have n3_ := Aside0.mk (hbox); have n4_ := Aside0.mk ((by rw [hg]; exact (below_size (pl0 HB.out)) : w.heap.size ≤ gb207)); have n5_ := Aside0.mk ((by rw [hg]; exact (below_size (pl0 HB.out)) : w.heap.size ≤ gb207)); clear HO_4; clear HO_6; clear HB; have HO_4 := n0_; have HO_6 := n1_; have HB := n2_; have BK207 := n3_; have GW207 := n4_; have GE207 := n5_; clear n0_ n1_ n2_ n3_ n4_ n5_; clear hb hbox hg; have hcz15_0 : w14.cell? ⟨gb207, 0, none⟩ = some (.int .i64 0) := (blk_cell BK207.out 0).trans rfl; have hcz15_1 : w14.cell? ⟨gb207, 1, none⟩ = some (.string (⟨#[]⟩ : ByteArray)) := (blk_cell BK207.out 1).trans rfl; have hcz15_2 : w14.cell? ⟨gb207, 2, none⟩ = some (.string (⟨#[]⟩ : ByteArray)) := (blk_cell BK207.out 2).trans rfl; have hcz15_3 : w14.cell? ⟨gb207, 3, none⟩ = some (.int .i64 0) := (blk_cell BK207.out 3).trans rfl; have hcz15_4 : w14.cell? ⟨gb207, 4, none⟩ = some (.int .i64 0) := (blk_cell BK207.out 4).trans rfl; have hfz15_0 := blk_frozen BK207.out 0; have hfz15_1 := blk_frozen BK207.out 1; have hfz15_2 := blk_frozen BK207.out 2; have hfz15_3 := blk_frozen BK207.out 3; have hfz15_4 := blk_frozen BK207.out 4; have p208 : 0 ≤ (x8_1 : Int) := oda; have q208 : x8_1 < (t196.length : Int) := oda; obtain ⟨ad208, e208, hx208_0⟩ := Kd.at_string (Kd.R_reads' HO_6.out).2.2 x8_1 p208 q208; obtain rfl : ad200 = ad208 := (by injection e208); have hn208_0 : ad200.block ≠ gb207 := Kd.own_blk (Kd.R_ne HO_6.out BK207.out (by decide)); have hn208_1 : ad200.block ≠ gb207 := Kd.own_blk (Kd.R_ne HO_6.out BK207.out (by decide)); have hn208_2 : ad200.block ≠ gb207 := Kd.own_blk (Kd.R_ne HO_6.out BK207.out (by decide)); have hn208_3 : ad200.block ≠ gb207 := Kd.own_blk (Kd.R_ne HO_6.out BK207.out (by decide)); have hn208_4 : ad200.block ≠ gb207 := Kd.own_blk (Kd.R_ne HO_6.out BK207.out (by decide)); replace hx208_0 := (cell_far (p := ⟨gb207, 0, none⟩) (by first | (rw [add_block]; exact hn208_0) | (show (Addr.add _ _).block ≠ _; rw [add_block]; exact hn208_0) | exact hn208_0) (.int .i64 t201)).trans hx208_0; replace hx208_0 := (cell_far (p := ⟨gb207, 1, none⟩) (by first | (rw [add_block]; exact hn208_1) | (show (Addr.add _ _).block ≠ _; rw [add_block]; exact hn208_1) | exact hn208_1) (.string t202)).trans hx208_0; replace hx208_0 := (cell_far (p := ⟨gb207, 2, none⟩) (by first | (rw [add_block]; exact hn208_2) | (show (Addr.add _ _).block ≠ _; rw [add_block]; exact hn208_2) | exact hn208_2) (.string t203)).trans hx208_0; replace hx208_0 := (cell_far (p := ⟨gb207, 3, none⟩) (by first | (rw [add_block]; exact hn208_3) | (show (Addr.add _ _).block ≠ _; rw [add_block]; exact hn208_3) | exact hn208_3) (.int .i64 t204)).trans hx208_0; replace hx208_0 := (cell_far (p := ⟨gb207, 4, none⟩) (by first | (rw [add_block]; exact hn208_4) | (show (Addr.add _ _).block ≠ _; rw [add_block]; exact hn208_4) | exact hn208_4) (.int .i64 t205)).trans hx208_0; clear hn208_0; clear hn208_1; clear hn208_2; clear hn208_3; clear hn208_4; replace p208 := eq_true p208; replace q208 := eq_true q208) | ((with_reducible refine gate_callee (f := 56) rfl ?_); refine goesL_ (some 42) rfl rfl Tryd.func56 (by kernel_rfl) rfl #[.string (rdOf ByteArray.empty t196 x8_1)] rfl (by (try simp only [List.map_toArray, List.map_cons, List.map_nil]); first | done | rfl | (simp only [List.length_drop, List.length_take]; rfl)) ?_; (with_reducible refine (spec_Frame.calls k1 (rdOf ByteArray.empty t196 x8_1) t209 t210 _ A10.out).mono ?_); rintro e w16 ⟨rfl, hb⟩; refine ⟨_, rfl, ?_⟩; have n0_ := Aside0.mk (Kd.R_below (by (with_reducible repeat (first | apply Kd.R_alloc | apply Kd.R_drewN | apply Kd.R_drew)); exact (Kd.R_mono (Kd.R_far (p := ⟨gb207, 4, none⟩) (Kd.R_far (p := ⟨gb207, 3, none⟩) (Kd.R_far (p := ⟨gb207, 2, none⟩) (Kd.R_far (p := ⟨gb207, 1, none⟩) (Kd.R_far (p := ⟨gb207, 0, none⟩) (Kd.R_mono HO_4.out (fun k_ hk => (⟨hk, hk.2⟩ : _ ∧ k_ ≠ gb207))) (fun _ hk => hk.2) (.int .i64 t201)) (fun _ hk => hk.2) (.string t202)) (fun _ hk => hk.2) (.string t203)) (fun _ hk => hk.2) (.int .i64 t204)) (fun _ hk => hk.2) (.int .i64 t205)) (fun _ h_ => h_.1))) hb); have n1_ := Aside0.mk (Kd.R_below (by (with_reducible repeat (first | apply Kd.R_alloc | apply Kd.R_drewN | apply Kd.R_drew)); exact (Kd.R_mono (Kd.R_far (p := ⟨gb207, 4, none⟩) (Kd.R_far (p := ⟨gb207, 3, none⟩) (Kd.R_far (p := ⟨gb207, 2, none⟩) (Kd.R_far (p := ⟨gb207, 1, none⟩) (Kd.R_far (p := ⟨gb207, 0, none⟩) (Kd.R_types HO_6.out BK207.out (by decide)) (fun _ hk => hk.2) (.int .i64 t201)) (fun _ hk => hk.2) (.string t202)) (fun _ hk => hk.2) (.string t203)) (fun _ hk => hk.2) (.int .i64 t204)) (fun _ hk => hk.2) (.int .i64 t205)) (fun _ h_ => h_.1))) hb); have n2_ := Aside0.mk (blk_below (g := gb207) (o := .cells #[.int .i64 t201, .string t202, .string t203, .int .i64 t204, .int .i64 t205] 34 (0, 0)) (by (with_reducible repeat (first | refine blk_drewN ?_ _ | refine blk_drew ?_ | refine blk_alloc ?_ _)); refine blk_put (cs := #[.int .i64 t201, .string t202, .string t203, .int .i64 t204, .int .i64 0]) ?_ 4 _ rfl; (with_reducible repeat (first | refine blk_drewN ?_ _ | refine blk_drew ?_ | refine blk_alloc ?_ _)); refine blk_put (cs := #[.int .i64 t201, .string t202, .string t203, .int .i64 0, .int .i64 0]) ?_ 3 _ rfl; (with_reducible repeat (first | refine blk_drewN ?_ _ | refine blk_drew ?_ | refine blk_alloc ?_ _)); refine blk_put (cs := #[.int .i64 t201, .string t202, .string (⟨#[]⟩ : ByteArray), .int .i64 0, .int .i64 0]) ?_ 2 _ rfl; (with_reducible repeat (first | refine blk_drewN ?_ _ | refine blk_drew ?_ | refine blk_alloc ?_ _)); refine blk_put (cs := #[.int .i64 t201, .string (⟨#[]⟩ : ByteArray), .string (⟨#[]⟩ : ByteArray), .int .i64 0, .int .i64 0]) ?_ 1 _ rfl; (with_reducible repeat (first | refine blk_drewN ?_ _ | refine blk_drew ?_ | refine blk_alloc ?_ _)); refine blk_put (cs := #[.int .i64 0, .string (⟨#[]⟩ : ByteArray), .string (⟨#[]⟩ : ByteArray), .int .i64 0, .int .i64 0]) ?_ 0 _ rfl; (with_reducible repeat (first | refine blk_drewN ?_ _ | refine blk_drew ?_ | refine blk_alloc ?_ _)); exact BK207.out) hb); have n3_ := Aside0.mk (below_step (pl1 HB.out GE207.out) hb); clear HO_4; clear HO_6; clear BK207; clear HB; have HO_4 := n0_; have HO_6 := n1_; have BK207 := n2_; have HB := n3_; clear n0_ n1_ n2_ n3_; (try clear hb); (try clear hb2); (try clear hk); (try clear hi); have hcz17_0 : w16.cell? ⟨gb207, 0, none⟩ = some (.int .i64 t201) := (blk_cell BK207.out 0).trans rfl; have hcz17_1 : w16.cell? ⟨gb207, 1, none⟩ = some (.string t202) := (blk_cell BK207.out 1).trans rfl; have hcz17_2 : w16.cell? ⟨gb207, 2, none⟩ = some (.string t203) := (blk_cell BK207.out 2).trans rfl; have hcz17_3 : w16.cell? ⟨gb207, 3, none⟩ = some (.int .i64 t204) := (blk_cell BK207.out 3).trans rfl; have hcz17_4 : w16.cell? ⟨gb207, 4, none⟩ = some (.int .i64 t205) := (blk_cell BK207.out 4).trans rfl; have hfz17_0 := blk_frozen BK207.out 0; have hfz17_1 := blk_frozen BK207.out 1; have hfz17_2 := blk_frozen BK207.out 2; have hfz17_3 := blk_frozen BK207.out 3; have hfz17_4 := blk_frozen BK207.out 4) | ((with_reducible refine gate_builtin (b := .append) (xs := #[.tmp 45, .tmp 47]) rfl ?_); at_builtin; refine Kd.R_append k34 (w0 := w) w.heap.size rfl (.tmp 45) (.tmp 47) 47 34 (.agg #[(.int .i64 0), (.string ⟨#[]⟩), (.string ⟨#[]⟩), (.int .i64 0), (.int .i64 0)]) 56 rfl Tryd.underlying47 info34 rfl (by decide) (by omega) u4 x4_1 (⟨t201, t202, t203, t204, t205⟩ : S34) [.int .i64 t201, .string t202, .string t203, .int .i64 t204, .int .i64 t205] (fun k_ => k_ ≠ gb207) (fun _ => False) rfl rfl ?aP (fun _ hk => hk.elim) ?aF ?aO ?aB ?aS ?aL ?_; (case aP => exact k34_mkM _ _ _ (⟨t201, t202, t203, t204, t205⟩ : S34)); (case aB => exact (pl1 HB.out GE207.out)); (case aF => exact (fun k_ hk => Kd.freshB (g := gb207) (o := .cells #[.int .i64 t201, .string t202, .string t203, .int .i64 t204, .int .i64 t205] 34 (0, 0)) (pk BK207.out) k_ hk)); (case aO => exact (by (with_reducible repeat (first | apply Kd.R_alloc | apply Kd.R_drewN | apply Kd.R_drew)); exact Kd.R_mono HO_4.out (fun _ hk => hk.2))); (case aS => exact (below_size (pl1 HB.out GE207.out))); (case aL => have := LMc11.out; omega); intro v212 w18 ho hb hg hat; rw [← Ny211.out] at ho; have n0_ := Aside0.mk (Kd.R_over' (by (with_reducible repeat (first | apply Kd.R_alloc | apply Kd.R_drewN | apply Kd.R_drew)); exact HO_6.out) (Kd.R_typed (by (with_reducible repeat (first | apply Kd.R_alloc | apply Kd.R_drewN | apply Kd.R_drew)); exact HO_4.out)) (by decide) hg); have n1_ := Aside0.mk (blk_grown (g := gb207) (o := .cells #[.int .i64 t201, .string t202, .string t203, .int .i64 t204, .int .i64 t205] 34 (0, 0)) (pk BK207.out) hg (Kd.R_away HO_4.out (fun _ hk => hk.2))); have n2_ := Aside0.mk (hb); have n3_ := Aside0.mk (ho); clear HO_6; clear BK207; clear HB; clear HO_4; have HO_6 := n0_; have BK207 := n1_; have HB := n2_; have HO213 := n3_; clear n0_ n1_ n2_ n3_; clear ho hb hg hat))
        go_roundg k1
        case measure => have := HK1.out; omega
        case rel => exact ⟨(y211), (wrap64 (x5_1 + (t209.size : Int))), (wrap64 (x8_1 + 1)), eqa, eqa, H', ⟨by have := HK1.out; omega⟩, ⟨by (with_reducible repeat (first | apply Kd.R_alloc | apply Kd.R_drewN | apply Kd.R_drew)); exact Kd.R_mono HO213.out (fun _ hk => trivial)⟩, ⟨by (with_reducible repeat (first | apply Kd.R_alloc | apply Kd.R_drewN | apply Kd.R_drew)); exact HO_6.out⟩, ⟨pl1 HB.out GE207.out⟩⟩
       ·rw [if_neg c11] at H
        exact absurd H (by simp)
      ·replace c9 := Bool.eq_false_iff.mpr c9
       subst c9
       have H1 : (some (x4_1, x5_1)) = some (r1, r2) := by rw [if_neg (show ¬ (false = true) by decide)] at H; exact H
       clear H
       have H := H1
       clear H1
       simp only [Option.some.injEq, Prod.mk.injEq] at H
       obtain ⟨rfl, rfl⟩ := H
       obtain ⟨Ao19, co19, eo19⟩ := Kd.R_slice HO_6.out
       subst eo19
       have p200 : 0 ≤ (x8_1 : Int) := oda
       have q200 : x8_1 < (t196.length : Int) := oda
       obtain ⟨ad200, e200, hx200_0⟩ := Kd.at_string (Kd.R_reads' HO_6.out).2.2 x8_1 p200 q200
       cases e200
       replace p200 := eq_true p200
       replace q200 := eq_true q200
       go_wp2_with (first | ((with_reducible refine gate_callee (f := 23) rfl ?_); refine goesL_ (some 30) rfl rfl Tryd.func23 (by kernel_rfl) rfl #[.string (rdOf ByteArray.empty t196 x8_1)] rfl (by (try simp only [List.map_toArray, List.map_cons, List.map_nil]); first | done | rfl | (simp only [List.length_drop, List.length_take]; rfl)) ?_; (with_reducible refine (spec_ReadEdit.calls k1 (rdOf ByteArray.empty t196 x8_1) t201 t202 t203 t204 t205 false _ A8.out).mono ?_); rintro e w20 ⟨rfl, hb⟩; refine ⟨_, rfl, ?_⟩; have n0_ := Aside0.mk (Kd.R_below (by (with_reducible repeat (first | apply Kd.R_alloc | apply Kd.R_drewN | apply Kd.R_drew)); exact HO_4.out) hb); have n1_ := Aside0.mk (Kd.R_below (by (with_reducible repeat (first | apply Kd.R_alloc | apply Kd.R_drewN | apply Kd.R_drew)); exact HO_6.out) hb); have n2_ := Aside0.mk (below_step (pl0 HB.out) hb); clear HO_4; clear HO_6; clear HB; have HO_4 := n0_; have HO_6 := n1_; have HB := n2_; clear n0_ n1_ n2_; (try clear hb); (try clear hb2); (try clear hk); (try clear hi)) | ((with_reducible refine gate_dst (N := 9) rfl ?_); refine box_event ?hg (N := 9) ?hd (cs := #[.int .i64 0, .string (⟨#[]⟩ : ByteArray), .string (⟨#[]⟩ : ByteArray), .int .i64 0, .int .i64 0]) (t := 34) ?hr ?_; (case hd => rfl); (case hg => rfl); (case hr => first | (go_simp; done) | (go_simp; rfl)); intro gb207 hg w21 hbox hb; have n0_ := Aside0.mk (Kd.R_below (Kd.R_elderB (by (with_reducible repeat (first | apply Kd.R_alloc | apply Kd.R_drewN | apply Kd.R_drew)); exact HO_4.out) gb207 (Nat.le_of_eq hg.symm)) hb); have n1_ := Aside0.mk (Kd.R_below (by (with_reducible repeat (first | apply Kd.R_alloc | apply Kd.R_drewN | apply Kd.R_drew)); exact HO_6.out) hb); have n2_ := Aside0.mk (below_step (pl0 HB.out) hb); have n3_ := Aside0.mk (hbox); have n4_ := Aside0.mk ((by rw [hg]; exact (below_size (pl0 HB.out)) : w.heap.size ≤ gb207)); have n5_ := Aside0.mk ((by rw [hg]; exact (below_size (pl0 HB.out)) : w.heap.size ≤ gb207)); clear HO_4; clear HO_6; clear HB; have HO_4 := n0_; have HO_6 := n1_; have HB := n2_; have BK207 := n3_; have GW207 := n4_; have GE207 := n5_; clear n0_ n1_ n2_ n3_ n4_ n5_; clear hb hbox hg; have hcz22_0 : w21.cell? ⟨gb207, 0, none⟩ = some (.int .i64 0) := (blk_cell BK207.out 0).trans rfl; have hcz22_1 : w21.cell? ⟨gb207, 1, none⟩ = some (.string (⟨#[]⟩ : ByteArray)) := (blk_cell BK207.out 1).trans rfl; have hcz22_2 : w21.cell? ⟨gb207, 2, none⟩ = some (.string (⟨#[]⟩ : ByteArray)) := (blk_cell BK207.out 2).trans rfl; have hcz22_3 : w21.cell? ⟨gb207, 3, none⟩ = some (.int .i64 0) := (blk_cell BK207.out 3).trans rfl; have hcz22_4 : w21.cell? ⟨gb207, 4, none⟩ = some (.int .i64 0) := (blk_cell BK207.out 4).trans rfl; have hfz22_0 := blk_frozen BK207.out 0; have hfz22_1 := blk_frozen BK207.out 1; have hfz22_2 := blk_frozen BK207.out 2; have hfz22_3 := blk_frozen BK207.out 3; have hfz22_4 := blk_frozen BK207.out 4))
       go_ret2
       exact ⟨_, erq, by (with_reducible repeat (first | apply Kd.R_alloc | apply Kd.R_drewN | apply Kd.R_drew)); exact Kd.R_mono (Kd.R_far (p := ⟨gb207, 4, none⟩) (Kd.R_far (p := ⟨gb207, 3, none⟩) (Kd.R_far (p := ⟨gb207, 2, none⟩) (Kd.R_far (p := ⟨gb207, 1, none⟩) (Kd.R_far (p := ⟨gb207, 0, none⟩) (Kd.R_mono HO_4.out (fun k_ hk => (⟨hk, hk.2⟩ : _ ∧ k_ ≠ gb207))) (fun _ hk => hk.2) (.int .i64 t201)) (fun _ hk => hk.2) (.string t202)) (fun _ hk => hk.2) (.string t203)) (fun _ hk => hk.2) (.int .i64 t204)) (fun _ hk => hk.2) (.int .i64 t205)) (fun _ hk => trivial), pl1 HB.out GE207.out⟩
     ·rw [if_neg c7] at H
      exact absurd H (by simp)
    ·rw [if_neg c6] at H
     have c6b0 : decide (x8_1 < (t196.length : Int)) = false := decide_eq_false c6
     clear c6
     simp only [Option.some.injEq, Prod.mk.injEq] at H
     obtain ⟨rfl, rfl⟩ := H
     obtain ⟨Ao23, co23, eo23⟩ := Kd.R_slice HO_6.out
     subst eo23
     go_wp2
     go_ret2
     exact ⟨_, erq, by (with_reducible repeat (first | apply Kd.R_alloc | apply Kd.R_drewN | apply Kd.R_drew)); exact HO_4.out, pl0 HB.out⟩
mutual
def impl_Unframe.l0 : Nat → ByteArray → List ByteArray → Int → Option (List ByteArray × Int)
  | 0, _, _, _ => none
  | k + 1, x0, x4, x5 => (impl_ReadVar.f k x0 x5).bind fun bt288 => (if bt288.2.2 = true then (impl_Unframe.j1 k x0 x4 x5 bt288.1 bt288.2.1 (decide (bt288.1 > (wrap64 ((wrap64 ((x0.size : Int) - bt288.2.1)) - 4))))) else (impl_Unframe.j1 k x0 x4 x5 bt288.1 bt288.2.1 true))
def impl_Unframe.j1 : Nat → ByteArray → List ByteArray → Int → Int → Int → Bool → Option (List ByteArray × Int)
  | 0, _, _, _, _, _, _ => none
  | k + 1, x0, x4, x5, x6, x7, x32 => if x32 = true then (some (x4, x5)) else (if 0 ≤ (wrap64 (x7 + 4)) then (if (wrap64 (x7 + 4)) ≤ (wrap64 ((wrap64 (x7 + 4)) + x6)) then (if (wrap64 ((wrap64 (x7 + 4)) + x6)) ≤ (x0.size : Int) then ((impl_Frame.f k (x0.extract ((wrap64 (x7 + 4)) : Int).toNat ((wrap64 ((wrap64 (x7 + 4)) + x6)) : Int).toNat)).bind fun bt291 => (if bt291.2 = true then (if 0 ≤ x5 then (if x5 ≤ (wrap64 ((wrap64 (x7 + 4)) + x6)) then (if bt291.1.toList = (x0.extract (x5 : Int).toNat ((wrap64 ((wrap64 (x7 + 4)) + x6)) : Int).toNat).toList then (if x4.length < 8796093022208 then (impl_Unframe.l0 k x0 (x4 ++ [x0.extract ((wrap64 (x7 + 4)) : Int).toNat ((wrap64 ((wrap64 (x7 + 4)) + x6)) : Int).toNat]) (wrap64 ((wrap64 (x7 + 4)) + x6))) else (none)) else (some (x4, x5))) else (none)) else (none)) else (some (x4, x5)))) else (none)) else (none)) else (none))
end
def impl_Unframe.f (k : Nat) (a0 : ByteArray) : Option (List ByteArray × Int) := if (a0.size : Int) > 20000 then (some (([] : List ByteArray), 0)) else (impl_Unframe.l0 k a0 ([] : List ByteArray) 0)
set_option maxHeartbeats 8000000 in
set_option maxRecDepth 100000 in
theorem impl_Unframe.calls (k : Nat) (a0 : ByteArray) (r1 : List ByteArray) (r2 : Int) (w : World) (h : impl_Unframe.f k a0 = some (r1, r2)) :
    Calls Tryd.prog 60 #[.string a0] w fun e w' => ∃ v0_ : Value, e = .returned (.tuple #[v0_, .int .i64 r2]) ∧ Kd.R Kd.string 9 w' w.heap.size (fun _ => True) v0_ r1 ∧ Below w.heap.size w w' := by
  have HB := Aside0.mk (Below.refl w.heap.size w)
  have H : (if (a0.size : Int) > 20000 then (some (([] : List ByteArray), 0)) else (impl_Unframe.l0 k a0 ([] : List ByteArray) 0)) = some (r1, r2) := h
  clear h
  by_cases c2 : (a0.size : Int) > 20000
  ·rw [if_pos c2] at H
   have c2b0 : decide (20000 < (a0.size : Int)) = true := decide_eq_true c2
   have c2b1 : decide (20000 < a0.size) = true := decide_eq_true (by omega)
   clear c2
   simp only [Option.some.injEq, Prod.mk.injEq] at H
   obtain ⟨rfl, rfl⟩ := H
   go_enter Tryd.func60, Tryd.ntmps60
   go_wp2
   go_ret2
   exact ⟨_, erq, by first | exact Kd.R_nil _ _ _ _ _ | exact Kd.N_nil _ _ _ _ _ | exact Kd.V_nil _ _ _ _ _ | exact Kd.Q_nil _ _ _ _ _ | exact Kd.S_nil _ _ _ _ _, pl0 HB.out⟩
  ·rw [if_neg c2] at H
   have c2b0 : decide (20000 < (a0.size : Int)) = false := decide_eq_false c2
   have c2b1 : decide (20000 < a0.size) = false := decide_eq_false (by omega)
   clear c2
   have H' := Aside0.mk H
   clear H
   go_enter Tryd.func60, Tryd.ntmps60
   go_wp2
   go_loopg [4, 5] k (fun kq v4 v5 w' => ∃ (x4_1 : List ByteArray) (x5_1 : Int), v5 = .int .i64 x5_1 ∧ Aside0 (impl_Unframe.l0 kq a0 x4_1 x5_1 = some (r1, r2)) ∧ Aside0 (kq ≤ k) ∧ Aside0 (Kd.R Kd.string 9 w' w.heap.size (fun _ => True) v4 x4_1) ∧ Aside0 (Below w.heap.size w w'))
   case atStart => exact ⟨(([] : List ByteArray)), (0), eqa, H', ⟨Nat.le_refl _⟩, ⟨by first | exact Kd.R_nil _ _ _ _ _ | exact Kd.N_nil _ _ _ _ _ | exact Kd.V_nil _ _ _ _ _ | exact Kd.Q_nil _ _ _ _ _ | exact Kd.S_nil _ _ _ _ _⟩, ⟨pl0 HB.out⟩⟩
   case round =>
    clear H'
    try clear c2; try clear c2b0; try clear c2b1
    obtain ⟨x4_1, x5_1, rfl, HA, HK1, HO_4, HB⟩ := hrel
    cases gk with
    | zero => exact absurd HA.out (by simp [impl_Unframe.l0])
    | succ k1 =>
     have H := HA.out
     clear HA
     simp only [impl_Unframe.l0] at H
     replace H := Option.bind_eq_some_iff.mp H
     obtain ⟨⟨t288, t289, t290⟩, A30, H⟩ := H
     replace H : (if t290 = true then (impl_Unframe.j1 k1 a0 x4_1 x5_1 t288 t289 (decide (t288 > (wrap64 ((wrap64 ((a0.size : Int) - t289)) - 4))))) else (impl_Unframe.j1 k1 a0 x4_1 x5_1 t288 t289 true)) = some (r1, r2) := H
     have A3 := Aside0.mk A30
     clear A30
     have HC4 := Aside0.mk H
     clear H
     go_upto_region 6 with (first | ((with_reducible refine gate_callee (f := 55) rfl ?_); refine goesL_ (some 18) rfl rfl Tryd.func55 (by kernel_rfl) rfl #[.string a0, .int .i64 x5_1] rfl (by (try simp only [List.map_toArray, List.map_cons, List.map_nil]); first | done | rfl | (simp only [List.length_drop, List.length_take]; rfl)) ?_; (with_reducible refine (impl_ReadVar.calls k1 a0 x5_1 t288 t289 t290 _ A3.out).mono ?_); rintro e w5 ⟨rfl, hb⟩; refine ⟨_, rfl, ?_⟩; have n0_ := Aside0.mk (Kd.R_below (by (with_reducible repeat (first | apply Kd.R_alloc | apply Kd.R_drewN | apply Kd.R_drew)); exact HO_4.out) hb); have n1_ := Aside0.mk (below_step (pl0 HB.out) hb); clear HO_4; clear HB; have HO_4 := n0_; have HB := n1_; clear n0_ n1_; (try clear hb); (try clear hb2); (try clear hk); (try clear hi)))
     (try simp only [Act.put, List.setIfInBounds_toArray, List.set_cons_zero, List.set_cons_succ])
     go_cut [32] (fun v32 wc => ∃ (kq : Nat) (x32_3 : Bool), v32 = .bool x32_3 ∧ Aside0 (impl_Unframe.j1 kq a0 x4_1 x5_1 t288 t289 x32_3 = some (r1, r2)) ∧ Aside0 (kq ≤ k1) ∧ Aside0 (Kd.R Kd.string 9 wc w.heap.size (fun _ => True) u4 x4_1) ∧ Aside0 (Below w.heap.size w wc))
     case first =>
      have H := HC4.out
      clear HC4
      by_cases c6 : t290 = true
      ·subst c6
       have H1 : (impl_Unframe.j1 k1 a0 x4_1 x5_1 t288 t289 (decide (t288 > (wrap64 ((wrap64 ((a0.size : Int) - t289)) - 4))))) = some (r1, r2) := by rw [if_pos rfl] at H; exact H
       clear H
       have H := H1
       clear H1
       have H' := Aside0.mk H
       clear H
       go_wp2
       go_meet
       case rel => exact ⟨_, (decide (t288 > (wrap64 ((wrap64 ((a0.size : Int) - t289)) - 4)))), eqa, H', ⟨by have := HK1.out; first | omega | exact Nat.le_refl _⟩, ⟨by (with_reducible repeat (first | apply Kd.R_alloc | apply Kd.R_drewN | apply Kd.R_drew)); exact HO_4.out⟩, ⟨pl0 HB.out⟩⟩
      ·replace c6 := Bool.eq_false_iff.mpr c6
       subst c6
       have H1 : (impl_Unframe.j1 k1 a0 x4_1 x5_1 t288 t289 true) = some (r1, r2) := by rw [if_neg (show ¬ (false = true) by decide)] at H; exact H
       clear H
       have H := H1
       clear H1
       have H' := Aside0.mk H
       clear H
       go_wp2
       go_meet
       case rel => exact ⟨_, (true), eqa, H', ⟨by have := HK1.out; first | omega | exact Nat.le_refl _⟩, ⟨by (with_reducible repeat (first | apply Kd.R_alloc | apply Kd.R_drewN | apply Kd.R_drew)); exact HO_4.out⟩, ⟨pl0 HB.out⟩⟩
     case rest =>
      clear HC4
      obtain ⟨kq, x32_3, rfl, HA, HJ3, HO_4, HB⟩ := hcut
      cases kq with
      | zero => exact absurd HA.out (by simp [impl_Unframe.j1])
      | succ kj3 =>
       have H := HA.out
       clear HA
       simp only [impl_Unframe.j1] at H
       by_cases c7 : x32_3 = true
       ·subst c7
        have H1 : (some (x4_1, x5_1)) = some (r1, r2) := by rw [if_pos rfl] at H; exact H
        clear H
        have H := H1
        clear H1
        simp only [Option.some.injEq, Prod.mk.injEq] at H
        obtain ⟨rfl, rfl⟩ := H
        go_wp2
        go_ret2
        exact ⟨_, erq, by (with_reducible repeat (first | apply Kd.R_alloc | apply Kd.R_drewN | apply Kd.R_drew)); exact HO_4.out, pl0 HB.out⟩
       ·replace c7 := Bool.eq_false_iff.mpr c7
        subst c7
        have H1 : (if 0 ≤ (wrap64 (t289 + 4)) then (if (wrap64 (t289 + 4)) ≤ (wrap64 ((wrap64 (t289 + 4)) + t288)) then (if (wrap64 ((wrap64 (t289 + 4)) + t288)) ≤ (a0.size : Int) then ((impl_Frame.f kj3 (a0.extract ((wrap64 (t289 + 4)) : Int).toNat ((wrap64 ((wrap64 (t289 + 4)) + t288)) : Int).toNat)).bind fun bt291 => (if bt291.2 = true then (if 0 ≤ x5_1 then (if x5_1 ≤ (wrap64 ((wrap64 (t289 + 4)) + t288)) then (if bt291.1.toList = (a0.extract (x5_1 : Int).toNat ((wrap64 ((wrap64 (t289 + 4)) + t288)) : Int).toNat).toList then (if x4_1.length < 8796093022208 then (impl_Unframe.l0 kj3 a0 (x4_1 ++ [a0.extract ((wrap64 (t289 + 4)) : Int).toNat ((wrap64 ((wrap64 (t289 + 4)) + t288)) : Int).toNat]) (wrap64 ((wrap64 (t289 + 4)) + t288))) else (none)) else (some (x4_1, x5_1))) else (none)) else (none)) else (some (x4_1, x5_1)))) else (none)) else (none)) else (none)) = some (r1, r2) := by rw [if_neg (show ¬ (false = true) by decide)] at H; exact H
        clear H
        have H := H1
        clear H1
        obtain ⟨ji8, hji8⟩ : ∃ j_ : Int, (wrap64 (t289 + 4)) = j_ := ⟨_, rfl⟩
        replace H : (if 0 ≤ (ji8) then (if (ji8) ≤ (wrap64 ((ji8) + t288)) then (if (wrap64 ((ji8) + t288)) ≤ (a0.size : Int) then ((impl_Frame.f kj3 (a0.extract ((ji8) : Int).toNat ((wrap64 ((ji8) + t288)) : Int).toNat)).bind fun bt291 => (if bt291.2 = true then (if 0 ≤ x5_1 then (if x5_1 ≤ (wrap64 ((ji8) + t288)) then (if bt291.1.toList = (a0.extract (x5_1 : Int).toNat ((wrap64 ((ji8) + t288)) : Int).toNat).toList then (if x4_1.length < 8796093022208 then (impl_Unframe.l0 kj3 a0 (x4_1 ++ [a0.extract ((ji8) : Int).toNat ((wrap64 ((ji8) + t288)) : Int).toNat]) (wrap64 ((ji8) + t288))) else (none)) else (some (x4_1, x5_1))) else (none)) else (none)) else (some (x4_1, x5_1)))) else (none)) else (none)) else (none)) = some (r1, r2) := by first | (rw [hji8] at H; exact H) | (simp only [hji8] at H ⊢; exact H)
        have hji8w : (IntKind.i64.wrap (t289 + 4)) = ji8 := (i64_w _).trans hji8
        by_cases c9 : 0 ≤ (ji8)
        ·rw [if_pos c9] at H
         have c9b0 := eq_true c9
         have c9b1 : decide (0 ≤ (ji8)) = true := decide_eq_true c9
         clear c9
         by_cases c10 : (ji8) ≤ (wrap64 ((ji8) + t288))
         ·rw [if_pos c10] at H
          have c10b0 := eq_true c10
          have c10b1 : decide ((ji8) ≤ (wrap64 ((ji8) + t288))) = true := decide_eq_true c10
          by_cases c11 : (wrap64 ((ji8) + t288)) ≤ (a0.size : Int)
          ·rw [if_pos c11] at H
           have c11b0 := eq_true c11
           have c11b1 : decide ((wrap64 ((ji8) + t288)) ≤ (a0.size : Int)) = true := decide_eq_true c11
           replace H := Option.bind_eq_some_iff.mp H
           obtain ⟨⟨t291, t292⟩, A120, H⟩ := H
           replace H : (if t292 = true then (if 0 ≤ x5_1 then (if x5_1 ≤ (wrap64 ((ji8) + t288)) then (if t291.toList = (a0.extract (x5_1 : Int).toNat ((wrap64 ((ji8) + t288)) : Int).toNat).toList then (if x4_1.length < 8796093022208 then (impl_Unframe.l0 kj3 a0 (x4_1 ++ [a0.extract ((ji8) : Int).toNat ((wrap64 ((ji8) + t288)) : Int).toNat]) (wrap64 ((ji8) + t288))) else (none)) else (some (x4_1, x5_1))) else (none)) else (none)) else (some (x4_1, x5_1))) = some (r1, r2) := H
           have A12 := Aside0.mk A120
           clear A120
           by_cases c13 : t292 = true
           ·subst c13
            have H1 : (if 0 ≤ x5_1 then (if x5_1 ≤ (wrap64 ((ji8) + t288)) then (if t291.toList = (a0.extract (x5_1 : Int).toNat ((wrap64 ((ji8) + t288)) : Int).toNat).toList then (if x4_1.length < 8796093022208 then (impl_Unframe.l0 kj3 a0 (x4_1 ++ [a0.extract ((ji8) : Int).toNat ((wrap64 ((ji8) + t288)) : Int).toNat]) (wrap64 ((ji8) + t288))) else (none)) else (some (x4_1, x5_1))) else (none)) else (none)) = some (r1, r2) := by rw [if_pos rfl] at H; exact H
            clear H
            have H := H1
            clear H1
            by_cases c14 : 0 ≤ x5_1
            ·rw [if_pos c14] at H
             have c14b0 := eq_true c14
             have c14b1 : decide (0 ≤ x5_1) = true := decide_eq_true c14
             clear c14
             by_cases c15 : x5_1 ≤ (wrap64 ((ji8) + t288))
             ·rw [if_pos c15] at H
              have c15b0 := eq_true c15
              have c15b1 : decide (x5_1 ≤ (wrap64 ((ji8) + t288))) = true := decide_eq_true c15
              have c16b0 := eq_true (of_decide_eq_true (by first | (with_reducible assumption) | assumption) : (wrap64 ((ji8) + t288)) ≤ (a0.size : Int))
              by_cases c17 : t291.toList = (a0.extract (x5_1 : Int).toNat ((wrap64 ((ji8) + t288)) : Int).toNat).toList
              ·rw [if_pos c17] at H
               have c17b0 : (t291.toList == (a0.extract (x5_1 : Int).toNat ((wrap64 ((ji8) + t288)) : Int).toNat).toList) = true := beq_iff_eq.mpr c17
               have c17b1 : (t291.toList != (a0.extract (x5_1 : Int).toNat ((wrap64 ((ji8) + t288)) : Int).toNat).toList) = false := bne_eq_false_iff_eq.mpr c17
               clear c17
               by_cases c18 : x4_1.length < 8796093022208
               ·rw [if_pos c18] at H
                have LMc18 := Aside0.mk c18
                clear c18
                obtain ⟨y293, hy293⟩ : ∃ y_ : List ByteArray, y_ = (x4_1 ++ [a0.extract ((ji8) : Int).toNat ((wrap64 ((ji8) + t288)) : Int).toNat]) := ⟨_, rfl⟩
                replace H : (impl_Unframe.l0 kj3 a0 y293 (wrap64 ((ji8) + t288))) = some (r1, r2) := by first | (rw [hy293]; with_reducible exact H) | (have H2_ := (Option.bind_some _ _).symm.trans H; rw [hy293]; with_reducible exact H2_) | (have H2_ := (Option.bind_some _ _).symm.trans H; with_reducible exact H2_) | with_reducible exact H | (rw [hy293]; exact H) | exact H
                have Ny293 := Aside0.mk hy293
                clear hy293
                have H' := Aside0.mk H
                clear H
                go_wp2_with (first | ((with_reducible refine gate_callee (f := 57) rfl ?_); refine goesL_ (some 45) rfl rfl Tryd.func57 (by kernel_rfl) rfl #[.string (a0.extract ((ji8) : Int).toNat ((wrap64 ((ji8) + t288)) : Int).toNat)] rfl (by (try simp only [List.map_toArray, List.map_cons, List.map_nil]); first | done | (simp only [hji8]; rfl) | rfl | (simp only [List.length_drop, List.length_take]; rfl)) ?_; (with_reducible refine (impl_Frame.calls kj3 (a0.extract ((ji8) : Int).toNat ((wrap64 ((ji8) + t288)) : Int).toNat) t291 true _ A12.out).mono ?_); rintro e w19 ⟨rfl, hb⟩; refine ⟨_, rfl, ?_⟩; have n0_ := Aside0.mk (Kd.R_below (by (with_reducible repeat (first | apply Kd.R_alloc | apply Kd.R_drewN | apply Kd.R_drew)); exact HO_4.out) hb); have n1_ := Aside0.mk (below_step (pl0 HB.out) hb); clear HO_4; clear HB; have HO_4 := n0_; have HB := n1_; clear n0_ n1_; (try clear hb); (try clear hb2); (try clear hk); (try clear hi)) | ((with_reducible refine gate_builtin (b := .append) (xs := #[.tmp 63, .tmp 65]) rfl ?_); (try (refine gate_guard (by rfl) ?_; dsimp only)); at_builtin; refine Kd.R_append Kd.string (w0 := w) w.heap.size rfl (.tmp 63) (.tmp 65) 22 9 (.string ⟨#[]⟩) 16 rfl Tryd.underlying22 info9 rfl (by decide) (by omega) u4 x4_1 (a0.extract ((ji8) : Int).toNat ((wrap64 ((ji8) + t288)) : Int).toNat) [.string (a0.extract ((ji8) : Int).toNat ((wrap64 ((ji8) + t288)) : Int).toNat)] (fun _ => True) (fun _ => False) rfl rfl ?aP (fun _ hk => hk.elim) ?aF ?aO ?aB ?aS ?aL ?_; (case aP => exact rfl); (case aB => exact (pl0 HB.out)); (case aF => exact (fun _ _ => trivial)); (case aO => exact (by (with_reducible repeat (first | apply Kd.R_alloc | apply Kd.R_drewN | apply Kd.R_drew)); exact HO_4.out)); (case aS => exact (below_size (pl0 HB.out))); (case aL => have := LMc18.out; omega); intro v294 w20 ho hb hg hat; rw [← Ny293.out] at ho; have n0_ := Aside0.mk (hb); have n1_ := Aside0.mk (ho); clear HB; clear HO_4; have HB := n0_; have HO295 := n1_; clear n0_ n1_; clear ho hb hg hat))
                go_roundg kj3
                case measure => have := HK1.out; have := HJ3.out; omega
                case rel => exact ⟨(y293), (wrap64 ((ji8) + t288)), (by first | rfl | (simp; done) | (simp only [← hji8] <;> (first | rfl | simp)) | (simp [*]; done)), H', ⟨by have := HK1.out; have := HJ3.out; omega⟩, ⟨by (with_reducible repeat (first | apply Kd.R_alloc | apply Kd.R_drewN | apply Kd.R_drew)); exact HO295.out⟩, ⟨pl0 HB.out⟩⟩
               ·rw [if_neg c18] at H
                exact absurd H (by simp)
              ·rw [if_neg c17] at H
               have c17b0 : (t291.toList == (a0.extract (x5_1 : Int).toNat ((wrap64 ((ji8) + t288)) : Int).toNat).toList) = false := beq_eq_false_iff_ne.mpr c17
               have c17b1 : (t291.toList != (a0.extract (x5_1 : Int).toNat ((wrap64 ((ji8) + t288)) : Int).toNat).toList) = true := bne_iff_ne.mpr c17
               simp only [Option.some.injEq, Prod.mk.injEq] at H
               obtain ⟨rfl, rfl⟩ := H
               go_wp2_with (first | ((with_reducible refine gate_callee (f := 57) rfl ?_); refine goesL_ (some 45) rfl rfl Tryd.func57 (by kernel_rfl) rfl #[.string (a0.extract ((ji8) : Int).toNat ((wrap64 ((ji8) + t288)) : Int).toNat)] rfl (by (try simp only [List.map_toArray, List.map_cons, List.map_nil]); first | done | (simp only [hji8]; rfl) | rfl | (simp only [List.length_drop, List.length_take]; rfl)) ?_; (with_reducible refine (impl_Frame.calls kj3 (a0.extract ((ji8) : Int).toNat ((wrap64 ((ji8) + t288)) : Int).toNat) t291 true _ A12.out).mono ?_); rintro e w21 ⟨rfl, hb⟩; refine ⟨_, rfl, ?_⟩; have n0_ := Aside0.mk (Kd.R_below (by (with_reducible repeat (first | apply Kd.R_alloc | apply Kd.R_drewN | apply Kd.R_drew)); exact HO_4.out) hb); have n1_ := Aside0.mk (below_step (pl0 HB.out) hb); clear HO_4; clear HB; have HO_4 := n0_; have HB := n1_; clear n0_ n1_; (try clear hb); (try clear hb2); (try clear hk); (try clear hi)))
               go_ret2
               exact ⟨_, by first | rfl | (simp [errW_none, errW_some] <;> rfl) | (simp only [← hji8]; first | rfl | (simp [errW_none, errW_some] <;> rfl)) | (simp [*, errW_none, errW_some] <;> rfl), by (with_reducible repeat (first | apply Kd.R_alloc | apply Kd.R_drewN | apply Kd.R_drew)); exact HO_4.out, pl0 HB.out⟩
             ·rw [if_neg c15] at H
              exact absurd H (by simp)
            ·rw [if_neg c14] at H
             exact absurd H (by simp)
           ·replace c13 := Bool.eq_false_iff.mpr c13
            subst c13
            have H1 : (some (x4_1, x5_1)) = some (r1, r2) := by rw [if_neg (show ¬ (false = true) by decide)] at H; exact H
            clear H
            have H := H1
            clear H1
            simp only [Option.some.injEq, Prod.mk.injEq] at H
            obtain ⟨rfl, rfl⟩ := H
            go_wp2_with (first | ((with_reducible refine gate_callee (f := 57) rfl ?_); refine goesL_ (some 45) rfl rfl Tryd.func57 (by kernel_rfl) rfl #[.string (a0.extract ((ji8) : Int).toNat ((wrap64 ((ji8) + t288)) : Int).toNat)] rfl (by (try simp only [List.map_toArray, List.map_cons, List.map_nil]); first | done | (simp only [hji8]; rfl) | rfl | (simp only [List.length_drop, List.length_take]; rfl)) ?_; (with_reducible refine (impl_Frame.calls kj3 (a0.extract ((ji8) : Int).toNat ((wrap64 ((ji8) + t288)) : Int).toNat) t291 false _ A12.out).mono ?_); rintro e w22 ⟨rfl, hb⟩; refine ⟨_, rfl, ?_⟩; have n0_ := Aside0.mk (Kd.R_below (by (with_reducible repeat (first | apply Kd.R_alloc | apply Kd.R_drewN | apply Kd.R_drew)); exact HO_4.out) hb); have n1_ := Aside0.mk (below_step (pl0 HB.out) hb); clear HO_4; clear HB; have HO_4 := n0_; have HB := n1_; clear n0_ n1_; (try clear hb); (try clear hb2); (try clear hk); (try clear hi)))
            go_ret2
            exact ⟨_, by first | rfl | (simp [errW_none, errW_some] <;> rfl) | (simp only [← hji8]; first | rfl | (simp [errW_none, errW_some] <;> rfl)) | (simp [*, errW_none, errW_some] <;> rfl), by (with_reducible repeat (first | apply Kd.R_alloc | apply Kd.R_drewN | apply Kd.R_drew)); exact HO_4.out, pl0 HB.out⟩
          ·rw [if_neg c11] at H
           exact absurd H (by simp)
         ·rw [if_neg c10] at H
          exact absurd H (by simp)
        ·rw [if_neg c9] at H
         exact absurd H (by simp)
def impl_ReadLog.l0 : Nat → List (S34) → Int → List ByteArray → Int → Int → Option ((List (S34)) × Int)
  | 0, _, _, _, _, _ => none
  | k + 1, x6, x7, x19, x20, x21 => if x21 < x20 then (if 0 ≤ x21 then (if x21 < (x19.length : Int) then ((impl_ReadEdit.f k (rdOf ByteArray.empty x19 x21)).bind fun bt301 => (if bt301.2.2.2.2.2 = true then (if x6.length < 2513169434916 then ((impl_Frame.f k (rdOf ByteArray.empty x19 x21)).bind fun bt311 => (impl_ReadLog.l0 k (x6 ++ [(⟨bt301.1, bt301.2.1, bt301.2.2.1, bt301.2.2.2.1, bt301.2.2.2.2.1⟩ : S34)]) (wrap64 (x7 + (bt311.1.size : Int))) x19 x20 (wrap64 (x21 + 1)))) else (none)) else (some (x6, x7)))) else (none)) else (none)) else (some (x6, x7))
def impl_ReadLog.f (k : Nat) (a0 : ByteArray) : Option ((List (S34)) × Int) := (impl_Unframe.f k a0).bind fun bt296 => (impl_ReadLog.l0 k ([] : List (S34)) 0 bt296.1 (bt296.1.length : Int) 0)
set_option maxHeartbeats 8000000 in
set_option maxRecDepth 100000 in
theorem impl_ReadLog.calls (k : Nat) (a0 : ByteArray) (r1 : List (S34)) (r2 : Int) (w : World) (h : impl_ReadLog.f k a0 = some (r1, r2)) (hg : MG w) :
    Calls Tryd.prog 32 #[.string a0] w fun e w' => ∃ v0_ : Value, e = .returned (.tuple #[v0_, .int .i64 r2]) ∧ Kd.R k34 34 w' w.heap.size (fun _ => True) v0_ r1 ∧ Below w.heap.size w w' := by
  have HG := Aside0.mk hg
  clear hg
  have hu34 := Tryd.underlying34
  have HB := Aside0.mk (Below.refl w.heap.size w)
  have H : ((impl_Unframe.f k a0).bind fun bt296 => (impl_ReadLog.l0 k ([] : List (S34)) 0 bt296.1 (bt296.1.length : Int) 0)) = some (r1, r2) := h
  clear h
  replace H := Option.bind_eq_some_iff.mp H
  obtain ⟨⟨t296, t297⟩, A20, H⟩ := H
  replace H : (impl_ReadLog.l0 k ([] : List (S34)) 0 t296 (t296.length : Int) 0) = some (r1, r2) := H
  have A2 := Aside0.mk A20
  clear A20
  have H' := Aside0.mk H
  clear H
  go_enter Tryd.func32, Tryd.ntmps32
  go_wp2_with (first | ((with_reducible refine gate_callee (f := 60) rfl ?_); refine goesL_ (some 16) rfl rfl Tryd.func60 (by kernel_rfl) rfl #[.string a0] rfl (by (try simp only [List.map_toArray, List.map_cons, List.map_nil]); first | done | rfl | (simp only [List.length_drop, List.length_take]; rfl)) ?_; (with_reducible refine (impl_Unframe.calls k a0 t296 t297 _ A2.out).mono ?_); rintro e w3 ⟨v298, rfl, ho0, hb⟩; refine ⟨_, rfl, ?_⟩; have n0_ := Aside0.mk (Kd.R_lower ho0 (below_size (pl0 HB.out))); have n1_ := Aside0.mk (below_step (pl0 HB.out) hb); clear HB; have HO299 := n0_; have HB := n1_; clear n0_ n1_; (try clear hb); (try clear hb2); (try clear hk); (try clear hi); (try clear ho0); obtain ⟨Ao4, co4, eo4⟩ := Kd.R_slice HO299.out; subst eo4))
  go_loopg [6, 7, 21] k (fun kq v6 v7 v21 w' => ∃ (x6_1 : List (S34)) (x7_1 : Int) (x21_1 : Int), v7 = .int .i64 x7_1 ∧ v21 = .int .i64 x21_1 ∧ Aside0 (impl_ReadLog.l0 kq x6_1 x7_1 t296 (t296.length : Int) x21_1 = some (r1, r2)) ∧ Aside0 (kq ≤ k) ∧ Aside0 (Kd.R k34 34 w' w.heap.size (fun _ => True) v6 x6_1) ∧ Aside0 (Kd.R Kd.string 9 w' w.heap.size (fun _ => True) (.slice Ao4 t296.length co4) t296) ∧ Aside0 (Below w.heap.size w w'))
  case atStart => exact ⟨(([] : List (S34))), (0), (0), eqa, eqa, H', ⟨Nat.le_refl _⟩, ⟨by first | exact Kd.R_nil _ _ _ _ _ | exact Kd.N_nil _ _ _ _ _ | exact Kd.V_nil _ _ _ _ _ | exact Kd.Q_nil _ _ _ _ _ | exact Kd.S_nil _ _ _ _ _⟩, ⟨by (with_reducible repeat (first | apply Kd.R_alloc | apply Kd.R_drewN | apply Kd.R_drew)); exact HO299.out⟩, ⟨pl0 HB.out⟩⟩
  case round =>
   clear H'
   obtain ⟨x6_1, x7_1, x21_1, rfl, rfl, HA, HK1, HO_6, HO_19, HB⟩ := hrel
   cases gk with
   | zero => exact absurd HA.out (by simp [impl_ReadLog.l0])
   | succ k1 =>
    have H := HA.out
    clear HA
    simp only [impl_ReadLog.l0] at H
    by_cases c5 : x21_1 < (t296.length : Int)
    ·rw [if_pos c5] at H
     have c5b0 : decide (x21_1 < (t296.length : Int)) = true := decide_eq_true c5
     clear c5
     by_cases c6 : 0 ≤ x21_1
     ·rw [if_pos c6] at H
      have c6b0 : decide (0 ≤ x21_1) = true := decide_eq_true c6
      clear c6
      by_cases c7 : x21_1 < (t296.length : Int)
      ·rw [if_pos c7] at H
       have c7b0 : decide (x21_1 < (t296.length : Int)) = true := decide_eq_true c7
       clear c7
       replace H := Option.bind_eq_some_iff.mp H
       obtain ⟨⟨t301, t302, t303, t304, t305, t306⟩, A80, H⟩ := H
       replace H : (if t306 = true then (if x6_1.length < 2513169434916 then ((impl_Frame.f k1 (rdOf ByteArray.empty t296 x21_1)).bind fun bt311 => (impl_ReadLog.l0 k1 (x6_1 ++ [(⟨t301, t302, t303, t304, t305⟩ : S34)]) (wrap64 (x7_1 + (bt311.1.size : Int))) t296 (t296.length : Int) (wrap64 (x21_1 + 1)))) else (none)) else (some (x6_1, x7_1))) = some (r1, r2) := H
       have A8 := Aside0.mk A80
       clear A80
       by_cases c9 : t306 = true
       ·subst c9
        have H1 : (if x6_1.length < 2513169434916 then ((impl_Frame.f k1 (rdOf ByteArray.empty t296 x21_1)).bind fun bt311 => (impl_ReadLog.l0 k1 (x6_1 ++ [(⟨t301, t302, t303, t304, t305⟩ : S34)]) (wrap64 (x7_1 + (bt311.1.size : Int))) t296 (t296.length : Int) (wrap64 (x21_1 + 1)))) else (none)) = some (r1, r2) := by rw [if_pos rfl] at H; exact H
        clear H
        have H := H1
        clear H1
        by_cases c10 : x6_1.length < 2513169434916
        ·rw [if_pos c10] at H
         have LMc10 := Aside0.mk c10
         clear c10
         obtain ⟨y308, hy308⟩ : ∃ y_ : List (S34), y_ = (x6_1 ++ [(⟨t301, t302, t303, t304, t305⟩ : S34)]) := ⟨_, rfl⟩
         replace H : ((impl_Frame.f k1 (rdOf ByteArray.empty t296 x21_1)).bind fun bt311 => (impl_ReadLog.l0 k1 y308 (wrap64 (x7_1 + (bt311.1.size : Int))) t296 (t296.length : Int) (wrap64 (x21_1 + 1)))) = some (r1, r2) := by first | (rw [hy308]; with_reducible exact H) | (have H2_ := (Option.bind_some _ _).symm.trans H; rw [hy308]; with_reducible exact H2_) | (have H2_ := (Option.bind_some _ _).symm.trans H; with_reducible exact H2_) | with_reducible exact H | (rw [hy308]; exact H) | exact H
         have Ny308 := Aside0.mk hy308
         clear hy308
         replace H := Option.bind_eq_some_iff.mp H
         obtain ⟨⟨t311, t312⟩, A110, H⟩ := H
         replace H : (impl_ReadLog.l0 k1 y308 (wrap64 (x7_1 + (t311.size : Int))) t296 (t296.length : Int) (wrap64 (x21_1 + 1))) = some (r1, r2) := H
         have A11 := Aside0.mk A110
         clear A110
         have H' := Aside0.mk H
         clear H
         have p300 : 0 ≤ (x21_1 : Int) := oda
         have q300 : x21_1 < (t296.length : Int) := oda
         obtain ⟨ad300, e300, hx300_0⟩ := Kd.at_string (Kd.R_reads' HO_19.out).2.2 x21_1 p300 q300
         cases e300
         replace p300 := eq_true p300
         replace q300 := eq_true q300
         go_wp2_with (first | ((with_reducible refine gate_callee (f := 24) rfl ?_); refine goesL_ (some 27) rfl rfl Tryd.func24 (by kernel_rfl) rfl #[.string (rdOf ByteArray.empty t296 x21_1)] rfl (by (try simp only [List.map_toArray, List.map_cons, List.map_nil]); first | done | rfl | (simp only [List.length_drop, List.length_take]; rfl)) ?_; (with_reducible refine (impl_ReadEdit.calls k1 (rdOf ByteArray.empty t296 x21_1) t301 t302 t303 t304 t305 true _ A8.out ?mg).mono ?_); (case mg => exact HG.out.on (pl0 HB.out)); rintro e w12 ⟨rfl, hb⟩; refine ⟨_, rfl, ?_⟩; have n0_ := Aside0.mk (Kd.R_below (by (with_reducible repeat (first | apply Kd.R_alloc | apply Kd.R_drewN | apply Kd.R_drew)); exact HO_6.out) hb); have n1_ := Aside0.mk (Kd.R_below (by (with_reducible repeat (first | apply Kd.R_alloc | apply Kd.R_drewN | apply Kd.R_drew)); exact HO_19.out) hb); have n2_ := Aside0.mk (below_step (pl0 HB.out) hb); clear HO_6; clear HO_19; clear HB; have HO_6 := n0_; have HO_19 := n1_; have HB := n2_; clear n0_ n1_ n2_; (try clear hb); (try clear hb2); (try clear hk); (try clear hi)) | ((with_reducible refine gate_dst (N := 10) rfl ?_); refine box_event ?hg (N := 10) ?hd (cs := #[.int .i64 0, .string (⟨#[]⟩ : ByteArray), .string (⟨#[]⟩ : ByteArray), .int .i64 0, .int .i64 0]) (t := 34) ?hr ?_; (case hd => rfl); (case hg => rfl); (case hr => first | (go_simp; done) | (go_simp; rfl)); intro gb307 hg w13 hbox hb; have n0_ := Aside0.mk (Kd.R_below (Kd.R_elderB (by (with_reducible repeat (first | apply Kd.R_alloc | apply Kd.R_drewN | apply Kd.R_drew)); exact HO_6.out) gb307 (Nat.le_of_eq hg.symm)) hb); have n1_ := Aside0.mk (Kd.R_below (by (with_reducible repeat (first | apply Kd.R_alloc | apply Kd.R_drewN | apply Kd.R_drew)); exact HO_19.out) hb); have n2_ := Aside0.mk (below_step (pl0 HB.out) hb); have n3_ := Aside0.mk (hbox); have n4_ := Aside0.mk ((by rw [hg]; exact (below_size (pl0 HB.out)) : w.heap.size ≤ gb307)); have n5_ := Aside0.mk ((by rw [hg]; exact (below_size (pl0 HB.out)) : w.heap.size ≤ gb307)); clear HO_6; clear HO_19; clear HB; have HO_6 := n0_; have HO_19 := n1_; have HB := n2_; have BK307 := n3_; have GW307 := n4_; have GE307 := n5_; clear n0_ n1_ n2_ n3_ n4_ n5_; clear hb hbox hg; have hcz14_0 : w13.cell? ⟨gb307, 0, none⟩ = some (.int .i64 0) := (blk_cell BK307.out 0).trans rfl; have hcz14_1 : w13.cell? ⟨gb307, 1, none⟩ = some (.string (⟨#[]⟩ : ByteArray)) := (blk_cell BK307.out 1).trans rfl; have hcz14_2 : w13.cell? ⟨gb307, 2, none⟩ = some (.string (⟨#[]⟩ : ByteArray)) := (blk_cell BK307.out 2).trans rfl; have hcz14_3 : w13.cell? ⟨gb307, 3, none⟩ = some (.int .i64 0) := (blk_cell BK307.out 3).trans rfl; have hcz14_4 : w13.cell? ⟨gb307, 4, none⟩ = some (.int .i64 0) := (blk_cell BK307.out 4).trans rfl; have hfz14_0 := blk_frozen BK307.out 0; have hfz14_1 := blk_frozen BK307.out 1; have hfz14_2 := blk_frozen BK307.out 2; have hfz14_3 := blk_frozen BK307.out 3; have hfz14_4 := blk_frozen BK307.out 4) | ((with_reducible refine gate_builtin (b := .append) (xs := #[.tmp 32, .tmp 34]) rfl ?_); at_builtin; refine Kd.R_append k34 (w0 := w) w.heap.size rfl (.tmp 32) (.tmp 34) 47 34 (.agg #[(.int .i64 0), (.string ⟨#[]⟩), (.string ⟨#[]⟩), (.int .i64 0), (.int .i64 0)]) 56 rfl Tryd.underlying47 info34 rfl (by decide) (by omega) u6 x6_1 (⟨t301, t302, t303, t304, t305⟩ : S34) [.int .i64 t301, .string t302, .string t303, .int .i64 t304, .int .i64 t305] (fun k_ => k_ ≠ gb307) (fun _ => False) rfl (by first | (go_simp; done) | (go_simp; rfl)) ?aP (fun _ hk => hk.elim) ?aF ?aO ?aB ?aS ?aL ?_; (case aP => exact k34_mkM _ _ _ (⟨t301, t302, t303, t304, t305⟩ : S34)); (case aB => exact (pl1 HB.out GE307.out)); (case aF => exact (fun k_ hk => Kd.freshB (g := gb307) (o := .cells #[.int .i64 t301, .string t302, .string t303, .int .i64 t304, .int .i64 t305] 34 (0, 0)) (by (with_reducible repeat (first | refine blk_drewN ?_ _ | refine blk_drew ?_ | refine blk_alloc ?_ _)); refine blk_put (cs := #[.int .i64 t301, .string t302, .string t303, .int .i64 t304, .int .i64 0]) ?_ 4 _ rfl; (with_reducible repeat (first | refine blk_drewN ?_ _ | refine blk_drew ?_ | refine blk_alloc ?_ _)); refine blk_put (cs := #[.int .i64 t301, .string t302, .string t303, .int .i64 0, .int .i64 0]) ?_ 3 _ rfl; (with_reducible repeat (first | refine blk_drewN ?_ _ | refine blk_drew ?_ | refine blk_alloc ?_ _)); refine blk_put (cs := #[.int .i64 t301, .string t302, .string (⟨#[]⟩ : ByteArray), .int .i64 0, .int .i64 0]) ?_ 2 _ rfl; (with_reducible repeat (first | refine blk_drewN ?_ _ | refine blk_drew ?_ | refine blk_alloc ?_ _)); refine blk_put (cs := #[.int .i64 t301, .string (⟨#[]⟩ : ByteArray), .string (⟨#[]⟩ : ByteArray), .int .i64 0, .int .i64 0]) ?_ 1 _ rfl; (with_reducible repeat (first | refine blk_drewN ?_ _ | refine blk_drew ?_ | refine blk_alloc ?_ _)); refine blk_put (cs := #[.int .i64 0, .string (⟨#[]⟩ : ByteArray), .string (⟨#[]⟩ : ByteArray), .int .i64 0, .int .i64 0]) ?_ 0 _ rfl; (with_reducible repeat (first | refine blk_drewN ?_ _ | refine blk_drew ?_ | refine blk_alloc ?_ _)); exact BK307.out) k_ hk)); (case aO => exact (by (with_reducible repeat (first | apply Kd.R_alloc | apply Kd.R_drewN | apply Kd.R_drew)); exact Kd.R_mono (Kd.R_far (p := ⟨gb307, 4, none⟩) (Kd.R_far (p := ⟨gb307, 3, none⟩) (Kd.R_far (p := ⟨gb307, 2, none⟩) (Kd.R_far (p := ⟨gb307, 1, none⟩) (Kd.R_far (p := ⟨gb307, 0, none⟩) (Kd.R_mono HO_6.out (fun k_ hk => (⟨hk, hk.2⟩ : _ ∧ k_ ≠ gb307))) (fun _ hk => hk.2) (.int .i64 t301)) (fun _ hk => hk.2) (.string t302)) (fun _ hk => hk.2) (.string t303)) (fun _ hk => hk.2) (.int .i64 t304)) (fun _ hk => hk.2) (.int .i64 t305)) (fun _ hk => hk.1.2))); (case aS => exact (below_size (pl1 HB.out GE307.out))); (case aL => have := LMc10.out; omega); intro v309 w15 ho hb hg hat; rw [← Ny308.out] at ho; have n0_ := Aside0.mk (Kd.R_over' (by (with_reducible repeat (first | apply Kd.R_alloc | apply Kd.R_drewN | apply Kd.R_drew)); exact (Kd.R_mono (Kd.R_far (p := ⟨gb307, 4, none⟩) (Kd.R_far (p := ⟨gb307, 3, none⟩) (Kd.R_far (p := ⟨gb307, 2, none⟩) (Kd.R_far (p := ⟨gb307, 1, none⟩) (Kd.R_far (p := ⟨gb307, 0, none⟩) (Kd.R_types HO_19.out BK307.out (by decide)) (fun _ hk => hk.2) (.int .i64 t301)) (fun _ hk => hk.2) (.string t302)) (fun _ hk => hk.2) (.string t303)) (fun _ hk => hk.2) (.int .i64 t304)) (fun _ hk => hk.2) (.int .i64 t305)) (fun _ h_ => h_.1))) (Kd.R_typed (by (with_reducible repeat (first | apply Kd.R_alloc | apply Kd.R_drewN | apply Kd.R_drew)); exact (Kd.R_mono (Kd.R_far (p := ⟨gb307, 4, none⟩) (Kd.R_far (p := ⟨gb307, 3, none⟩) (Kd.R_far (p := ⟨gb307, 2, none⟩) (Kd.R_far (p := ⟨gb307, 1, none⟩) (Kd.R_far (p := ⟨gb307, 0, none⟩) (Kd.R_mono HO_6.out (fun k_ hk => (⟨hk, hk.2⟩ : _ ∧ k_ ≠ gb307))) (fun _ hk => hk.2) (.int .i64 t301)) (fun _ hk => hk.2) (.string t302)) (fun _ hk => hk.2) (.string t303)) (fun _ hk => hk.2) (.int .i64 t304)) (fun _ hk => hk.2) (.int .i64 t305)) (fun _ h_ => h_.1)))) (by decide) hg); have n1_ := Aside0.mk (blk_grown (g := gb307) (o := .cells #[.int .i64 t301, .string t302, .string t303, .int .i64 t304, .int .i64 t305] 34 (0, 0)) (by (with_reducible repeat (first | refine blk_drewN ?_ _ | refine blk_drew ?_ | refine blk_alloc ?_ _)); refine blk_put (cs := #[.int .i64 t301, .string t302, .string t303, .int .i64 t304, .int .i64 0]) ?_ 4 _ rfl; (with_reducible repeat (first | refine blk_drewN ?_ _ | refine blk_drew ?_ | refine blk_alloc ?_ _)); refine blk_put (cs := #[.int .i64 t301, .string t302, .string t303, .int .i64 0, .int .i64 0]) ?_ 3 _ rfl; (with_reducible repeat (first | refine blk_drewN ?_ _ | refine blk_drew ?_ | refine blk_alloc ?_ _)); refine blk_put (cs := #[.int .i64 t301, .string t302, .string (⟨#[]⟩ : ByteArray), .int .i64 0, .int .i64 0]) ?_ 2 _ rfl; (with_reducible repeat (first | refine blk_drewN ?_ _ | refine blk_drew ?_ | refine blk_alloc ?_ _)); refine blk_put (cs := #[.int .i64 t301, .string (⟨#[]⟩ : ByteArray), .string (⟨#[]⟩ : ByteArray), .int .i64 0, .int .i64 0]) ?_ 1 _ rfl; (with_reducible repeat (first | refine blk_drewN ?_ _ | refine blk_drew ?_ | refine blk_alloc ?_ _)); refine blk_put (cs := #[.int .i64 0, .string (⟨#[]⟩ : ByteArray), .string (⟨#[]⟩ : ByteArray), .int .i64 0, .int .i64 0]) ?_ 0 _ rfl; (with_reducible repeat (first | refine blk_drewN ?_ _ | refine blk_drew ?_ | refine blk_alloc ?_ _)); exact BK307.out) hg (Kd.R_away HO_6.out (fun _ hk => hk.2))); have n2_ := Aside0.mk (hb); have n3_ := Aside0.mk (ho); clear HO_19; clear BK307; clear HB; clear HO_6; have HO_19 := n0_; have BK307 := n1_; have HB := n2_; have HO310 := n3_; clear n0_ n1_ n2_ n3_; clear ho hb hg hat) | ((with_reducible refine gate_callee (f := 57) rfl ?_); refine goesL_ (some 38) rfl rfl Tryd.func57 (by kernel_rfl) rfl #[.string (rdOf ByteArray.empty t296 x21_1)] rfl (by (try simp only [List.map_toArray, List.map_cons, List.map_nil]); first | done | rfl | (simp only [List.length_drop, List.length_take]; rfl)) ?_; (with_reducible refine (impl_Frame.calls k1 (rdOf ByteArray.empty t296 x21_1) t311 t312 _ A11.out).mono ?_); rintro e w16 ⟨rfl, hb⟩; refine ⟨_, rfl, ?_⟩; have n0_ := Aside0.mk (Kd.R_below (by (with_reducible repeat (first | apply Kd.R_alloc | apply Kd.R_drewN | apply Kd.R_drew)); exact HO_19.out) hb); have n1_ := Aside0.mk (Kd.R_below (by (with_reducible repeat (first | apply Kd.R_alloc | apply Kd.R_drewN | apply Kd.R_drew)); exact HO310.out) hb); have n2_ := Aside0.mk (pb BK307.out hb); have n3_ := Aside0.mk (below_step (pl1 HB.out GE307.out) hb); clear HO_19; clear HO310; clear BK307; clear HB; have HO_19 := n0_; have HO310 := n1_; have BK307 := n2_; have HB := n3_; clear n0_ n1_ n2_ n3_; (try clear hb); (try clear hb2); (try clear hk); (try clear hi)))
         go_roundg k1
         case measure => have := HK1.out; omega
         case rel => exact ⟨(y308), (wrap64 (x7_1 + (t311.size : Int))), (wrap64 (x21_1 + 1)), eqa, eqa, H', ⟨by have := HK1.out; omega⟩, ⟨by (with_reducible repeat (first | apply Kd.R_alloc | apply Kd.R_drewN | apply Kd.R_drew)); exact Kd.R_mono HO310.out (fun _ hk => trivial)⟩, ⟨by (with_reducible repeat (first | apply Kd.R_alloc | apply Kd.R_drewN | apply Kd.R_drew)); exact HO_19.out⟩, ⟨pl1 HB.out GE307.out⟩⟩
        ·rw [if_neg c10] at H
         exact absurd H (by simp)
       ·replace c9 := Bool.eq_false_iff.mpr c9
        subst c9
        have H1 : (some (x6_1, x7_1)) = some (r1, r2) := by rw [if_neg (show ¬ (false = true) by decide)] at H; exact H
        clear H
        have H := H1
        clear H1
        simp only [Option.some.injEq, Prod.mk.injEq] at H
        obtain ⟨rfl, rfl⟩ := H
        have p300 : 0 ≤ (x21_1 : Int) := oda
        have q300 : x21_1 < (t296.length : Int) := oda
        obtain ⟨ad300, e300, hx300_0⟩ := Kd.at_string (Kd.R_reads' HO_19.out).2.2 x21_1 p300 q300
        cases e300
        replace p300 := eq_true p300
        replace q300 := eq_true q300
        go_wp2_with (first | ((with_reducible refine gate_callee (f := 24) rfl ?_); refine goesL_ (some 27) rfl rfl Tryd.func24 (by kernel_rfl) rfl #[.string (rdOf ByteArray.empty t296 x21_1)] rfl (by (try simp only [List.map_toArray, List.map_cons, List.map_nil]); first | done | rfl | (simp only [List.length_drop, List.length_take]; rfl)) ?_; (with_reducible refine (impl_ReadEdit.calls k1 (rdOf ByteArray.empty t296 x21_1) t301 t302 t303 t304 t305 false _ A8.out ?mg).mono ?_); (case mg => exact HG.out.on (pl0 HB.out)); rintro e w17 ⟨rfl, hb⟩; refine ⟨_, rfl, ?_⟩; have n0_ := Aside0.mk (Kd.R_below (by (with_reducible repeat (first | apply Kd.R_alloc | apply Kd.R_drewN | apply Kd.R_drew)); exact HO_6.out) hb); have n1_ := Aside0.mk (Kd.R_below (by (with_reducible repeat (first | apply Kd.R_alloc | apply Kd.R_drewN | apply Kd.R_drew)); exact HO_19.out) hb); have n2_ := Aside0.mk (below_step (pl0 HB.out) hb); clear HO_6; clear HO_19; clear HB; have HO_6 := n0_; have HO_19 := n1_; have HB := n2_; clear n0_ n1_ n2_; (try clear hb); (try clear hb2); (try clear hk); (try clear hi)) | ((with_reducible refine gate_dst (N := 10) rfl ?_); refine box_event ?hg (N := 10) ?hd (cs := #[.int .i64 0, .string (⟨#[]⟩ : ByteArray), .string (⟨#[]⟩ : ByteArray), .int .i64 0, .int .i64 0]) (t := 34) ?hr ?_; (case hd => rfl); (case hg => rfl); (case hr => first | (go_simp; done) | (go_simp; rfl)); intro gb307 hg w18 hbox hb; have n0_ := Aside0.mk (Kd.R_below (Kd.R_elderB (by (with_reducible repeat (first | apply Kd.R_alloc | apply Kd.R_drewN | apply Kd.R_drew)); exact HO_6.out) gb307 (Nat.le_of_eq hg.symm)) hb); have n1_ := Aside0.mk (Kd.R_below (by (with_reducible repeat (first | apply Kd.R_alloc | apply Kd.R_drewN | apply Kd.R_drew)); exact HO_19.out) hb); have n2_ := Aside0.mk (below_step (pl0 HB.out) hb); have n3_ := Aside0.mk (hbox); have n4_ := Aside0.mk ((by rw [hg]; exact (below_size (pl0 HB.out)) : w.heap.size ≤ gb307)); have n5_ := Aside0.mk ((by rw [hg]; exact (below_size (pl0 HB.out)) : w.heap.size ≤ gb307)); clear HO_6; clear HO_19; clear HB; have HO_6 := n0_; have HO_19 := n1_; have HB := n2_; have BK307 := n3_; have GW307 := n4_; have GE307 := n5_; clear n0_ n1_ n2_ n3_ n4_ n5_; clear hb hbox hg; have hcz19_0 : w18.cell? ⟨gb307, 0, none⟩ = some (.int .i64 0) := (blk_cell BK307.out 0).trans rfl; have hcz19_1 : w18.cell? ⟨gb307, 1, none⟩ = some (.string (⟨#[]⟩ : ByteArray)) := (blk_cell BK307.out 1).trans rfl; have hcz19_2 : w18.cell? ⟨gb307, 2, none⟩ = some (.string (⟨#[]⟩ : ByteArray)) := (blk_cell BK307.out 2).trans rfl; have hcz19_3 : w18.cell? ⟨gb307, 3, none⟩ = some (.int .i64 0) := (blk_cell BK307.out 3).trans rfl; have hcz19_4 : w18.cell? ⟨gb307, 4, none⟩ = some (.int .i64 0) := (blk_cell BK307.out 4).trans rfl; have hfz19_0 := blk_frozen BK307.out 0; have hfz19_1 := blk_frozen BK307.out 1; have hfz19_2 := blk_frozen BK307.out 2; have hfz19_3 := blk_frozen BK307.out 3; have hfz19_4 := blk_frozen BK307.out 4))
        go_ret2
        exact ⟨_, erq, by (with_reducible repeat (first | apply Kd.R_alloc | apply Kd.R_drewN | apply Kd.R_drew)); exact Kd.R_mono (Kd.R_far (p := ⟨gb307, 4, none⟩) (Kd.R_far (p := ⟨gb307, 3, none⟩) (Kd.R_far (p := ⟨gb307, 2, none⟩) (Kd.R_far (p := ⟨gb307, 1, none⟩) (Kd.R_far (p := ⟨gb307, 0, none⟩) (Kd.R_mono HO_6.out (fun k_ hk => (⟨hk, hk.2⟩ : _ ∧ k_ ≠ gb307))) (fun _ hk => hk.2) (.int .i64 t301)) (fun _ hk => hk.2) (.string t302)) (fun _ hk => hk.2) (.string t303)) (fun _ hk => hk.2) (.int .i64 t304)) (fun _ hk => hk.2) (.int .i64 t305)) (fun _ hk => trivial), pl1 HB.out GE307.out⟩
      ·rw [if_neg c7] at H
       exact absurd H (by simp)
     ·rw [if_neg c6] at H
      exact absurd H (by simp)
    ·rw [if_neg c5] at H
     have c5b0 : decide (x21_1 < (t296.length : Int)) = false := decide_eq_false c5
     clear c5
     simp only [Option.some.injEq, Prod.mk.injEq] at H
     obtain ⟨rfl, rfl⟩ := H
     go_wp2
     go_ret2
     exact ⟨_, erq, by (with_reducible repeat (first | apply Kd.R_alloc | apply Kd.R_drewN | apply Kd.R_drew)); exact HO_6.out, pl0 HB.out⟩
def laws_eqEditS.l0 : Nat → List (S34) → List (S34) → Int → Option (Bool)
  | 0, _, _, _ => none
  | k + 1, x0, x1, x5 => if x5 < (x0.length : Int) then (if 0 ≤ x5 then (if x5 < (x1.length : Int) then ((laws_eqEdit.f ((rd_T34 x0 x5).f0) ((rd_T34 x0 x5).f1) ((rd_T34 x0 x5).f2) ((rd_T34 x0 x5).f3) ((rd_T34 x0 x5).f4) ((rd_T34 x1 x5).f0) ((rd_T34 x1 x5).f1) ((rd_T34 x1 x5).f2) ((rd_T34 x1 x5).f3) ((rd_T34 x1 x5).f4)).bind fun t317 => (if t317 = true then (laws_eqEditS.l0 k x0 x1 (wrap64 (x5 + 1))) else (some false))) else (none)) else (none)) else (some true)
def laws_eqEditS.f (k : Nat) (l0 : List (S34)) (l1 : List (S34)) : Option (Bool) := if (l0.length : Int) = (l1.length : Int) then (laws_eqEditS.l0 k l0 l1 0) else (some false)
def laws_eqEditS.T6 : Bool × List (List Nat × List Nat) := (true, [([], []), ([], []), ([0, 1], [0, 1]), ([2], [2]), ([], []), ([], []), ([4, 5], [4, 5]), ([6], [6]), ([3, 7], [3, 7]), ([8], [8])])
def laws_eqEditS.B6 : List Nat := [0, 0, 3, 7, 0, 0, 48, 112, 255, 511]
theorem laws_eqEditS.tab6 : rtab .any (opsOf Tryd.f33 6) = laws_eqEditS.T6 := by kernel_rfl
theorem laws_eqEditS.bits6 : waitsOk laws_eqEditS.T6.2 laws_eqEditS.B6 = true := by kernel_rfl
set_option maxHeartbeats 8000000 in
set_option maxRecDepth 100000 in
theorem laws_eqEditS.calls (k : Nat) (A0 : Option Addr) (c0 : Nat) (l0 : List (S34)) (A1 : Option Addr) (c1 : Nat) (l1 : List (S34)) (r : Bool) (w : World) (hr0 : Kd.C k34 w A0 l0.length l0) (hc0 : l0.length ≤ c0) (hr1 : Kd.C k34 w A1 l1.length l1) (hc1 : l1.length ≤ c1) (h : laws_eqEditS.f k l0 l1 = some r) :
    Calls Tryd.prog 33 #[.slice A0 l0.length c0, .slice A1 l1.length c1] w fun e w' => e = .returned (.bool r) ∧ Below w.heap.size w w' := by
  have hu34 := Tryd.underlying34
  have HR0 := Aside0.mk hr0
  have HC0 := Aside0.mk hc0
  clear hr0 hc0
  have HR1 := Aside0.mk hr1
  have HC1 := Aside0.mk hc1
  clear hr1 hc1
  have HB := Aside0.mk (Below.refl w.heap.size w)
  have H : (if (l0.length : Int) = (l1.length : Int) then (laws_eqEditS.l0 k l0 l1 0) else (some false)) = some r := h
  clear h
  by_cases c3 : (l0.length : Int) = (l1.length : Int)
  ·rw [if_pos c3] at H
   have c3b0 : ((l0.length : Int) == (l1.length : Int)) = true := beq_iff_eq.mpr c3
   have c3b1 : ((l0.length : Int) != (l1.length : Int)) = false := bne_eq_false_iff_eq.mpr c3
   have c3b2 : (l0.length == l1.length) = true := by first | simpa using c3 | (simp at c3 ⊢; omega)
   clear c3
   have H' := Aside0.mk H
   clear H
   go_enter Tryd.func33, Tryd.ntmps33
   go_wp2
   go_loopg [5] k (fun kq v5 w' => ∃ (x5_1 : Int), v5 = .int .i64 x5_1 ∧ Aside0 (laws_eqEditS.l0 kq l0 l1 x5_1 = some r) ∧ Aside0 (kq ≤ k) ∧ Aside0 (Below w.heap.size w w'))
   case atStart => exact ⟨(0), eqa, H', ⟨Nat.le_refl _⟩, ⟨pl0 HB.out⟩⟩
   case round =>
    clear H'
    try clear c3; try clear c3b0; try clear c3b1; try clear c3b2
    obtain ⟨x5_1, rfl, HA, HK1, HB⟩ := hrel
    cases gk with
    | zero => exact absurd HA.out (by simp [laws_eqEditS.l0])
    | succ k1 =>
     have H := HA.out
     clear HA
     simp only [laws_eqEditS.l0] at H
     by_cases c4 : x5_1 < (l0.length : Int)
     ·rw [if_pos c4] at H
      have c4b0 : decide (x5_1 < (l0.length : Int)) = true := decide_eq_true c4
      clear c4
      by_cases c5 : 0 ≤ x5_1
      ·rw [if_pos c5] at H
       have c5b0 : decide (0 ≤ x5_1) = true := decide_eq_true c5
       clear c5
       by_cases c6 : x5_1 < (l1.length : Int)
       ·rw [if_pos c6] at H
        have c6b0 : decide (x5_1 < (l1.length : Int)) = true := decide_eq_true c6
        clear c6
        replace H := Option.bind_eq_some_iff.mp H
        obtain ⟨t317, A70, H⟩ := H
        replace H : (if t317 = true then (laws_eqEditS.l0 k1 l0 l1 (wrap64 (x5_1 + 1))) else (some false)) = some r := H
        have A7 := Aside0.mk A70
        clear A70
        by_cases c8 : t317 = true
        ·subst c8
         have H1 : (laws_eqEditS.l0 k1 l0 l1 (wrap64 (x5_1 + 1))) = some r := by rw [if_pos rfl] at H; exact H
         clear H
         have H := H1
         clear H1
         have H' := Aside0.mk H
         clear H
         try go_wp2
         have n0_ := Aside0.mk (below_drew1 HB.out)
         clear HB
         have HB := n0_
         clear n0_
         have p315 : 0 ≤ (x5_1 : Int) := oda
         have q315 : x5_1 < (l0.length : Int) := oda
         obtain ⟨ad315, e315, hx315_0, hx315_1, hx315_2, hx315_3, hx315_4⟩ := at_T34 HR0.out x5_1 p315 q315
         have hw315_4 := hx315_4
         have hw315_3 := hx315_3
         have hw315_2 := hx315_2
         have hw315_1 := hx315_1
         have hw315_0 := hx315_0
         cases e315
         replace hx315_0 := hbc HB.out hx315_0
         replace hx315_1 := hbc HB.out hx315_1
         replace hx315_2 := hbc HB.out hx315_2
         replace hx315_3 := hbc HB.out hx315_3
         replace hx315_4 := hbc HB.out hx315_4
         replace p315 := eq_true p315
         replace q315 := eq_true q315
         have p316 : 0 ≤ (x5_1 : Int) := oda
         have q316 : x5_1 < (l1.length : Int) := oda
         obtain ⟨ad316, e316, hx316_0, hx316_1, hx316_2, hx316_3, hx316_4⟩ := at_T34 HR1.out x5_1 p316 q316
         have hw316_4 := hx316_4
         have hw316_3 := hx316_3
         have hw316_2 := hx316_2
         have hw316_1 := hx316_1
         have hw316_0 := hx316_0
         cases e316
         replace hx316_0 := hbc HB.out hx316_0
         replace hx316_1 := hbc HB.out hx316_1
         replace hx316_2 := hbc HB.out hx316_2
         replace hx316_3 := hbc HB.out hx316_3
         replace hx316_4 := hbc HB.out hx316_4
         replace p316 := eq_true p316
         replace q316 := eq_true q316
         refine start_ (n := 10) (S := fun w' => w'.cell? (ad315.add ((x5_1).toNat * 5)) = some (.int .i64 ((rd_T34 l0 x5_1).f0)) ∧ w'.cell? ⟨(ad315.add ((x5_1).toNat * 5)).block, (ad315.add ((x5_1).toNat * 5)).off + 1, none⟩ = some (.string ((rd_T34 l0 x5_1).f1)) ∧ w'.cell? ⟨(ad315.add ((x5_1).toNat * 5)).block, (ad315.add ((x5_1).toNat * 5)).off + 2, none⟩ = some (.string ((rd_T34 l0 x5_1).f2)) ∧ w'.cell? ⟨(ad315.add ((x5_1).toNat * 5)).block, (ad315.add ((x5_1).toNat * 5)).off + 3, none⟩ = some (.int .i64 ((rd_T34 l0 x5_1).f3)) ∧ w'.cell? ⟨(ad315.add ((x5_1).toNat * 5)).block, (ad315.add ((x5_1).toNat * 5)).off + 4, none⟩ = some (.int .i64 ((rd_T34 l0 x5_1).f4)) ∧ w'.cell? (ad316.add ((x5_1).toNat * 5)) = some (.int .i64 ((rd_T34 l1 x5_1).f0)) ∧ w'.cell? ⟨(ad316.add ((x5_1).toNat * 5)).block, (ad316.add ((x5_1).toNat * 5)).off + 1, none⟩ = some (.string ((rd_T34 l1 x5_1).f1)) ∧ w'.cell? ⟨(ad316.add ((x5_1).toNat * 5)).block, (ad316.add ((x5_1).toNat * 5)).off + 2, none⟩ = some (.string ((rd_T34 l1 x5_1).f2)) ∧ w'.cell? ⟨(ad316.add ((x5_1).toNat * 5)).block, (ad316.add ((x5_1).toNat * 5)).off + 3, none⟩ = some (.int .i64 ((rd_T34 l1 x5_1).f3)) ∧ w'.cell? ⟨(ad316.add ((x5_1).toNat * 5)).block, (ad316.add ((x5_1).toNat * 5)).off + 4, none⟩ = some (.int .i64 ((rd_T34 l1 x5_1).f4))) (ds := []) #[O,O,O,O,O,O,O,O,O,O] (by kernel_rfl) rfl rfl ⟨((HB.out.cell (World.block_lt_of_cell? w _ hw315_0)).trans hw315_0), ((HB.out.cell (World.block_lt_of_cell? w _ hw315_1)).trans hw315_1), ((HB.out.cell (World.block_lt_of_cell? w _ hw315_2)).trans hw315_2), ((HB.out.cell (World.block_lt_of_cell? w _ hw315_3)).trans hw315_3), ((HB.out.cell (World.block_lt_of_cell? w _ hw315_4)).trans hw315_4), ((HB.out.cell (World.block_lt_of_cell? w _ hw316_0)).trans hw316_0), ((HB.out.cell (World.block_lt_of_cell? w _ hw316_1)).trans hw316_1), ((HB.out.cell (World.block_lt_of_cell? w _ hw316_2)).trans hw316_2), ((HB.out.cell (World.block_lt_of_cell? w _ hw316_3)).trans hw316_3), ((HB.out.cell (World.block_lt_of_cell? w _ hw316_4)).trans hw316_4)⟩ (fun hHeld => ?_); refine with_tabW laws_eqEditS.tab6 laws_eqEditS.bits6 (fun HT_ HW_ => ?_)
         generalize wr.drew = w9 at HB hx315_0 hx315_1 hx315_2 hx315_3 hx315_4 hx316_0 hx316_1 hx316_2 hx316_3 hx316_4 hHeld ⊢
         refine pz 0 17 #[Y,O,O,O,O,O,O,O,O,O] HT_ ?_
         refine pz 1 18 #[Y,Y,O,O,O,O,O,O,O,O] HT_ ?_
         refine pz 2 19 #[Y,Y,Y,O,O,O,O,O,O,O] HT_ ?_
         refine pure_ (i := 4) (N := some 21) (v := ?_) (a' := ?_) #[Y,Y,Y,O,Y,O,O,O,O,O] rfl rfl (any_of HT_.out (by kernel_rfl)) (fun _ _ _ h => h) (Or.inl ⟨by rfl, ?_⟩) ?_ ?_
         rotate_left
         ·intro w'
          go_simp
          with_reducible rfl
         rotate_left
         ·simp only [Act.put, List.setIfInBounds_toArray, List.set_cons_zero, List.set_cons_succ, i64_w, i32_w]
          rfl
         refine pure_ (i := 5) (N := some 22) (v := ?_) (a' := ?_) #[Y,Y,Y,O,Y,Y,O,O,O,O] rfl rfl (any_of HT_.out (by kernel_rfl)) (fun _ _ _ h => h) (Or.inl ⟨by rfl, ?_⟩) ?_ ?_
         rotate_left
         ·intro w'
          go_simp
          with_reducible rfl
         rotate_left
         ·simp only [Act.put, List.setIfInBounds_toArray, List.set_cons_zero, List.set_cons_succ, i64_w, i32_w]
          rfl
         refine pure_ (i := 6) (N := some 23) (v := ?_) (a' := ?_) #[Y,Y,Y,O,Y,Y,Y,O,O,O] rfl rfl (any_of HT_.out (by kernel_rfl)) (fun _ _ _ h => h) (Or.inl ⟨by rfl, ?_⟩) ?_ ?_
         rotate_left
         ·intro w'
          go_simp
          with_reducible rfl
         rotate_left
         ·simp only [Act.put, List.setIfInBounds_toArray, List.set_cons_zero, List.set_cons_succ, i64_w, i32_w]
          rfl
         refine take_ (i := 3) (N := some 20) (v := ?_) (a' := ?_) #[Y,Y,Y,Y,Y,Y,Y,O,O,O] rfl rfl (take_ofW HT_.out HW_.out (by kernel_rfl)) (fun _ _ _ h => h) (Or.inl ⟨by rfl, ?_⟩) hHeld ?_ ?_
         rotate_left
         ·rintro w' ⟨s0, s1, s2, s3, s4, s5, s6, s7, s8, s9⟩
          go_simp
          with_reducible rfl
         rotate_left
         ·simp only [Act.put, List.setIfInBounds_toArray, List.set_cons_zero, List.set_cons_succ, i64_w, i32_w]
          rfl
         refine tz 7 24 #[Y,Y,Y,Y,Y,Y,Y,Y,O,O] HT_ HW_ hHeld ?_ (hr := by rintro w' ⟨s0, s1, s2, s3, s4, s5, s6, s7, s8, s9⟩; go_simp; with_reducible rfl)
         refine one_ (i := 8) (N := some 25) #[Y,Y,Y,Y,Y,Y,Y,Y,Y,O] rfl rfl (one_of HT_.out (by kernel_rfl)) (by decide) (fun K hK => ?_)
         refine goes_ Tryd.func25 (by kernel_rfl) rfl #[.agg #[.int .i64 ((rd_T34 l0 x5_1).f0), .string ((rd_T34 l0 x5_1).f1), .string ((rd_T34 l0 x5_1).f2), .int .i64 ((rd_T34 l0 x5_1).f3), .int .i64 ((rd_T34 l0 x5_1).f4)], .agg #[.int .i64 ((rd_T34 l1 x5_1).f0), .string ((rd_T34 l1 x5_1).f1), .string ((rd_T34 l1 x5_1).f2), .int .i64 ((rd_T34 l1 x5_1).f3), .int .i64 ((rd_T34 l1 x5_1).f4)]] (by rfl) rfl rfl (by (try simp only [List.map_toArray, List.map_cons, List.map_nil]); first | done | rfl | (simp only [List.length_drop, List.length_take]; rfl)) ?_
         with_reducible refine (laws_eqEdit.calls ((rd_T34 l0 x5_1).f0) ((rd_T34 l0 x5_1).f1) ((rd_T34 l0 x5_1).f2) ((rd_T34 l0 x5_1).f3) ((rd_T34 l0 x5_1).f4) ((rd_T34 l1 x5_1).f0) ((rd_T34 l1 x5_1).f1) ((rd_T34 l1 x5_1).f2) ((rd_T34 l1 x5_1).f3) ((rd_T34 l1 x5_1).f4) true _ A7.out).mono ?_
         rintro e w10 ⟨rfl, hb⟩
         refine ⟨_, rfl, ?_⟩
         have n0_ := Aside0.mk (below_step (pl0 HB.out) hb)
         clear HB
         have HB := n0_
         clear n0_
         (try clear hb)
         (try clear hb2)
         (try clear hk)
         (try clear hi)
         refine hK.out _ _ ⟨((HB.out.cell (World.block_lt_of_cell? w _ hw315_0)).trans hw315_0), ((HB.out.cell (World.block_lt_of_cell? w _ hw315_1)).trans hw315_1), ((HB.out.cell (World.block_lt_of_cell? w _ hw315_2)).trans hw315_2), ((HB.out.cell (World.block_lt_of_cell? w _ hw315_3)).trans hw315_3), ((HB.out.cell (World.block_lt_of_cell? w _ hw315_4)).trans hw315_4), ((HB.out.cell (World.block_lt_of_cell? w _ hw316_0)).trans hw316_0), ((HB.out.cell (World.block_lt_of_cell? w _ hw316_1)).trans hw316_1), ((HB.out.cell (World.block_lt_of_cell? w _ hw316_2)).trans hw316_2), ((HB.out.cell (World.block_lt_of_cell? w _ hw316_3)).trans hw316_3), ((HB.out.cell (World.block_lt_of_cell? w _ hw316_4)).trans hw316_4)⟩ (fun hHeld => ?_)
         clear hK K
         refine norm_ (a' := ?_) ?_ ?_
         rotate_left
         ·show Act.put _ (some 25) _ = _
          simp only [Act.put, List.setIfInBounds_toArray, List.set_cons_zero, List.set_cons_succ, i64_w, i32_w]
          rfl
         refine pz 9 26 #[Y,Y,Y,Y,Y,Y,Y,Y,Y,Y] HT_ ?_
         refine done_ (done_of HT_.out (by kernel_rfl)) ?_
         try go_wp2
         go_roundg k1
         case measure => have := HK1.out; omega
         case rel => exact ⟨(wrap64 (x5_1 + 1)), eqa, H', ⟨by have := HK1.out; omega⟩, ⟨pl0 HB.out⟩⟩
        ·replace c8 := Bool.eq_false_iff.mpr c8
         subst c8
         have H1 : (some false) = some r := by rw [if_neg (show ¬ (false = true) by decide)] at H; exact H
         clear H
         have H := H1
         clear H1
         obtain rfl := Option.some.inj H
         try go_wp2
         have n0_ := Aside0.mk (below_drew1 HB.out)
         clear HB
         have HB := n0_
         clear n0_
         have p315 : 0 ≤ (x5_1 : Int) := oda
         have q315 : x5_1 < (l0.length : Int) := oda
         obtain ⟨ad315, e315, hx315_0, hx315_1, hx315_2, hx315_3, hx315_4⟩ := at_T34 HR0.out x5_1 p315 q315
         have hw315_4 := hx315_4
         have hw315_3 := hx315_3
         have hw315_2 := hx315_2
         have hw315_1 := hx315_1
         have hw315_0 := hx315_0
         cases e315
         replace hx315_0 := hbc HB.out hx315_0
         replace hx315_1 := hbc HB.out hx315_1
         replace hx315_2 := hbc HB.out hx315_2
         replace hx315_3 := hbc HB.out hx315_3
         replace hx315_4 := hbc HB.out hx315_4
         replace p315 := eq_true p315
         replace q315 := eq_true q315
         have p316 : 0 ≤ (x5_1 : Int) := oda
         have q316 : x5_1 < (l1.length : Int) := oda
         obtain ⟨ad316, e316, hx316_0, hx316_1, hx316_2, hx316_3, hx316_4⟩ := at_T34 HR1.out x5_1 p316 q316
         have hw316_4 := hx316_4
         have hw316_3 := hx316_3
         have hw316_2 := hx316_2
         have hw316_1 := hx316_1
         have hw316_0 := hx316_0
         cases e316
         replace hx316_0 := hbc HB.out hx316_0
         replace hx316_1 := hbc HB.out hx316_1
         replace hx316_2 := hbc HB.out hx316_2
         replace hx316_3 := hbc HB.out hx316_3
         replace hx316_4 := hbc HB.out hx316_4
         replace p316 := eq_true p316
         replace q316 := eq_true q316
         refine start_ (n := 10) (S := fun w' => w'.cell? (ad315.add ((x5_1).toNat * 5)) = some (.int .i64 ((rd_T34 l0 x5_1).f0)) ∧ w'.cell? ⟨(ad315.add ((x5_1).toNat * 5)).block, (ad315.add ((x5_1).toNat * 5)).off + 1, none⟩ = some (.string ((rd_T34 l0 x5_1).f1)) ∧ w'.cell? ⟨(ad315.add ((x5_1).toNat * 5)).block, (ad315.add ((x5_1).toNat * 5)).off + 2, none⟩ = some (.string ((rd_T34 l0 x5_1).f2)) ∧ w'.cell? ⟨(ad315.add ((x5_1).toNat * 5)).block, (ad315.add ((x5_1).toNat * 5)).off + 3, none⟩ = some (.int .i64 ((rd_T34 l0 x5_1).f3)) ∧ w'.cell? ⟨(ad315.add ((x5_1).toNat * 5)).block, (ad315.add ((x5_1).toNat * 5)).off + 4, none⟩ = some (.int .i64 ((rd_T34 l0 x5_1).f4)) ∧ w'.cell? (ad316.add ((x5_1).toNat * 5)) = some (.int .i64 ((rd_T34 l1 x5_1).f0)) ∧ w'.cell? ⟨(ad316.add ((x5_1).toNat * 5)).block, (ad316.add ((x5_1).toNat * 5)).off + 1, none⟩ = some (.string ((rd_T34 l1 x5_1).f1)) ∧ w'.cell? ⟨(ad316.add ((x5_1).toNat * 5)).block, (ad316.add ((x5_1).toNat * 5)).off + 2, none⟩ = some (.string ((rd_T34 l1 x5_1).f2)) ∧ w'.cell? ⟨(ad316.add ((x5_1).toNat * 5)).block, (ad316.add ((x5_1).toNat * 5)).off + 3, none⟩ = some (.int .i64 ((rd_T34 l1 x5_1).f3)) ∧ w'.cell? ⟨(ad316.add ((x5_1).toNat * 5)).block, (ad316.add ((x5_1).toNat * 5)).off + 4, none⟩ = some (.int .i64 ((rd_T34 l1 x5_1).f4))) (ds := []) #[O,O,O,O,O,O,O,O,O,O] (by kernel_rfl) rfl rfl ⟨((HB.out.cell (World.block_lt_of_cell? w _ hw315_0)).trans hw315_0), ((HB.out.cell (World.block_lt_of_cell? w _ hw315_1)).trans hw315_1), ((HB.out.cell (World.block_lt_of_cell? w _ hw315_2)).trans hw315_2), ((HB.out.cell (World.block_lt_of_cell? w _ hw315_3)).trans hw315_3), ((HB.out.cell (World.block_lt_of_cell? w _ hw315_4)).trans hw315_4), ((HB.out.cell (World.block_lt_of_cell? w _ hw316_0)).trans hw316_0), ((HB.out.cell (World.block_lt_of_cell? w _ hw316_1)).trans hw316_1), ((HB.out.cell (World.block_lt_of_cell? w _ hw316_2)).trans hw316_2), ((HB.out.cell (World.block_lt_of_cell? w _ hw316_3)).trans hw316_3), ((HB.out.cell (World.block_lt_of_cell? w _ hw316_4)).trans hw316_4)⟩ (fun hHeld => ?_); refine with_tabW laws_eqEditS.tab6 laws_eqEditS.bits6 (fun HT_ HW_ => ?_)
         generalize wr.drew = w11 at HB hx315_0 hx315_1 hx315_2 hx315_3 hx315_4 hx316_0 hx316_1 hx316_2 hx316_3 hx316_4 hHeld ⊢
         refine pz 0 17 #[Y,O,O,O,O,O,O,O,O,O] HT_ ?_
         refine pz 1 18 #[Y,Y,O,O,O,O,O,O,O,O] HT_ ?_
         refine pz 2 19 #[Y,Y,Y,O,O,O,O,O,O,O] HT_ ?_
         refine pure_ (i := 4) (N := some 21) (v := ?_) (a' := ?_) #[Y,Y,Y,O,Y,O,O,O,O,O] rfl rfl (any_of HT_.out (by kernel_rfl)) (fun _ _ _ h => h) (Or.inl ⟨by rfl, ?_⟩) ?_ ?_
         rotate_left
         ·intro w'
          go_simp
          with_reducible rfl
         rotate_left
         ·simp only [Act.put, List.setIfInBounds_toArray, List.set_cons_zero, List.set_cons_succ, i64_w, i32_w]
          rfl
         refine pure_ (i := 5) (N := some 22) (v := ?_) (a' := ?_) #[Y,Y,Y,O,Y,Y,O,O,O,O] rfl rfl (any_of HT_.out (by kernel_rfl)) (fun _ _ _ h => h) (Or.inl ⟨by rfl, ?_⟩) ?_ ?_
         rotate_left
         ·intro w'
          go_simp
          with_reducible rfl
         rotate_left
         ·simp only [Act.put, List.setIfInBounds_toArray, List.set_cons_zero, List.set_cons_succ, i64_w, i32_w]
          rfl
         refine pure_ (i := 6) (N := some 23) (v := ?_) (a' := ?_) #[Y,Y,Y,O,Y,Y,Y,O,O,O] rfl rfl (any_of HT_.out (by kernel_rfl)) (fun _ _ _ h => h) (Or.inl ⟨by rfl, ?_⟩) ?_ ?_
         rotate_left
         ·intro w'
          go_simp
          with_reducible rfl
         rotate_left
         ·simp only [Act.put, List.setIfInBounds_toArray, List.set_cons_zero, List.set_cons_succ, i64_w, i32_w]
          rfl
         refine take_ (i := 3) (N := some 20) (v := ?_) (a' := ?_) #[Y,Y,Y,Y,Y,Y,Y,O,O,O] rfl rfl (take_ofW HT_.out HW_.out (by kernel_rfl)) (fun _ _ _ h => h) (Or.inl ⟨by rfl, ?_⟩) hHeld ?_ ?_
         rotate_left
         ·rintro w' ⟨s0, s1, s2, s3, s4, s5, s6, s7, s8, s9⟩
          go_simp
          with_reducible rfl
         rotate_left
         ·simp only [Act.put, List.setIfInBounds_toArray, List.set_cons_zero, List.set_cons_succ, i64_w, i32_w]
          rfl
         refine tz 7 24 #[Y,Y,Y,Y,Y,Y,Y,Y,O,O] HT_ HW_ hHeld ?_ (hr := by rintro w' ⟨s0, s1, s2, s3, s4, s5, s6, s7, s8, s9⟩; go_simp; with_reducible rfl)
         refine one_ (i := 8) (N := some 25) #[Y,Y,Y,Y,Y,Y,Y,Y,Y,O] rfl rfl (one_of HT_.out (by kernel_rfl)) (by decide) (fun K hK => ?_)
         refine goes_ Tryd.func25 (by kernel_rfl) rfl #[.agg #[.int .i64 ((rd_T34 l0 x5_1).f0), .string ((rd_T34 l0 x5_1).f1), .string ((rd_T34 l0 x5_1).f2), .int .i64 ((rd_T34 l0 x5_1).f3), .int .i64 ((rd_T34 l0 x5_1).f4)], .agg #[.int .i64 ((rd_T34 l1 x5_1).f0), .string ((rd_T34 l1 x5_1).f1), .string ((rd_T34 l1 x5_1).f2), .int .i64 ((rd_T34 l1 x5_1).f3), .int .i64 ((rd_T34 l1 x5_1).f4)]] (by rfl) rfl rfl (by (try simp only [List.map_toArray, List.map_cons, List.map_nil]); first | done | rfl | (simp only [List.length_drop, List.length_take]; rfl)) ?_
         with_reducible refine (laws_eqEdit.calls ((rd_T34 l0 x5_1).f0) ((rd_T34 l0 x5_1).f1) ((rd_T34 l0 x5_1).f2) ((rd_T34 l0 x5_1).f3) ((rd_T34 l0 x5_1).f4) ((rd_T34 l1 x5_1).f0) ((rd_T34 l1 x5_1).f1) ((rd_T34 l1 x5_1).f2) ((rd_T34 l1 x5_1).f3) ((rd_T34 l1 x5_1).f4) false _ A7.out).mono ?_
         rintro e w12 ⟨rfl, hb⟩
         refine ⟨_, rfl, ?_⟩
         have n0_ := Aside0.mk (below_step (pl0 HB.out) hb)
         clear HB
         have HB := n0_
         clear n0_
         (try clear hb)
         (try clear hb2)
         (try clear hk)
         (try clear hi)
         refine hK.out _ _ ⟨((HB.out.cell (World.block_lt_of_cell? w _ hw315_0)).trans hw315_0), ((HB.out.cell (World.block_lt_of_cell? w _ hw315_1)).trans hw315_1), ((HB.out.cell (World.block_lt_of_cell? w _ hw315_2)).trans hw315_2), ((HB.out.cell (World.block_lt_of_cell? w _ hw315_3)).trans hw315_3), ((HB.out.cell (World.block_lt_of_cell? w _ hw315_4)).trans hw315_4), ((HB.out.cell (World.block_lt_of_cell? w _ hw316_0)).trans hw316_0), ((HB.out.cell (World.block_lt_of_cell? w _ hw316_1)).trans hw316_1), ((HB.out.cell (World.block_lt_of_cell? w _ hw316_2)).trans hw316_2), ((HB.out.cell (World.block_lt_of_cell? w _ hw316_3)).trans hw316_3), ((HB.out.cell (World.block_lt_of_cell? w _ hw316_4)).trans hw316_4)⟩ (fun hHeld => ?_)
         clear hK K
         refine norm_ (a' := ?_) ?_ ?_
         rotate_left
         ·show Act.put _ (some 25) _ = _
          simp only [Act.put, List.setIfInBounds_toArray, List.set_cons_zero, List.set_cons_succ, i64_w, i32_w]
          rfl
         refine pz 9 26 #[Y,Y,Y,Y,Y,Y,Y,Y,Y,Y] HT_ ?_
         refine done_ (done_of HT_.out (by kernel_rfl)) ?_
         try go_wp2
         go_ret
         exact ⟨erq, pl0 HB.out⟩
       ·rw [if_neg c6] at H
        exact absurd H (by simp)
      ·rw [if_neg c5] at H
       exact absurd H (by simp)
     ·rw [if_neg c4] at H
      have c4b0 : decide (x5_1 < (l0.length : Int)) = false := decide_eq_false c4
      clear c4
      obtain rfl := Option.some.inj H
      go_wp2
      go_ret
      exact ⟨erq, pl0 HB.out⟩
  ·rw [if_neg c3] at H
   have c3b0 : ((l0.length : Int) == (l1.length : Int)) = false := beq_eq_false_iff_ne.mpr c3
   have c3b1 : ((l0.length : Int) != (l1.length : Int)) = true := bne_iff_ne.mpr c3
   have c3b2 : (l0.length == l1.length) = false := by first | simpa using c3 | (simp at c3 ⊢; omega)
   obtain rfl := Option.some.inj H
   go_enter Tryd.func33, Tryd.ntmps33
   go_wp2
   go_ret
   exact ⟨erq, pl0 HB.out⟩
end Go.Proofs.YtffnjbhimhbomaaDoor.QTG
