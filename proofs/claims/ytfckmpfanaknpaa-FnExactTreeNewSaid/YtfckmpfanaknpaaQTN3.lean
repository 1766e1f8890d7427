/- Walks, as the kit's print writes them, run with stubs of my own and mended: TN. -/
import Derived.Test.YtfckmpfanaknpaaQTN0
import Derived.Test.YtfckmpfanaknpaaQTN2
namespace Go.Proofs.Ytfckmpfanaknpaa.QTN
open Go.Proofs.YtfckmpfanaknpaaW Go.Proofs.YtfckmpfanaknpaaW.Zip
open Go.RowKit Go.Proofs.YtfckmpfanaknpaaW.PrintWords Go.Proofs.YtfckmpfanaknpaaW.PrintLast Go.Proofs.YtfckmpfanaknpaaW.PrintMore
attribute [local go_sem] max2_int min2_int max_two min_two max_three min_three max_four min_four   -- for this text's walks alone
set_option linter.unusedVariables false
set_option linter.unusedSimpArgs false

/-! ### laws_heldInodeS: function 11 -/
def laws_heldInodeS.l0 : Nat → List (S31) → Int → Int → Option (Int)
  | 0, _, _, _ => none
  | k + 1, x0, x1, x5 => if x5 < (x0.length : Int) then (if 0 ≤ x5 then (if ((rd_T31 x0 x5).f0) = x1 then (if ((rd_T31 x0 x5).f1) = (wrap64 (x1 + 1)) then ((laws_markText.f k (wrap64 ((wrap64 (x1 + 1)) + 1))).bind fun t146 => (if ((rd_T31 x0 x5).f2).toList = t146.toList then (if (((rd_T31 x0 x5).f3) != ((Int.tmod (wrap64 ((wrap64 ((wrap64 (x1 + 1)) + 1)) + 1)) 3) == 0)) = true then (some (-1)) else (if ((rd_T31 x0 x5).f4) = (wrap64 ((wrap64 ((wrap64 ((wrap64 (x1 + 1)) + 1)) + 1)) + 1)) then (if ((rd_T31 x0 x5).f5) = (wrap64 ((wrap64 ((wrap64 ((wrap64 ((wrap64 (x1 + 1)) + 1)) + 1)) + 1)) + 1)) then (if ((rd_T31 x0 x5).f6) = (wrap64 ((wrap64 ((wrap64 ((wrap64 ((wrap64 ((wrap64 (x1 + 1)) + 1)) + 1)) + 1)) + 1)) + 1)) then ((laws_heldPieceS.f k ((rd_T31 x0 x5).f7) (wrap64 ((wrap64 ((wrap64 ((wrap64 ((wrap64 ((wrap64 ((wrap64 (x1 + 1)) + 1)) + 1)) + 1)) + 1)) + 1)) + 1))).bind fun t152 => (if t152 < 0 then (some (-1)) else (if ((rd_T31 x0 x5).f8) = t152 then (laws_heldInodeS.l0 k x0 (wrap64 (t152 + 1)) (wrap64 (x5 + 1))) else (some (-1))))) else (some (-1))) else (some (-1))) else (some (-1)))) else (some (-1)))) else (some (-1))) else (some (-1))) else (none)) else (some x1)
def laws_heldInodeS.f (k : Nat) (l0 : List (S31)) (a1 : Int) : Option (Int) := laws_heldInodeS.l0 k l0 a1 0
theorem laws_heldInodeS.mono_l : ∀ k, (∀ y0 y1 y2, LeO (laws_heldInodeS.l0 k y0 y1 y2) (laws_heldInodeS.l0 (k + 1) y0 y1 y2))
  | 0 => fun _ _ _ r h => by simp [laws_heldInodeS.l0] at h
  | k + 1 => by
    have ih0 := laws_heldInodeS.mono_l k
    · intro y0 y1 y2
      unfold laws_heldInodeS.l0
      repeat' first
      | (with_reducible exact ih0 _ _ _)
      | (with_reducible exact laws_heldPieceS.mono _ _ _)
      | (with_reducible exact laws_markText.mono _ _)
      | (with_reducible exact LeO.refl _)
      | (with_reducible exact LeO.none _)
      | (with_reducible refine LeO.ite ?_ ?_)
      | (with_reducible refine LeO.bind ?_ (fun _ => ?_))
      | exact ih0 _ _ _
      | exact laws_heldPieceS.mono _ _ _
      | exact laws_markText.mono _ _
      | exact LeO.none _
      | refine LeO.ite ?_ ?_
      | refine LeO.bind ?_ (fun _ => ?_)
theorem laws_heldInodeS.mono : ∀ a0 a1 k, LeO (laws_heldInodeS.f k a0 a1) (laws_heldInodeS.f (k + 1) a0 a1) := by
  intro a0 a1 k
  have ih0 := laws_heldInodeS.mono_l k
  unfold laws_heldInodeS.f
  repeat' first
      | (with_reducible exact ih0 _ _ _)
      | (with_reducible exact laws_heldPieceS.mono _ _ _)
      | (with_reducible exact laws_markText.mono _ _)
      | (with_reducible exact LeO.refl _)
      | (with_reducible exact LeO.none _)
      | (with_reducible refine LeO.ite ?_ ?_)
      | (with_reducible refine LeO.bind ?_ (fun _ => ?_))
      | exact ih0 _ _ _
      | exact laws_heldPieceS.mono _ _ _
      | exact laws_markText.mono _ _
      | exact LeO.none _
      | refine LeO.ite ?_ ?_
      | refine LeO.bind ?_ (fun _ => ?_)
def laws_heldInodeS.T10 : Bool × List (List Nat × List Nat) := (true, [([], []), ([], []), ([0, 1], [0, 1]), ([2], [2]), ([3], [3]), ([], []), ([5], [5]), ([4, 6], [4, 6])])
def laws_heldInodeS.B10 : List Nat := [0, 0, 3, 7, 15, 0, 32, 127]
theorem laws_heldInodeS.tab10 : rtab .any (opsOf Try.f11 10) = laws_heldInodeS.T10 := by kernel_rfl
theorem laws_heldInodeS.bits10 : waitsOk laws_heldInodeS.T10.2 laws_heldInodeS.B10 = true := by kernel_rfl
set_option maxHeartbeats 8000000 in
set_option maxRecDepth 100000 in
theorem laws_heldInodeS.calls (k : Nat) (A0 : Option Addr) (c0 : Nat) (l0 : List (S31)) (a1 : Int) (r : Int) (w : World) (hr0 : Kd.C k31 w A0 l0.length l0) (hc0 : l0.length ≤ c0) (h : laws_heldInodeS.f k l0 a1 = some r) :
    Calls Try.prog 11 #[.slice A0 l0.length c0, .int .i64 a1] w fun e w' => e = .returned (.int .i64 r) ∧ Below w.heap.size w w' := by
  have HR0 := Aside0.mk hr0
  have HC0 := Aside0.mk hc0
  clear hr0 hc0
  have HB := Aside0.mk (Below.refl w.heap.size w)
  have H : (laws_heldInodeS.l0 k l0 a1 0) = some r := h
  clear h
  have H' := Aside0.mk H
  clear H
  go_enter Try.func11, Try.ntmps11
  go_wp2
  go_loopg [1, 5] k (fun kq v1 v5 w' => ∃ (x1_1 : Int) (x5_1 : Int), v1 = .int .i64 x1_1 ∧ v5 = .int .i64 x5_1 ∧ Aside0 (laws_heldInodeS.l0 kq l0 x1_1 x5_1 = some r) ∧ Aside0 (kq ≤ k) ∧ Aside0 (Below w.heap.size w w'))
  case atStart => exact ⟨(a1), (0), eqa, eqa, H', ⟨Nat.le_refl _⟩, ⟨pl0 HB.out⟩⟩
  case round =>
   clear H'
   obtain ⟨x1_1, x5_1, rfl, rfl, HA, HK1, HB⟩ := hrel
   cases gk with
   | zero => exact absurd HA.out (by simp [laws_heldInodeS.l0])
   | succ k1 =>
    have H := HA.out
    clear HA
    simp only [laws_heldInodeS.l0] at H
    by_cases c3 : x5_1 < (l0.length : Int)
    ·rw [if_pos c3] at H
     have c3b0 : decide (x5_1 < (l0.length : Int)) = true := decide_eq_true c3
     clear c3
     by_cases c4 : 0 ≤ x5_1
     ·rw [if_pos c4] at H
      have c4b0 : decide (0 ≤ x5_1) = true := decide_eq_true c4
      clear c4
      by_cases c5 : ((rd_T31 l0 x5_1).f0) = x1_1
      ·rw [if_pos c5] at H
       have c5b0 : (((rd_T31 l0 x5_1).f0) == x1_1) = true := beq_iff_eq.mpr c5
       have c5b1 : (((rd_T31 l0 x5_1).f0) != x1_1) = false := bne_eq_false_iff_eq.mpr c5
       clear c5
       by_cases c6 : ((rd_T31 l0 x5_1).f1) = (wrap64 (x1_1 + 1))
       ·rw [if_pos c6] at H
        have c6b0 : (((rd_T31 l0 x5_1).f1) == (wrap64 (x1_1 + 1))) = true := beq_iff_eq.mpr c6
        have c6b1 : (((rd_T31 l0 x5_1).f1) != (wrap64 (x1_1 + 1))) = false := bne_eq_false_iff_eq.mpr c6
        clear c6
        replace H := Option.bind_eq_some_iff.mp H
        obtain ⟨t146, A70, H⟩ := H
        replace H : (if ((rd_T31 l0 x5_1).f2).toList = t146.toList then (if (((rd_T31 l0 x5_1).f3) != ((Int.tmod (wrap64 ((wrap64 ((wrap64 (x1_1 + 1)) + 1)) + 1)) 3) == 0)) = true then (some (-1)) else (if ((rd_T31 l0 x5_1).f4) = (wrap64 ((wrap64 ((wrap64 ((wrap64 (x1_1 + 1)) + 1)) + 1)) + 1)) then (if ((rd_T31 l0 x5_1).f5) = (wrap64 ((wrap64 ((wrap64 ((wrap64 ((wrap64 (x1_1 + 1)) + 1)) + 1)) + 1)) + 1)) then (if ((rd_T31 l0 x5_1).f6) = (wrap64 ((wrap64 ((wrap64 ((wrap64 ((wrap64 ((wrap64 (x1_1 + 1)) + 1)) + 1)) + 1)) + 1)) + 1)) then ((laws_heldPieceS.f k1 ((rd_T31 l0 x5_1).f7) (wrap64 ((wrap64 ((wrap64 ((wrap64 ((wrap64 ((wrap64 ((wrap64 (x1_1 + 1)) + 1)) + 1)) + 1)) + 1)) + 1)) + 1))).bind fun t152 => (if t152 < 0 then (some (-1)) else (if ((rd_T31 l0 x5_1).f8) = t152 then (laws_heldInodeS.l0 k1 l0 (wrap64 (t152 + 1)) (wrap64 (x5_1 + 1))) else (some (-1))))) else (some (-1))) else (some (-1))) else (some (-1)))) else (some (-1))) = some r := H
        have A7 := Aside0.mk A70
        clear A70
        by_cases c8 : ((rd_T31 l0 x5_1).f2).toList = t146.toList
        ·rw [if_pos c8] at H
         have c8b0 : (((rd_T31 l0 x5_1).f2).toList == t146.toList) = true := beq_iff_eq.mpr c8
         have c8b1 : (((rd_T31 l0 x5_1).f2).toList != t146.toList) = false := bne_eq_false_iff_eq.mpr c8
         clear c8
         by_cases c9 : (((rd_T31 l0 x5_1).f3) != ((Int.tmod (wrap64 ((wrap64 ((wrap64 (x1_1 + 1)) + 1)) + 1)) 3) == 0)) = true
         ·rw [if_pos c9] at H
          have c9b0 : (((rd_T31 l0 x5_1).f3) != ((Int.tmod (wrap64 ((wrap64 ((wrap64 (x1_1 + 1)) + 1)) + 1)) 3) == 0)) = true := c9
          (try (have c9b1 : decide (((rd_T31 l0 x5_1).f3) = ((Int.tmod (wrap64 ((wrap64 ((wrap64 (x1_1 + 1)) + 1)) + 1)) 3) == 0)) = false := by simpa using c9))
          (try (have c9b2 : (((rd_T31 l0 x5_1).f3) == ((Int.tmod (wrap64 ((wrap64 ((wrap64 (x1_1 + 1)) + 1)) + 1)) 3) == 0)) = false := by simpa using c9))
          (try (have c9b3 : ¬ (((rd_T31 l0 x5_1).f3) = ((Int.tmod (wrap64 ((wrap64 ((wrap64 (x1_1 + 1)) + 1)) + 1)) 3) == 0)) := by simpa using c9))
          clear c9
          obtain rfl := Option.some.inj H
          have p143 : 0 ≤ (x5_1 : Int) := oda
          have q143 : x5_1 < (l0.length : Int) := oda
          obtain ⟨ad143, A143_7, c143_7, e143, hx143_0, hx143_1, hx143_2, hx143_3, hx143_4, hx143_5, hx143_6, hx143_7, hx143_8, hl143_7, hi143_7⟩ := at_T31 HR0.out x5_1 p143 q143
          have hy143_7 := hx143_7
          cases e143
          replace hx143_0 := hbc HB.out hx143_0
          replace hx143_1 := hbc HB.out hx143_1
          replace hx143_2 := hbc HB.out hx143_2
          replace hx143_3 := hbc HB.out hx143_3
          replace hx143_4 := hbc HB.out hx143_4
          replace hx143_5 := hbc HB.out hx143_5
          replace hx143_6 := hbc HB.out hx143_6
          replace hx143_7 := hbc HB.out hx143_7
          replace hx143_8 := hbc HB.out hx143_8
          have HR143_7 := Aside0.mk hi143_7
          have HC143_7 := Aside0.mk hl143_7
          clear hi143_7 hl143_7
          replace p143 := eq_true p143
          replace q143 := eq_true q143
          have p144 : 0 ≤ (x5_1 : Int) := oda
          have q144 : x5_1 < (l0.length : Int) := oda
          obtain ⟨ad144, A144_7, c144_7, e144, hx144_0, hx144_1, hx144_2, hx144_3, hx144_4, hx144_5, hx144_6, hx144_7, hx144_8, hl144_7, hi144_7⟩ := at_T31 HR0.out x5_1 p144 q144
          have hy144_7 := hx144_7
          obtain rfl : ad143 = ad144 := (by injection e144)
          replace hx144_0 := hbc HB.out hx144_0
          replace hx144_1 := hbc HB.out hx144_1
          replace hx144_2 := hbc HB.out hx144_2
          replace hx144_3 := hbc HB.out hx144_3
          replace hx144_4 := hbc HB.out hx144_4
          replace hx144_5 := hbc HB.out hx144_5
          replace hx144_6 := hbc HB.out hx144_6
          replace hx144_7 := hbc HB.out hx144_7
          replace hx144_8 := hbc HB.out hx144_8
          have HR144_7 := Aside0.mk hi144_7
          have HC144_7 := Aside0.mk hl144_7
          clear hi144_7 hl144_7
          replace p144 := eq_true p144
          replace q144 := eq_true q144
          have ea_ := Option.some.inj (hx143_7.symm.trans hx144_7)
          injection ea_ with ea_ en_ ec_
          subst ea_
          subst ec_
          clear en_
          try go_wp2
          have n0_ := Aside0.mk (below_drew1 HB.out)
          clear HB
          have HB := n0_
          clear n0_
          have p145 : 0 ≤ (x5_1 : Int) := oda
          have q145 : x5_1 < (l0.length : Int) := oda
          obtain ⟨ad145, A145_7, c145_7, e145, hx145_0, hx145_1, hx145_2, hx145_3, hx145_4, hx145_5, hx145_6, hx145_7, hx145_8, hl145_7, hi145_7⟩ := at_T31 HR0.out x5_1 p145 q145
          have hy145_7 := hx145_7
          have hw145_8 := hx145_8
          have hw145_7 := hx145_7
          have hw145_6 := hx145_6
          have hw145_5 := hx145_5
          have hw145_4 := hx145_4
          have hw145_3 := hx145_3
          have hw145_2 := hx145_2
          have hw145_1 := hx145_1
          have hw145_0 := hx145_0
          obtain rfl : ad143 = ad145 := (by injection e145)
          replace hx145_0 := hbc HB.out hx145_0
          replace hx145_1 := hbc HB.out hx145_1
          replace hx145_2 := hbc HB.out hx145_2
          replace hx145_3 := hbc HB.out hx145_3
          replace hx145_4 := hbc HB.out hx145_4
          replace hx145_5 := hbc HB.out hx145_5
          replace hx145_6 := hbc HB.out hx145_6
          replace hx145_7 := hbc HB.out hx145_7
          replace hx145_8 := hbc HB.out hx145_8
          have HR145_7 := Aside0.mk hi145_7
          have HC145_7 := Aside0.mk hl145_7
          clear hi145_7 hl145_7
          replace p145 := eq_true p145
          replace q145 := eq_true q145
          refine start_ (n := 8) (S := fun w' => w'.cell? (ad143.add ((x5_1).toNat * 9)) = some (.int .i64 ((rd_T31 l0 x5_1).f0)) ∧ w'.cell? ⟨(ad143.add ((x5_1).toNat * 9)).block, (ad143.add ((x5_1).toNat * 9)).off + 1, none⟩ = some (.int .i64 ((rd_T31 l0 x5_1).f1)) ∧ w'.cell? ⟨(ad143.add ((x5_1).toNat * 9)).block, (ad143.add ((x5_1).toNat * 9)).off + 2, none⟩ = some (.string ((rd_T31 l0 x5_1).f2)) ∧ w'.cell? ⟨(ad143.add ((x5_1).toNat * 9)).block, (ad143.add ((x5_1).toNat * 9)).off + 3, none⟩ = some (.bool ((rd_T31 l0 x5_1).f3)) ∧ w'.cell? ⟨(ad143.add ((x5_1).toNat * 9)).block, (ad143.add ((x5_1).toNat * 9)).off + 4, none⟩ = some (.int .i64 ((rd_T31 l0 x5_1).f4)) ∧ w'.cell? ⟨(ad143.add ((x5_1).toNat * 9)).block, (ad143.add ((x5_1).toNat * 9)).off + 5, none⟩ = some (.int .i64 ((rd_T31 l0 x5_1).f5)) ∧ w'.cell? ⟨(ad143.add ((x5_1).toNat * 9)).block, (ad143.add ((x5_1).toNat * 9)).off + 6, none⟩ = some (.int .i64 ((rd_T31 l0 x5_1).f6)) ∧ w'.cell? ⟨(ad143.add ((x5_1).toNat * 9)).block, (ad143.add ((x5_1).toNat * 9)).off + 7, none⟩ = some (.slice A145_7 ((rd_T31 l0 x5_1).f7).length c145_7) ∧ w'.cell? ⟨(ad143.add ((x5_1).toNat * 9)).block, (ad143.add ((x5_1).toNat * 9)).off + 8, none⟩ = some (.int .i64 ((rd_T31 l0 x5_1).f8))) (ds := []) #[O,O,O,O,O,O,O,O] (by kernel_rfl) rfl rfl ⟨((HB.out.cell (World.block_lt_of_cell? w _ hw145_0)).trans hw145_0), ((HB.out.cell (World.block_lt_of_cell? w _ hw145_1)).trans hw145_1), ((HB.out.cell (World.block_lt_of_cell? w _ hw145_2)).trans hw145_2), ((HB.out.cell (World.block_lt_of_cell? w _ hw145_3)).trans hw145_3), ((HB.out.cell (World.block_lt_of_cell? w _ hw145_4)).trans hw145_4), ((HB.out.cell (World.block_lt_of_cell? w _ hw145_5)).trans hw145_5), ((HB.out.cell (World.block_lt_of_cell? w _ hw145_6)).trans hw145_6), ((HB.out.cell (World.block_lt_of_cell? w _ hw145_7)).trans hw145_7), ((HB.out.cell (World.block_lt_of_cell? w _ hw145_8)).trans hw145_8)⟩ (fun hHeld => ?_); refine with_tabW laws_heldInodeS.tab10 laws_heldInodeS.bits10 (fun HT_ HW_ => ?_)
          generalize wr.drew = w10 at HB HR145_7 hx145_0 hx145_1 hx145_2 hx145_3 hx145_4 hx145_5 hx145_6 hx145_7 hx145_8 hHeld ⊢
          refine pz 0 30 #[Y,O,O,O,O,O,O,O] HT_ ?_
          refine pz 1 31 #[Y,Y,O,O,O,O,O,O] HT_ ?_
          refine pz 2 32 #[Y,Y,Y,O,O,O,O,O] HT_ ?_
          refine pz 3 33 #[Y,Y,Y,Y,O,O,O,O] HT_ ?_
          refine pure_ (i := 5) (N := some 35) (v := ?_) (a' := ?_) #[Y,Y,Y,Y,O,Y,O,O] rfl rfl (any_of HT_.out (by kernel_rfl)) (fun _ _ _ h => h) (Or.inl ⟨by rfl, ?_⟩) ?_ ?_
          rotate_left
          ·intro w'
           go_simp
           with_reducible rfl
          rotate_left
          ·simp only [Act.put, List.setIfInBounds_toArray, List.set_cons_zero, List.set_cons_succ, i64_w, i32_w]
           rfl
          refine take_ (i := 4) (N := some 34) (v := ?_) (a' := ?_) #[Y,Y,Y,Y,Y,Y,O,O] rfl rfl (take_ofW HT_.out HW_.out (by kernel_rfl)) (fun _ _ _ h => h) (Or.inl ⟨by rfl, ?_⟩) hHeld ?_ ?_
          rotate_left
          ·rintro w' ⟨s0, s1, s2, s3, s4, s5, s6, s7, s8⟩
           go_simp
           with_reducible rfl
          rotate_left
          ·simp only [Act.put, List.setIfInBounds_toArray, List.set_cons_zero, List.set_cons_succ, i64_w, i32_w]
           rfl
          refine one_ (i := 6) (N := some 36) #[Y,Y,Y,Y,Y,Y,Y,O] rfl rfl (one_of HT_.out (by kernel_rfl)) (by decide) (fun K hK => ?_)
          refine goes_ Try.func13 (by kernel_rfl) rfl #[.int .i64 (wrap64 ((wrap64 (x1_1 + 1)) + 1))] (by rfl) rfl rfl (by (try simp only [List.map_toArray, List.map_cons, List.map_nil]); first | done | rfl | (simp only [List.length_drop, List.length_take]; rfl)) ?_
          with_reducible refine (laws_markText.calls k1 (wrap64 ((wrap64 (x1_1 + 1)) + 1)) t146 _ A7.out).mono ?_
          rintro e w11 ⟨rfl, hb⟩
          refine ⟨_, rfl, ?_⟩
          have n0_ := Aside0.mk (below_step (pl0 HB.out) hb)
          clear HB
          have HB := n0_
          clear n0_
          (try clear hb)
          (try clear hb2)
          (try clear hk)
          (try clear hi)
          refine hK.out _ _ ⟨((HB.out.cell (World.block_lt_of_cell? w _ hw145_0)).trans hw145_0), ((HB.out.cell (World.block_lt_of_cell? w _ hw145_1)).trans hw145_1), ((HB.out.cell (World.block_lt_of_cell? w _ hw145_2)).trans hw145_2), ((HB.out.cell (World.block_lt_of_cell? w _ hw145_3)).trans hw145_3), ((HB.out.cell (World.block_lt_of_cell? w _ hw145_4)).trans hw145_4), ((HB.out.cell (World.block_lt_of_cell? w _ hw145_5)).trans hw145_5), ((HB.out.cell (World.block_lt_of_cell? w _ hw145_6)).trans hw145_6), ((HB.out.cell (World.block_lt_of_cell? w _ hw145_7)).trans hw145_7), ((HB.out.cell (World.block_lt_of_cell? w _ hw145_8)).trans hw145_8)⟩ (fun hHeld => ?_)
          clear hK K
          refine norm_ (a' := ?_) ?_ ?_
          rotate_left
          ·show Act.put _ (some 36) _ = _
           simp only [Act.put, List.setIfInBounds_toArray, List.set_cons_zero, List.set_cons_succ, i64_w, i32_w]
           rfl
          refine pz 7 37 #[Y,Y,Y,Y,Y,Y,Y,Y] HT_ ?_
          refine done_ (done_of HT_.out (by kernel_rfl)) ?_
          have p147 : 0 ≤ (x5_1 : Int) := oda
          have q147 : x5_1 < (l0.length : Int) := oda
          obtain ⟨ad147, A147_7, c147_7, e147, hx147_0, hx147_1, hx147_2, hx147_3, hx147_4, hx147_5, hx147_6, hx147_7, hx147_8, hl147_7, hi147_7⟩ := at_T31 HR0.out x5_1 p147 q147
          have hy147_7 := hx147_7
          obtain rfl : ad143 = ad147 := (by injection e147)
          have ea_ := Option.some.inj (hy147_7.symm.trans hy145_7)
          injection ea_ with ea_ en_ ec_
          subst ea_
          subst ec_
          clear en_
          replace hx147_0 := hbc HB.out hx147_0
          replace hx147_1 := hbc HB.out hx147_1
          replace hx147_2 := hbc HB.out hx147_2
          replace hx147_3 := hbc HB.out hx147_3
          replace hx147_4 := hbc HB.out hx147_4
          replace hx147_5 := hbc HB.out hx147_5
          replace hx147_6 := hbc HB.out hx147_6
          replace hx147_7 := hbc HB.out hx147_7
          replace hx147_8 := hbc HB.out hx147_8
          have HR147_7 := Aside0.mk hi147_7
          have HC147_7 := Aside0.mk hl147_7
          clear hi147_7 hl147_7
          replace p147 := eq_true p147
          replace q147 := eq_true q147
          try go_wp2
          go_ret
          exact ⟨erq, pl0 HB.out⟩
         ·rw [if_neg c9] at H
          have c9b0 : (((rd_T31 l0 x5_1).f3) != ((Int.tmod (wrap64 ((wrap64 ((wrap64 (x1_1 + 1)) + 1)) + 1)) 3) == 0)) = false := by simpa using c9
          (try (have c9b1 : decide (((rd_T31 l0 x5_1).f3) = ((Int.tmod (wrap64 ((wrap64 ((wrap64 (x1_1 + 1)) + 1)) + 1)) 3) == 0)) = true := by simpa using c9))
          (try (have c9b2 : (((rd_T31 l0 x5_1).f3) == ((Int.tmod (wrap64 ((wrap64 ((wrap64 (x1_1 + 1)) + 1)) + 1)) 3) == 0)) = true := by simpa using c9))
          clear c9
          by_cases c12 : ((rd_T31 l0 x5_1).f4) = (wrap64 ((wrap64 ((wrap64 ((wrap64 (x1_1 + 1)) + 1)) + 1)) + 1))
          ·rw [if_pos c12] at H
           have c12b0 : (((rd_T31 l0 x5_1).f4) == (wrap64 ((wrap64 ((wrap64 ((wrap64 (x1_1 + 1)) + 1)) + 1)) + 1))) = true := beq_iff_eq.mpr c12
           have c12b1 : (((rd_T31 l0 x5_1).f4) != (wrap64 ((wrap64 ((wrap64 ((wrap64 (x1_1 + 1)) + 1)) + 1)) + 1))) = false := bne_eq_false_iff_eq.mpr c12
           clear c12
           by_cases c13 : ((rd_T31 l0 x5_1).f5) = (wrap64 ((wrap64 ((wrap64 ((wrap64 ((wrap64 (x1_1 + 1)) + 1)) + 1)) + 1)) + 1))
           ·rw [if_pos c13] at H
            have c13b0 : (((rd_T31 l0 x5_1).f5) == (wrap64 ((wrap64 ((wrap64 ((wrap64 ((wrap64 (x1_1 + 1)) + 1)) + 1)) + 1)) + 1))) = true := beq_iff_eq.mpr c13
            have c13b1 : (((rd_T31 l0 x5_1).f5) != (wrap64 ((wrap64 ((wrap64 ((wrap64 ((wrap64 (x1_1 + 1)) + 1)) + 1)) + 1)) + 1))) = false := bne_eq_false_iff_eq.mpr c13
            clear c13
            by_cases c14 : ((rd_T31 l0 x5_1).f6) = (wrap64 ((wrap64 ((wrap64 ((wrap64 ((wrap64 ((wrap64 (x1_1 + 1)) + 1)) + 1)) + 1)) + 1)) + 1))
            ·rw [if_pos c14] at H
             have c14b0 : (((rd_T31 l0 x5_1).f6) == (wrap64 ((wrap64 ((wrap64 ((wrap64 ((wrap64 ((wrap64 (x1_1 + 1)) + 1)) + 1)) + 1)) + 1)) + 1))) = true := beq_iff_eq.mpr c14
             have c14b1 : (((rd_T31 l0 x5_1).f6) != (wrap64 ((wrap64 ((wrap64 ((wrap64 ((wrap64 ((wrap64 (x1_1 + 1)) + 1)) + 1)) + 1)) + 1)) + 1))) = false := bne_eq_false_iff_eq.mpr c14
             clear c14
             replace H := Option.bind_eq_some_iff.mp H
             obtain ⟨t152, A150, H⟩ := H
             replace H : (if t152 < 0 then (some (-1)) else (if ((rd_T31 l0 x5_1).f8) = t152 then (laws_heldInodeS.l0 k1 l0 (wrap64 (t152 + 1)) (wrap64 (x5_1 + 1))) else (some (-1)))) = some r := H
             have A15 := Aside0.mk A150
             clear A150
             by_cases c16 : t152 < 0
             ·rw [if_pos c16] at H
              have c16b0 : decide (t152 < 0) = true := decide_eq_true c16
              clear c16
              obtain rfl := Option.some.inj H
              have p143 : 0 ≤ (x5_1 : Int) := oda
              have q143 : x5_1 < (l0.length : Int) := oda
              obtain ⟨ad143, A143_7, c143_7, e143, hx143_0, hx143_1, hx143_2, hx143_3, hx143_4, hx143_5, hx143_6, hx143_7, hx143_8, hl143_7, hi143_7⟩ := at_T31 HR0.out x5_1 p143 q143
              have hy143_7 := hx143_7
              cases e143
              replace hx143_0 := hbc HB.out hx143_0
              replace hx143_1 := hbc HB.out hx143_1
              replace hx143_2 := hbc HB.out hx143_2
              replace hx143_3 := hbc HB.out hx143_3
              replace hx143_4 := hbc HB.out hx143_4
              replace hx143_5 := hbc HB.out hx143_5
              replace hx143_6 := hbc HB.out hx143_6
              replace hx143_7 := hbc HB.out hx143_7
              replace hx143_8 := hbc HB.out hx143_8
              have HR143_7 := Aside0.mk hi143_7
              have HC143_7 := Aside0.mk hl143_7
              clear hi143_7 hl143_7
              replace p143 := eq_true p143
              replace q143 := eq_true q143
              have p144 : 0 ≤ (x5_1 : Int) := oda
              have q144 : x5_1 < (l0.length : Int) := oda
              obtain ⟨ad144, A144_7, c144_7, e144, hx144_0, hx144_1, hx144_2, hx144_3, hx144_4, hx144_5, hx144_6, hx144_7, hx144_8, hl144_7, hi144_7⟩ := at_T31 HR0.out x5_1 p144 q144
              have hy144_7 := hx144_7
              obtain rfl : ad143 = ad144 := (by injection e144)
              replace hx144_0 := hbc HB.out hx144_0
              replace hx144_1 := hbc HB.out hx144_1
              replace hx144_2 := hbc HB.out hx144_2
              replace hx144_3 := hbc HB.out hx144_3
              replace hx144_4 := hbc HB.out hx144_4
              replace hx144_5 := hbc HB.out hx144_5
              replace hx144_6 := hbc HB.out hx144_6
              replace hx144_7 := hbc HB.out hx144_7
              replace hx144_8 := hbc HB.out hx144_8
              have HR144_7 := Aside0.mk hi144_7
              have HC144_7 := Aside0.mk hl144_7
              clear hi144_7 hl144_7
              replace p144 := eq_true p144
              replace q144 := eq_true q144
              have ea_ := Option.some.inj (hx143_7.symm.trans hx144_7)
              injection ea_ with ea_ en_ ec_
              subst ea_
              subst ec_
              clear en_
              try go_wp2
              have n0_ := Aside0.mk (below_drew1 HB.out)
              clear HB
              have HB := n0_
              clear n0_
              have p145 : 0 ≤ (x5_1 : Int) := oda
              have q145 : x5_1 < (l0.length : Int) := oda
              obtain ⟨ad145, A145_7, c145_7, e145, hx145_0, hx145_1, hx145_2, hx145_3, hx145_4, hx145_5, hx145_6, hx145_7, hx145_8, hl145_7, hi145_7⟩ := at_T31 HR0.out x5_1 p145 q145
              have hy145_7 := hx145_7
              have hw145_8 := hx145_8
              have hw145_7 := hx145_7
              have hw145_6 := hx145_6
              have hw145_5 := hx145_5
              have hw145_4 := hx145_4
              have hw145_3 := hx145_3
              have hw145_2 := hx145_2
              have hw145_1 := hx145_1
              have hw145_0 := hx145_0
              obtain rfl : ad143 = ad145 := (by injection e145)
              replace hx145_0 := hbc HB.out hx145_0
              replace hx145_1 := hbc HB.out hx145_1
              replace hx145_2 := hbc HB.out hx145_2
              replace hx145_3 := hbc HB.out hx145_3
              replace hx145_4 := hbc HB.out hx145_4
              replace hx145_5 := hbc HB.out hx145_5
              replace hx145_6 := hbc HB.out hx145_6
              replace hx145_7 := hbc HB.out hx145_7
              replace hx145_8 := hbc HB.out hx145_8
              have HR145_7 := Aside0.mk hi145_7
              have HC145_7 := Aside0.mk hl145_7
              clear hi145_7 hl145_7
              replace p145 := eq_true p145
              replace q145 := eq_true q145
              refine start_ (n := 8) (S := fun w' => w'.cell? (ad143.add ((x5_1).toNat * 9)) = some (.int .i64 ((rd_T31 l0 x5_1).f0)) ∧ w'.cell? ⟨(ad143.add ((x5_1).toNat * 9)).block, (ad143.add ((x5_1).toNat * 9)).off + 1, none⟩ = some (.int .i64 ((rd_T31 l0 x5_1).f1)) ∧ w'.cell? ⟨(ad143.add ((x5_1).toNat * 9)).block, (ad143.add ((x5_1).toNat * 9)).off + 2, none⟩ = some (.string ((rd_T31 l0 x5_1).f2)) ∧ w'.cell? ⟨(ad143.add ((x5_1).toNat * 9)).block, (ad143.add ((x5_1).toNat * 9)).off + 3, none⟩ = some (.bool ((rd_T31 l0 x5_1).f3)) ∧ w'.cell? ⟨(ad143.add ((x5_1).toNat * 9)).block, (ad143.add ((x5_1).toNat * 9)).off + 4, none⟩ = some (.int .i64 ((rd_T31 l0 x5_1).f4)) ∧ w'.cell? ⟨(ad143.add ((x5_1).toNat * 9)).block, (ad143.add ((x5_1).toNat * 9)).off + 5, none⟩ = some (.int .i64 ((rd_T31 l0 x5_1).f5)) ∧ w'.cell? ⟨(ad143.add ((x5_1).toNat * 9)).block, (ad143.add ((x5_1).toNat * 9)).off + 6, none⟩ = some (.int .i64 ((rd_T31 l0 x5_1).f6)) ∧ w'.cell? ⟨(ad143.add ((x5_1).toNat * 9)).block, (ad143.add ((x5_1).toNat * 9)).off + 7, none⟩ = some (.slice A145_7 ((rd_T31 l0 x5_1).f7).length c145_7) ∧ w'.cell? ⟨(ad143.add ((x5_1).toNat * 9)).block, (ad143.add ((x5_1).toNat * 9)).off + 8, none⟩ = some (.int .i64 ((rd_T31 l0 x5_1).f8))) (ds := []) #[O,O,O,O,O,O,O,O] (by kernel_rfl) rfl rfl ⟨((HB.out.cell (World.block_lt_of_cell? w _ hw145_0)).trans hw145_0), ((HB.out.cell (World.block_lt_of_cell? w _ hw145_1)).trans hw145_1), ((HB.out.cell (World.block_lt_of_cell? w _ hw145_2)).trans hw145_2), ((HB.out.cell (World.block_lt_of_cell? w _ hw145_3)).trans hw145_3), ((HB.out.cell (World.block_lt_of_cell? w _ hw145_4)).trans hw145_4), ((HB.out.cell (World.block_lt_of_cell? w _ hw145_5)).trans hw145_5), ((HB.out.cell (World.block_lt_of_cell? w _ hw145_6)).trans hw145_6), ((HB.out.cell (World.block_lt_of_cell? w _ hw145_7)).trans hw145_7), ((HB.out.cell (World.block_lt_of_cell? w _ hw145_8)).trans hw145_8)⟩ (fun hHeld => ?_); refine with_tabW laws_heldInodeS.tab10 laws_heldInodeS.bits10 (fun HT_ HW_ => ?_)
              generalize wr.drew = w17 at HB HR145_7 hx145_0 hx145_1 hx145_2 hx145_3 hx145_4 hx145_5 hx145_6 hx145_7 hx145_8 hHeld ⊢
              refine pz 0 30 #[Y,O,O,O,O,O,O,O] HT_ ?_
              refine pz 1 31 #[Y,Y,O,O,O,O,O,O] HT_ ?_
              refine pz 2 32 #[Y,Y,Y,O,O,O,O,O] HT_ ?_
              refine pz 3 33 #[Y,Y,Y,Y,O,O,O,O] HT_ ?_
              refine pure_ (i := 5) (N := some 35) (v := ?_) (a' := ?_) #[Y,Y,Y,Y,O,Y,O,O] rfl rfl (any_of HT_.out (by kernel_rfl)) (fun _ _ _ h => h) (Or.inl ⟨by rfl, ?_⟩) ?_ ?_
              rotate_left
              ·intro w'
               go_simp
               with_reducible rfl
              rotate_left
              ·simp only [Act.put, List.setIfInBounds_toArray, List.set_cons_zero, List.set_cons_succ, i64_w, i32_w]
               rfl
              refine take_ (i := 4) (N := some 34) (v := ?_) (a' := ?_) #[Y,Y,Y,Y,Y,Y,O,O] rfl rfl (take_ofW HT_.out HW_.out (by kernel_rfl)) (fun _ _ _ h => h) (Or.inl ⟨by rfl, ?_⟩) hHeld ?_ ?_
              rotate_left
              ·rintro w' ⟨s0, s1, s2, s3, s4, s5, s6, s7, s8⟩
               go_simp
               with_reducible rfl
              rotate_left
              ·simp only [Act.put, List.setIfInBounds_toArray, List.set_cons_zero, List.set_cons_succ, i64_w, i32_w]
               rfl
              refine one_ (i := 6) (N := some 36) #[Y,Y,Y,Y,Y,Y,Y,O] rfl rfl (one_of HT_.out (by kernel_rfl)) (by decide) (fun K hK => ?_)
              refine goes_ Try.func13 (by kernel_rfl) rfl #[.int .i64 (wrap64 ((wrap64 (x1_1 + 1)) + 1))] (by rfl) rfl rfl (by (try simp only [List.map_toArray, List.map_cons, List.map_nil]); first | done | rfl | (simp only [List.length_drop, List.length_take]; rfl)) ?_
              with_reducible refine (laws_markText.calls k1 (wrap64 ((wrap64 (x1_1 + 1)) + 1)) t146 _ A7.out).mono ?_
              rintro e w18 ⟨rfl, hb⟩
              refine ⟨_, rfl, ?_⟩
              have n0_ := Aside0.mk (below_step (pl0 HB.out) hb)
              clear HB
              have HB := n0_
              clear n0_
              (try clear hb)
              (try clear hb2)
              (try clear hk)
              (try clear hi)
              refine hK.out _ _ ⟨((HB.out.cell (World.block_lt_of_cell? w _ hw145_0)).trans hw145_0), ((HB.out.cell (World.block_lt_of_cell? w _ hw145_1)).trans hw145_1), ((HB.out.cell (World.block_lt_of_cell? w _ hw145_2)).trans hw145_2), ((HB.out.cell (World.block_lt_of_cell? w _ hw145_3)).trans hw145_3), ((HB.out.cell (World.block_lt_of_cell? w _ hw145_4)).trans hw145_4), ((HB.out.cell (World.block_lt_of_cell? w _ hw145_5)).trans hw145_5), ((HB.out.cell (World.block_lt_of_cell? w _ hw145_6)).trans hw145_6), ((HB.out.cell (World.block_lt_of_cell? w _ hw145_7)).trans hw145_7), ((HB.out.cell (World.block_lt_of_cell? w _ hw145_8)).trans hw145_8)⟩ (fun hHeld => ?_)
              clear hK K
              refine norm_ (a' := ?_) ?_ ?_
              rotate_left
              ·show Act.put _ (some 36) _ = _
               simp only [Act.put, List.setIfInBounds_toArray, List.set_cons_zero, List.set_cons_succ, i64_w, i32_w]
               rfl
              refine pz 7 37 #[Y,Y,Y,Y,Y,Y,Y,Y] HT_ ?_
              refine done_ (done_of HT_.out (by kernel_rfl)) ?_
              have p147 : 0 ≤ (x5_1 : Int) := oda
              have q147 : x5_1 < (l0.length : Int) := oda
              obtain ⟨ad147, A147_7, c147_7, e147, hx147_0, hx147_1, hx147_2, hx147_3, hx147_4, hx147_5, hx147_6, hx147_7, hx147_8, hl147_7, hi147_7⟩ := at_T31 HR0.out x5_1 p147 q147
              have hy147_7 := hx147_7
              obtain rfl : ad143 = ad147 := (by injection e147)
              have ea_ := Option.some.inj (hy147_7.symm.trans hy145_7)
              injection ea_ with ea_ en_ ec_
              subst ea_
              subst ec_
              clear en_
              replace hx147_7 := hbc HB.out hx147_7
              have HR147_7 := Aside0.mk hi147_7
              have HC147_7 := Aside0.mk hl147_7
              clear hi147_7 hl147_7
              replace p147 := eq_true p147
              replace q147 := eq_true q147
              have p148 : 0 ≤ (x5_1 : Int) := oda
              have q148 : x5_1 < (l0.length : Int) := oda
              obtain ⟨ad148, A148_7, c148_7, e148, hx148_0, hx148_1, hx148_2, hx148_3, hx148_4, hx148_5, hx148_6, hx148_7, hx148_8, hl148_7, hi148_7⟩ := at_T31 HR0.out x5_1 p148 q148
              have hy148_7 := hx148_7
              obtain rfl : ad143 = ad148 := (by injection e148)
              replace hx148_7 := hbc HB.out hx148_7
              have HR148_7 := Aside0.mk hi148_7
              have HC148_7 := Aside0.mk hl148_7
              clear hi148_7 hl148_7
              replace p148 := eq_true p148
              replace q148 := eq_true q148
              have ea_ := Option.some.inj (hx147_7.symm.trans hx148_7)
              injection ea_ with ea_ en_ ec_
              subst ea_
              subst ec_
              clear en_
              have p149 : 0 ≤ (x5_1 : Int) := oda
              have q149 : x5_1 < (l0.length : Int) := oda
              obtain ⟨ad149, A149_7, c149_7, e149, hx149_0, hx149_1, hx149_2, hx149_3, hx149_4, hx149_5, hx149_6, hx149_7, hx149_8, hl149_7, hi149_7⟩ := at_T31 HR0.out x5_1 p149 q149
              have hy149_7 := hx149_7
              obtain rfl : ad143 = ad149 := (by injection e149)
              replace hx149_7 := hbc HB.out hx149_7
              have HR149_7 := Aside0.mk hi149_7
              have HC149_7 := Aside0.mk hl149_7
              clear hi149_7 hl149_7
              replace p149 := eq_true p149
              replace q149 := eq_true q149
              have ea_ := Option.some.inj (hx147_7.symm.trans hx149_7)
              injection ea_ with ea_ en_ ec_
              subst ea_
              subst ec_
              clear en_
              have p150 : 0 ≤ (x5_1 : Int) := oda
              have q150 : x5_1 < (l0.length : Int) := oda
              obtain ⟨ad150, A150_7, c150_7, e150, hx150_0, hx150_1, hx150_2, hx150_3, hx150_4, hx150_5, hx150_6, hx150_7, hx150_8, hl150_7, hi150_7⟩ := at_T31 HR0.out x5_1 p150 q150
              have hy150_7 := hx150_7
              obtain rfl : ad143 = ad150 := (by injection e150)
              replace hx150_7 := hbc HB.out hx150_7
              have HR150_7 := Aside0.mk hi150_7
              have HC150_7 := Aside0.mk hl150_7
              clear hi150_7 hl150_7
              replace p150 := eq_true p150
              replace q150 := eq_true q150
              have ea_ := Option.some.inj (hx147_7.symm.trans hx150_7)
              injection ea_ with ea_ en_ ec_
              subst ea_
              subst ec_
              clear en_
              have p151 : 0 ≤ (x5_1 : Int) := oda
              have q151 : x5_1 < (l0.length : Int) := oda
              obtain ⟨ad151, A151_7, c151_7, e151, hx151_0, hx151_1, hx151_2, hx151_3, hx151_4, hx151_5, hx151_6, hx151_7, hx151_8, hl151_7, hi151_7⟩ := at_T31 HR0.out x5_1 p151 q151
              have hy151_7 := hx151_7
              obtain rfl : ad143 = ad151 := (by injection e151)
              replace hx151_7 := hbc HB.out hx151_7
              have HR151_7 := Aside0.mk hi151_7
              have HC151_7 := Aside0.mk hl151_7
              clear hi151_7 hl151_7
              replace p151 := eq_true p151
              replace q151 := eq_true q151
              have ea_ := Option.some.inj (hx147_7.symm.trans hx151_7)
              injection ea_ with ea_ en_ ec_
              subst ea_
              subst ec_
              clear en_
              try go_wp2_with (first | ((with_reducible refine gate_callee (f := 15) rfl ?_); refine goesL_ (some 84) rfl rfl Try.func15 (by kernel_rfl) rfl #[.slice A147_7 ((rd_T31 l0 x5_1).f7).length c147_7, .int .i64 (wrap64 ((wrap64 ((wrap64 ((wrap64 ((wrap64 ((wrap64 ((wrap64 (x1_1 + 1)) + 1)) + 1)) + 1)) + 1)) + 1)) + 1))] rfl (by (try simp only [List.map_toArray, List.map_cons, List.map_nil]); first | done | rfl | (simp only [List.length_drop, List.length_take]; rfl)) ?_; (with_reducible refine (laws_heldPieceS.calls k1 _ _ ((rd_T31 l0 x5_1).f7) (wrap64 ((wrap64 ((wrap64 ((wrap64 ((wrap64 ((wrap64 ((wrap64 (x1_1 + 1)) + 1)) + 1)) + 1)) + 1)) + 1)) + 1)) t152 _ ?side1 ?side2 A15.out).mono ?_); (case side1 => exact pc (Kd.C_below HR151_7.out HB.out)); (case side2 => exact HC151_7.out); rintro e w' ⟨rfl, ⟨nd, rfl⟩⟩; refine ⟨_, rfl, ?_⟩))
              go_ret
              exact ⟨erq, pl0 HB.out⟩
             ·rw [if_neg c16] at H
              have c16b0 : decide (t152 < 0) = false := decide_eq_false c16
              clear c16
              by_cases c19 : ((rd_T31 l0 x5_1).f8) = t152
              ·rw [if_pos c19] at H
               have c19b0 : (((rd_T31 l0 x5_1).f8) == t152) = true := beq_iff_eq.mpr c19
               have c19b1 : (((rd_T31 l0 x5_1).f8) != t152) = false := bne_eq_false_iff_eq.mpr c19
               clear c19
               have H' := Aside0.mk H
               clear H
               have p143 : 0 ≤ (x5_1 : Int) := oda
               have q143 : x5_1 < (l0.length : Int) := oda
               obtain ⟨ad143, A143_7, c143_7, e143, hx143_0, hx143_1, hx143_2, hx143_3, hx143_4, hx143_5, hx143_6, hx143_7, hx143_8, hl143_7, hi143_7⟩ := at_T31 HR0.out x5_1 p143 q143
               have hy143_7 := hx143_7
               cases e143
               replace hx143_0 := hbc HB.out hx143_0
               replace hx143_1 := hbc HB.out hx143_1
               replace hx143_2 := hbc HB.out hx143_2
               replace hx143_3 := hbc HB.out hx143_3
               replace hx143_4 := hbc HB.out hx143_4
               replace hx143_5 := hbc HB.out hx143_5
               replace hx143_6 := hbc HB.out hx143_6
               replace hx143_7 := hbc HB.out hx143_7
               replace hx143_8 := hbc HB.out hx143_8
               have HR143_7 := Aside0.mk hi143_7
               have HC143_7 := Aside0.mk hl143_7
               clear hi143_7 hl143_7
               replace p143 := eq_true p143
               replace q143 := eq_true q143
               have p144 : 0 ≤ (x5_1 : Int) := oda
               have q144 : x5_1 < (l0.length : Int) := oda
               obtain ⟨ad144, A144_7, c144_7, e144, hx144_0, hx144_1, hx144_2, hx144_3, hx144_4, hx144_5, hx144_6, hx144_7, hx144_8, hl144_7, hi144_7⟩ := at_T31 HR0.out x5_1 p144 q144
               have hy144_7 := hx144_7
               obtain rfl : ad143 = ad144 := (by injection e144)
               replace hx144_0 := hbc HB.out hx144_0
               replace hx144_1 := hbc HB.out hx144_1
               replace hx144_2 := hbc HB.out hx144_2
               replace hx144_3 := hbc HB.out hx144_3
               replace hx144_4 := hbc HB.out hx144_4
               replace hx144_5 := hbc HB.out hx144_5
               replace hx144_6 := hbc HB.out hx144_6
               replace hx144_7 := hbc HB.out hx144_7
               replace hx144_8 := hbc HB.out hx144_8
               have HR144_7 := Aside0.mk hi144_7
               have HC144_7 := Aside0.mk hl144_7
               clear hi144_7 hl144_7
               replace p144 := eq_true p144
               replace q144 := eq_true q144
               have ea_ := Option.some.inj (hx143_7.symm.trans hx144_7)
               injection ea_ with ea_ en_ ec_
               subst ea_
               subst ec_
               clear en_
               try go_wp2
               have n0_ := Aside0.mk (below_drew1 HB.out)
               clear HB
               have HB := n0_
               clear n0_
               have p145 : 0 ≤ (x5_1 : Int) := oda
               have q145 : x5_1 < (l0.length : Int) := oda
               obtain ⟨ad145, A145_7, c145_7, e145, hx145_0, hx145_1, hx145_2, hx145_3, hx145_4, hx145_5, hx145_6, hx145_7, hx145_8, hl145_7, hi145_7⟩ := at_T31 HR0.out x5_1 p145 q145
               have hy145_7 := hx145_7
               have hw145_8 := hx145_8
               have hw145_7 := hx145_7
               have hw145_6 := hx145_6
               have hw145_5 := hx145_5
               have hw145_4 := hx145_4
               have hw145_3 := hx145_3
               have hw145_2 := hx145_2
               have hw145_1 := hx145_1
               have hw145_0 := hx145_0
               obtain rfl : ad143 = ad145 := (by injection e145)
               replace hx145_0 := hbc HB.out hx145_0
               replace hx145_1 := hbc HB.out hx145_1
               replace hx145_2 := hbc HB.out hx145_2
               replace hx145_3 := hbc HB.out hx145_3
               replace hx145_4 := hbc HB.out hx145_4
               replace hx145_5 := hbc HB.out hx145_5
               replace hx145_6 := hbc HB.out hx145_6
               replace hx145_7 := hbc HB.out hx145_7
               replace hx145_8 := hbc HB.out hx145_8
               have HR145_7 := Aside0.mk hi145_7
               have HC145_7 := Aside0.mk hl145_7
               clear hi145_7 hl145_7
               replace p145 := eq_true p145
               replace q145 := eq_true q145
               refine start_ (n := 8) (S := fun w' => w'.cell? (ad143.add ((x5_1).toNat * 9)) = some (.int .i64 ((rd_T31 l0 x5_1).f0)) ∧ w'.cell? ⟨(ad143.add ((x5_1).toNat * 9)).block, (ad143.add ((x5_1).toNat * 9)).off + 1, none⟩ = some (.int .i64 ((rd_T31 l0 x5_1).f1)) ∧ w'.cell? ⟨(ad143.add ((x5_1).toNat * 9)).block, (ad143.add ((x5_1).toNat * 9)).off + 2, none⟩ = some (.string ((rd_T31 l0 x5_1).f2)) ∧ w'.cell? ⟨(ad143.add ((x5_1).toNat * 9)).block, (ad143.add ((x5_1).toNat * 9)).off + 3, none⟩ = some (.bool ((rd_T31 l0 x5_1).f3)) ∧ w'.cell? ⟨(ad143.add ((x5_1).toNat * 9)).block, (ad143.add ((x5_1).toNat * 9)).off + 4, none⟩ = some (.int .i64 ((rd_T31 l0 x5_1).f4)) ∧ w'.cell? ⟨(ad143.add ((x5_1).toNat * 9)).block, (ad143.add ((x5_1).toNat * 9)).off + 5, none⟩ = some (.int .i64 ((rd_T31 l0 x5_1).f5)) ∧ w'.cell? ⟨(ad143.add ((x5_1).toNat * 9)).block, (ad143.add ((x5_1).toNat * 9)).off + 6, none⟩ = some (.int .i64 ((rd_T31 l0 x5_1).f6)) ∧ w'.cell? ⟨(ad143.add ((x5_1).toNat * 9)).block, (ad143.add ((x5_1).toNat * 9)).off + 7, none⟩ = some (.slice A145_7 ((rd_T31 l0 x5_1).f7).length c145_7) ∧ w'.cell? ⟨(ad143.add ((x5_1).toNat * 9)).block, (ad143.add ((x5_1).toNat * 9)).off + 8, none⟩ = some (.int .i64 ((rd_T31 l0 x5_1).f8))) (ds := []) #[O,O,O,O,O,O,O,O] (by kernel_rfl) rfl rfl ⟨((HB.out.cell (World.block_lt_of_cell? w _ hw145_0)).trans hw145_0), ((HB.out.cell (World.block_lt_of_cell? w _ hw145_1)).trans hw145_1), ((HB.out.cell (World.block_lt_of_cell? w _ hw145_2)).trans hw145_2), ((HB.out.cell (World.block_lt_of_cell? w _ hw145_3)).trans hw145_3), ((HB.out.cell (World.block_lt_of_cell? w _ hw145_4)).trans hw145_4), ((HB.out.cell (World.block_lt_of_cell? w _ hw145_5)).trans hw145_5), ((HB.out.cell (World.block_lt_of_cell? w _ hw145_6)).trans hw145_6), ((HB.out.cell (World.block_lt_of_cell? w _ hw145_7)).trans hw145_7), ((HB.out.cell (World.block_lt_of_cell? w _ hw145_8)).trans hw145_8)⟩ (fun hHeld => ?_); refine with_tabW laws_heldInodeS.tab10 laws_heldInodeS.bits10 (fun HT_ HW_ => ?_)
               generalize wr.drew = w20 at HB HR145_7 hx145_0 hx145_1 hx145_2 hx145_3 hx145_4 hx145_5 hx145_6 hx145_7 hx145_8 hHeld ⊢
               refine pz 0 30 #[Y,O,O,O,O,O,O,O] HT_ ?_
               refine pz 1 31 #[Y,Y,O,O,O,O,O,O] HT_ ?_
               refine pz 2 32 #[Y,Y,Y,O,O,O,O,O] HT_ ?_
               refine pz 3 33 #[Y,Y,Y,Y,O,O,O,O] HT_ ?_
               refine pure_ (i := 5) (N := some 35) (v := ?_) (a' := ?_) #[Y,Y,Y,Y,O,Y,O,O] rfl rfl (any_of HT_.out (by kernel_rfl)) (fun _ _ _ h => h) (Or.inl ⟨by rfl, ?_⟩) ?_ ?_
               rotate_left
               ·intro w'
                go_simp
                with_reducible rfl
               rotate_left
               ·simp only [Act.put, List.setIfInBounds_toArray, List.set_cons_zero, List.set_cons_succ, i64_w, i32_w]
                rfl
               refine take_ (i := 4) (N := some 34) (v := ?_) (a' := ?_) #[Y,Y,Y,Y,Y,Y,O,O] rfl rfl (take_ofW HT_.out HW_.out (by kernel_rfl)) (fun _ _ _ h => h) (Or.inl ⟨by rfl, ?_⟩) hHeld ?_ ?_
               rotate_left
               ·rintro w' ⟨s0, s1, s2, s3, s4, s5, s6, s7, s8⟩
                go_simp
                with_reducible rfl
               rotate_left
               ·simp only [Act.put, List.setIfInBounds_toArray, List.set_cons_zero, List.set_cons_succ, i64_w, i32_w]
                rfl
               refine one_ (i := 6) (N := some 36) #[Y,Y,Y,Y,Y,Y,Y,O] rfl rfl (one_of HT_.out (by kernel_rfl)) (by decide) (fun K hK => ?_)
               refine goes_ Try.func13 (by kernel_rfl) rfl #[.int .i64 (wrap64 ((wrap64 (x1_1 + 1)) + 1))] (by rfl) rfl rfl (by (try simp only [List.map_toArray, List.map_cons, List.map_nil]); first | done | rfl | (simp only [List.length_drop, List.length_take]; rfl)) ?_
               with_reducible refine (laws_markText.calls k1 (wrap64 ((wrap64 (x1_1 + 1)) + 1)) t146 _ A7.out).mono ?_
               rintro e w21 ⟨rfl, hb⟩
               refine ⟨_, rfl, ?_⟩
               have n0_ := Aside0.mk (below_step (pl0 HB.out) hb)
               clear HB
               have HB := n0_
               clear n0_
               (try clear hb)
               (try clear hb2)
               (try clear hk)
               (try clear hi)
               refine hK.out _ _ ⟨((HB.out.cell (World.block_lt_of_cell? w _ hw145_0)).trans hw145_0), ((HB.out.cell (World.block_lt_of_cell? w _ hw145_1)).trans hw145_1), ((HB.out.cell (World.block_lt_of_cell? w _ hw145_2)).trans hw145_2), ((HB.out.cell (World.block_lt_of_cell? w _ hw145_3)).trans hw145_3), ((HB.out.cell (World.block_lt_of_cell? w _ hw145_4)).trans hw145_4), ((HB.out.cell (World.block_lt_of_cell? w _ hw145_5)).trans hw145_5), ((HB.out.cell (World.block_lt_of_cell? w _ hw145_6)).trans hw145_6), ((HB.out.cell (World.block_lt_of_cell? w _ hw145_7)).trans hw145_7), ((HB.out.cell (World.block_lt_of_cell? w _ hw145_8)).trans hw145_8)⟩ (fun hHeld => ?_)
               clear hK K
               refine norm_ (a' := ?_) ?_ ?_
               rotate_left
               ·show Act.put _ (some 36) _ = _
                simp only [Act.put, List.setIfInBounds_toArray, List.set_cons_zero, List.set_cons_succ, i64_w, i32_w]
                rfl
               refine pz 7 37 #[Y,Y,Y,Y,Y,Y,Y,Y] HT_ ?_
               refine done_ (done_of HT_.out (by kernel_rfl)) ?_
               have p147 : 0 ≤ (x5_1 : Int) := oda
               have q147 : x5_1 < (l0.length : Int) := oda
               obtain ⟨ad147, A147_7, c147_7, e147, hx147_0, hx147_1, hx147_2, hx147_3, hx147_4, hx147_5, hx147_6, hx147_7, hx147_8, hl147_7, hi147_7⟩ := at_T31 HR0.out x5_1 p147 q147
               have hy147_7 := hx147_7
               obtain rfl : ad143 = ad147 := (by injection e147)
               have ea_ := Option.some.inj (hy147_7.symm.trans hy145_7)
               injection ea_ with ea_ en_ ec_
               subst ea_
               subst ec_
               clear en_
               replace hx147_7 := hbc HB.out hx147_7
               have HR147_7 := Aside0.mk hi147_7
               have HC147_7 := Aside0.mk hl147_7
               clear hi147_7 hl147_7
               replace p147 := eq_true p147
               replace q147 := eq_true q147
               have p148 : 0 ≤ (x5_1 : Int) := oda
               have q148 : x5_1 < (l0.length : Int) := oda
               obtain ⟨ad148, A148_7, c148_7, e148, hx148_0, hx148_1, hx148_2, hx148_3, hx148_4, hx148_5, hx148_6, hx148_7, hx148_8, hl148_7, hi148_7⟩ := at_T31 HR0.out x5_1 p148 q148
               have hy148_7 := hx148_7
               obtain rfl : ad143 = ad148 := (by injection e148)
               replace hx148_7 := hbc HB.out hx148_7
               have HR148_7 := Aside0.mk hi148_7
               have HC148_7 := Aside0.mk hl148_7
               clear hi148_7 hl148_7
               replace p148 := eq_true p148
               replace q148 := eq_true q148
               have ea_ := Option.some.inj (hx147_7.symm.trans hx148_7)
               injection ea_ with ea_ en_ ec_
               subst ea_
               subst ec_
               clear en_
               have p149 : 0 ≤ (x5_1 : Int) := oda
               have q149 : x5_1 < (l0.length : Int) := oda
               obtain ⟨ad149, A149_7, c149_7, e149, hx149_0, hx149_1, hx149_2, hx149_3, hx149_4, hx149_5, hx149_6, hx149_7, hx149_8, hl149_7, hi149_7⟩ := at_T31 HR0.out x5_1 p149 q149
               have hy149_7 := hx149_7
               obtain rfl : ad143 = ad149 := (by injection e149)
               replace hx149_7 := hbc HB.out hx149_7
               have HR149_7 := Aside0.mk hi149_7
               have HC149_7 := Aside0.mk hl149_7
               clear hi149_7 hl149_7
               replace p149 := eq_true p149
               replace q149 := eq_true q149
               have ea_ := Option.some.inj (hx147_7.symm.trans hx149_7)
               injection ea_ with ea_ en_ ec_
               subst ea_
               subst ec_
               clear en_
               have p150 : 0 ≤ (x5_1 : Int) := oda
               have q150 : x5_1 < (l0.length : Int) := oda
               obtain ⟨ad150, A150_7, c150_7, e150, hx150_0, hx150_1, hx150_2, hx150_3, hx150_4, hx150_5, hx150_6, hx150_7, hx150_8, hl150_7, hi150_7⟩ := at_T31 HR0.out x5_1 p150 q150
               have hy150_7 := hx150_7
               obtain rfl : ad143 = ad150 := (by injection e150)
               replace hx150_7 := hbc HB.out hx150_7
               have HR150_7 := Aside0.mk hi150_7
               have HC150_7 := Aside0.mk hl150_7
               clear hi150_7 hl150_7
               replace p150 := eq_true p150
               replace q150 := eq_true q150
               have ea_ := Option.some.inj (hx147_7.symm.trans hx150_7)
               injection ea_ with ea_ en_ ec_
               subst ea_
               subst ec_
               clear en_
               have p151 : 0 ≤ (x5_1 : Int) := oda
               have q151 : x5_1 < (l0.length : Int) := oda
               obtain ⟨ad151, A151_7, c151_7, e151, hx151_0, hx151_1, hx151_2, hx151_3, hx151_4, hx151_5, hx151_6, hx151_7, hx151_8, hl151_7, hi151_7⟩ := at_T31 HR0.out x5_1 p151 q151
               have hy151_7 := hx151_7
               obtain rfl : ad143 = ad151 := (by injection e151)
               replace hx151_7 := hbc HB.out hx151_7
               have HR151_7 := Aside0.mk hi151_7
               have HC151_7 := Aside0.mk hl151_7
               clear hi151_7 hl151_7
               replace p151 := eq_true p151
               replace q151 := eq_true q151
               have ea_ := Option.some.inj (hx147_7.symm.trans hx151_7)
               injection ea_ with ea_ en_ ec_
               subst ea_
               subst ec_
               clear en_
               try go_wp2_with (first | ((with_reducible refine gate_callee (f := 15) rfl ?_); refine goesL_ (some 84) rfl rfl Try.func15 (by kernel_rfl) rfl #[.slice A147_7 ((rd_T31 l0 x5_1).f7).length c147_7, .int .i64 (wrap64 ((wrap64 ((wrap64 ((wrap64 ((wrap64 ((wrap64 ((wrap64 (x1_1 + 1)) + 1)) + 1)) + 1)) + 1)) + 1)) + 1))] rfl (by (try simp only [List.map_toArray, List.map_cons, List.map_nil]); first | done | rfl | (simp only [List.length_drop, List.length_take]; rfl)) ?_; (with_reducible refine (laws_heldPieceS.calls k1 _ _ ((rd_T31 l0 x5_1).f7) (wrap64 ((wrap64 ((wrap64 ((wrap64 ((wrap64 ((wrap64 ((wrap64 (x1_1 + 1)) + 1)) + 1)) + 1)) + 1)) + 1)) + 1)) t152 _ ?side1 ?side2 A15.out).mono ?_); (case side1 => exact pc (Kd.C_below HR151_7.out HB.out)); (case side2 => exact HC151_7.out); rintro e w' ⟨rfl, ⟨nd, rfl⟩⟩; refine ⟨_, rfl, ?_⟩; have p153 : 0 ≤ (x5_1 : Int) := oda; have q153 : x5_1 < (l0.length : Int) := oda; obtain ⟨ad153, A153_7, c153_7, e153, hx153_0, hx153_1, hx153_2, hx153_3, hx153_4, hx153_5, hx153_6, hx153_7, hx153_8, hl153_7, hi153_7⟩ := at_T31 HR0.out x5_1 p153 q153; obtain rfl : ad143 = ad153 := (by injection e153); replace hx153_0 := hbc HB.out hx153_0; replace hx153_1 := hbc HB.out hx153_1; replace hx153_2 := hbc HB.out hx153_2; replace hx153_3 := hbc HB.out hx153_3; replace hx153_4 := hbc HB.out hx153_4; replace hx153_5 := hbc HB.out hx153_5; replace hx153_6 := hbc HB.out hx153_6; replace hx153_7 := hbc HB.out hx153_7; replace hx153_8 := hbc HB.out hx153_8; have HR153_7 := Aside0.mk hi153_7; have HC153_7 := Aside0.mk hl153_7; clear hi153_7 hl153_7; replace p153 := eq_true p153; replace q153 := eq_true q153; have ea_ := Option.some.inj (hx147_7.symm.trans hx153_7); injection ea_ with ea_ en_ ec_; subst ea_; subst ec_; clear en_))
               go_roundg k1
               case measure => have := HK1.out; omega
               case rel => exact ⟨(wrap64 (t152 + 1)), (wrap64 (x5_1 + 1)), eqa, eqa, H', ⟨by have := HK1.out; omega⟩, ⟨pl0 HB.out⟩⟩
              ·rw [if_neg c19] at H
               have c19b0 : (((rd_T31 l0 x5_1).f8) == t152) = false := beq_eq_false_iff_ne.mpr c19
               have c19b1 : (((rd_T31 l0 x5_1).f8) != t152) = true := bne_iff_ne.mpr c19
               obtain rfl := Option.some.inj H
               have p143 : 0 ≤ (x5_1 : Int) := oda
               have q143 : x5_1 < (l0.length : Int) := oda
               obtain ⟨ad143, A143_7, c143_7, e143, hx143_0, hx143_1, hx143_2, hx143_3, hx143_4, hx143_5, hx143_6, hx143_7, hx143_8, hl143_7, hi143_7⟩ := at_T31 HR0.out x5_1 p143 q143
               have hy143_7 := hx143_7
               cases e143
               replace hx143_0 := hbc HB.out hx143_0
               replace hx143_1 := hbc HB.out hx143_1
               replace hx143_2 := hbc HB.out hx143_2
               replace hx143_3 := hbc HB.out hx143_3
               replace hx143_4 := hbc HB.out hx143_4
               replace hx143_5 := hbc HB.out hx143_5
               replace hx143_6 := hbc HB.out hx143_6
               replace hx143_7 := hbc HB.out hx143_7
               replace hx143_8 := hbc HB.out hx143_8
               have HR143_7 := Aside0.mk hi143_7
               have HC143_7 := Aside0.mk hl143_7
               clear hi143_7 hl143_7
               replace p143 := eq_true p143
               replace q143 := eq_true q143
               have p144 : 0 ≤ (x5_1 : Int) := oda
               have q144 : x5_1 < (l0.length : Int) := oda
               obtain ⟨ad144, A144_7, c144_7, e144, hx144_0, hx144_1, hx144_2, hx144_3, hx144_4, hx144_5, hx144_6, hx144_7, hx144_8, hl144_7, hi144_7⟩ := at_T31 HR0.out x5_1 p144 q144
               have hy144_7 := hx144_7
               obtain rfl : ad143 = ad144 := (by injection e144)
               replace hx144_0 := hbc HB.out hx144_0
               replace hx144_1 := hbc HB.out hx144_1
               replace hx144_2 := hbc HB.out hx144_2
               replace hx144_3 := hbc HB.out hx144_3
               replace hx144_4 := hbc HB.out hx144_4
               replace hx144_5 := hbc HB.out hx144_5
               replace hx144_6 := hbc HB.out hx144_6
               replace hx144_7 := hbc HB.out hx144_7
               replace hx144_8 := hbc HB.out hx144_8
               have HR144_7 := Aside0.mk hi144_7
               have HC144_7 := Aside0.mk hl144_7
               clear hi144_7 hl144_7
               replace p144 := eq_true p144
               replace q144 := eq_true q144
               have ea_ := Option.some.inj (hx143_7.symm.trans hx144_7)
               injection ea_ with ea_ en_ ec_
               subst ea_
               subst ec_
               clear en_
               try go_wp2
               have n0_ := Aside0.mk (below_drew1 HB.out)
               clear HB
               have HB := n0_
               clear n0_
               have p145 : 0 ≤ (x5_1 : Int) := oda
               have q145 : x5_1 < (l0.length : Int) := oda
               obtain ⟨ad145, A145_7, c145_7, e145, hx145_0, hx145_1, hx145_2, hx145_3, hx145_4, hx145_5, hx145_6, hx145_7, hx145_8, hl145_7, hi145_7⟩ := at_T31 HR0.out x5_1 p145 q145
               have hy145_7 := hx145_7
               have hw145_8 := hx145_8
               have hw145_7 := hx145_7
               have hw145_6 := hx145_6
               have hw145_5 := hx145_5
               have hw145_4 := hx145_4
               have hw145_3 := hx145_3
               have hw145_2 := hx145_2
               have hw145_1 := hx145_1
               have hw145_0 := hx145_0
               obtain rfl : ad143 = ad145 := (by injection e145)
               replace hx145_0 := hbc HB.out hx145_0
               replace hx145_1 := hbc HB.out hx145_1
               replace hx145_2 := hbc HB.out hx145_2
               replace hx145_3 := hbc HB.out hx145_3
               replace hx145_4 := hbc HB.out hx145_4
               replace hx145_5 := hbc HB.out hx145_5
               replace hx145_6 := hbc HB.out hx145_6
               replace hx145_7 := hbc HB.out hx145_7
               replace hx145_8 := hbc HB.out hx145_8
               have HR145_7 := Aside0.mk hi145_7
               have HC145_7 := Aside0.mk hl145_7
               clear hi145_7 hl145_7
               replace p145 := eq_true p145
               replace q145 := eq_true q145
               refine start_ (n := 8) (S := fun w' => w'.cell? (ad143.add ((x5_1).toNat * 9)) = some (.int .i64 ((rd_T31 l0 x5_1).f0)) ∧ w'.cell? ⟨(ad143.add ((x5_1).toNat * 9)).block, (ad143.add ((x5_1).toNat * 9)).off + 1, none⟩ = some (.int .i64 ((rd_T31 l0 x5_1).f1)) ∧ w'.cell? ⟨(ad143.add ((x5_1).toNat * 9)).block, (ad143.add ((x5_1).toNat * 9)).off + 2, none⟩ = some (.string ((rd_T31 l0 x5_1).f2)) ∧ w'.cell? ⟨(ad143.add ((x5_1).toNat * 9)).block, (ad143.add ((x5_1).toNat * 9)).off + 3, none⟩ = some (.bool ((rd_T31 l0 x5_1).f3)) ∧ w'.cell? ⟨(ad143.add ((x5_1).toNat * 9)).block, (ad143.add ((x5_1).toNat * 9)).off + 4, none⟩ = some (.int .i64 ((rd_T31 l0 x5_1).f4)) ∧ w'.cell? ⟨(ad143.add ((x5_1).toNat * 9)).block, (ad143.add ((x5_1).toNat * 9)).off + 5, none⟩ = some (.int .i64 ((rd_T31 l0 x5_1).f5)) ∧ w'.cell? ⟨(ad143.add ((x5_1).toNat * 9)).block, (ad143.add ((x5_1).toNat * 9)).off + 6, none⟩ = some (.int .i64 ((rd_T31 l0 x5_1).f6)) ∧ w'.cell? ⟨(ad143.add ((x5_1).toNat * 9)).block, (ad143.add ((x5_1).toNat * 9)).off + 7, none⟩ = some (.slice A145_7 ((rd_T31 l0 x5_1).f7).length c145_7) ∧ w'.cell? ⟨(ad143.add ((x5_1).toNat * 9)).block, (ad143.add ((x5_1).toNat * 9)).off + 8, none⟩ = some (.int .i64 ((rd_T31 l0 x5_1).f8))) (ds := []) #[O,O,O,O,O,O,O,O] (by kernel_rfl) rfl rfl ⟨((HB.out.cell (World.block_lt_of_cell? w _ hw145_0)).trans hw145_0), ((HB.out.cell (World.block_lt_of_cell? w _ hw145_1)).trans hw145_1), ((HB.out.cell (World.block_lt_of_cell? w _ hw145_2)).trans hw145_2), ((HB.out.cell (World.block_lt_of_cell? w _ hw145_3)).trans hw145_3), ((HB.out.cell (World.block_lt_of_cell? w _ hw145_4)).trans hw145_4), ((HB.out.cell (World.block_lt_of_cell? w _ hw145_5)).trans hw145_5), ((HB.out.cell (World.block_lt_of_cell? w _ hw145_6)).trans hw145_6), ((HB.out.cell (World.block_lt_of_cell? w _ hw145_7)).trans hw145_7), ((HB.out.cell (World.block_lt_of_cell? w _ hw145_8)).trans hw145_8)⟩ (fun hHeld => ?_); refine with_tabW laws_heldInodeS.tab10 laws_heldInodeS.bits10 (fun HT_ HW_ => ?_)
               generalize wr.drew = w22 at HB HR145_7 hx145_0 hx145_1 hx145_2 hx145_3 hx145_4 hx145_5 hx145_6 hx145_7 hx145_8 hHeld ⊢
               refine pz 0 30 #[Y,O,O,O,O,O,O,O] HT_ ?_
               refine pz 1 31 #[Y,Y,O,O,O,O,O,O] HT_ ?_
               refine pz 2 32 #[Y,Y,Y,O,O,O,O,O] HT_ ?_
               refine pz 3 33 #[Y,Y,Y,Y,O,O,O,O] HT_ ?_
               refine pure_ (i := 5) (N := some 35) (v := ?_) (a' := ?_) #[Y,Y,Y,Y,O,Y,O,O] rfl rfl (any_of HT_.out (by kernel_rfl)) (fun _ _ _ h => h) (Or.inl ⟨by rfl, ?_⟩) ?_ ?_
               rotate_left
               ·intro w'
                go_simp
                with_reducible rfl
               rotate_left
               ·simp only [Act.put, List.setIfInBounds_toArray, List.set_cons_zero, List.set_cons_succ, i64_w, i32_w]
                rfl
               refine take_ (i := 4) (N := some 34) (v := ?_) (a' := ?_) #[Y,Y,Y,Y,Y,Y,O,O] rfl rfl (take_ofW HT_.out HW_.out (by kernel_rfl)) (fun _ _ _ h => h) (Or.inl ⟨by rfl, ?_⟩) hHeld ?_ ?_
               rotate_left
               ·rintro w' ⟨s0, s1, s2, s3, s4, s5, s6, s7, s8⟩
                go_simp
                with_reducible rfl
               rotate_left
               ·simp only [Act.put, List.setIfInBounds_toArray, List.set_cons_zero, List.set_cons_succ, i64_w, i32_w]
                rfl
               refine one_ (i := 6) (N := some 36) #[Y,Y,Y,Y,Y,Y,Y,O] rfl rfl (one_of HT_.out (by kernel_rfl)) (by decide) (fun K hK => ?_)
               refine goes_ Try.func13 (by kernel_rfl) rfl #[.int .i64 (wrap64 ((wrap64 (x1_1 + 1)) + 1))] (by rfl) rfl rfl (by (try simp only [List.map_toArray, List.map_cons, List.map_nil]); first | done | rfl | (simp only [List.length_drop, List.length_take]; rfl)) ?_
               with_reducible refine (laws_markText.calls k1 (wrap64 ((wrap64 (x1_1 + 1)) + 1)) t146 _ A7.out).mono ?_
               rintro e w23 ⟨rfl, hb⟩
               refine ⟨_, rfl, ?_⟩
               have n0_ := Aside0.mk (below_step (pl0 HB.out) hb)
               clear HB
               have HB := n0_
               clear n0_
               (try clear hb)
               (try clear hb2)
               (try clear hk)
               (try clear hi)
               refine hK.out _ _ ⟨((HB.out.cell (World.block_lt_of_cell? w _ hw145_0)).trans hw145_0), ((HB.out.cell (World.block_lt_of_cell? w _ hw145_1)).trans hw145_1), ((HB.out.cell (World.block_lt_of_cell? w _ hw145_2)).trans hw145_2), ((HB.out.cell (World.block_lt_of_cell? w _ hw145_3)).trans hw145_3), ((HB.out.cell (World.block_lt_of_cell? w _ hw145_4)).trans hw145_4), ((HB.out.cell (World.block_lt_of_cell? w _ hw145_5)).trans hw145_5), ((HB.out.cell (World.block_lt_of_cell? w _ hw145_6)).trans hw145_6), ((HB.out.cell (World.block_lt_of_cell? w _ hw145_7)).trans hw145_7), ((HB.out.cell (World.block_lt_of_cell? w _ hw145_8)).trans hw145_8)⟩ (fun hHeld => ?_)
               clear hK K
               refine norm_ (a' := ?_) ?_ ?_
               rotate_left
               ·show Act.put _ (some 36) _ = _
                simp only [Act.put, List.setIfInBounds_toArray, List.set_cons_zero, List.set_cons_succ, i64_w, i32_w]
                rfl
               refine pz 7 37 #[Y,Y,Y,Y,Y,Y,Y,Y] HT_ ?_
               refine done_ (done_of HT_.out (by kernel_rfl)) ?_
               have p147 : 0 ≤ (x5_1 : Int) := oda
               have q147 : x5_1 < (l0.length : Int) := oda
               obtain ⟨ad147, A147_7, c147_7, e147, hx147_0, hx147_1, hx147_2, hx147_3, hx147_4, hx147_5, hx147_6, hx147_7, hx147_8, hl147_7, hi147_7⟩ := at_T31 HR0.out x5_1 p147 q147
               have hy147_7 := hx147_7
               obtain rfl : ad143 = ad147 := (by injection e147)
               have ea_ := Option.some.inj (hy147_7.symm.trans hy145_7)
               injection ea_ with ea_ en_ ec_
               subst ea_
               subst ec_
               clear en_
               replace hx147_7 := hbc HB.out hx147_7
               have HR147_7 := Aside0.mk hi147_7
               have HC147_7 := Aside0.mk hl147_7
               clear hi147_7 hl147_7
               replace p147 := eq_true p147
               replace q147 := eq_true q147
               have p148 : 0 ≤ (x5_1 : Int) := oda
               have q148 : x5_1 < (l0.length : Int) := oda
               obtain ⟨ad148, A148_7, c148_7, e148, hx148_0, hx148_1, hx148_2, hx148_3, hx148_4, hx148_5, hx148_6, hx148_7, hx148_8, hl148_7, hi148_7⟩ := at_T31 HR0.out x5_1 p148 q148
               have hy148_7 := hx148_7
               obtain rfl : ad143 = ad148 := (by injection e148)
               replace hx148_7 := hbc HB.out hx148_7
               have HR148_7 := Aside0.mk hi148_7
               have HC148_7 := Aside0.mk hl148_7
               clear hi148_7 hl148_7
               replace p148 := eq_true p148
               replace q148 := eq_true q148
               have ea_ := Option.some.inj (hx147_7.symm.trans hx148_7)
               injection ea_ with ea_ en_ ec_
               subst ea_
               subst ec_
               clear en_
               have p149 : 0 ≤ (x5_1 : Int) := oda
               have q149 : x5_1 < (l0.length : Int) := oda
               obtain ⟨ad149, A149_7, c149_7, e149, hx149_0, hx149_1, hx149_2, hx149_3, hx149_4, hx149_5, hx149_6, hx149_7, hx149_8, hl149_7, hi149_7⟩ := at_T31 HR0.out x5_1 p149 q149
               have hy149_7 := hx149_7
               obtain rfl : ad143 = ad149 := (by injection e149)
               replace hx149_7 := hbc HB.out hx149_7
               have HR149_7 := Aside0.mk hi149_7
               have HC149_7 := Aside0.mk hl149_7
               clear hi149_7 hl149_7
               replace p149 := eq_true p149
               replace q149 := eq_true q149
               have ea_ := Option.some.inj (hx147_7.symm.trans hx149_7)
               injection ea_ with ea_ en_ ec_
               subst ea_
               subst ec_
               clear en_
               have p150 : 0 ≤ (x5_1 : Int) := oda
               have q150 : x5_1 < (l0.length : Int) := oda
               obtain ⟨ad150, A150_7, c150_7, e150, hx150_0, hx150_1, hx150_2, hx150_3, hx150_4, hx150_5, hx150_6, hx150_7, hx150_8, hl150_7, hi150_7⟩ := at_T31 HR0.out x5_1 p150 q150
               have hy150_7 := hx150_7
               obtain rfl : ad143 = ad150 := (by injection e150)
               replace hx150_7 := hbc HB.out hx150_7
               have HR150_7 := Aside0.mk hi150_7
               have HC150_7 := Aside0.mk hl150_7
               clear hi150_7 hl150_7
               replace p150 := eq_true p150
               replace q150 := eq_true q150
               have ea_ := Option.some.inj (hx147_7.symm.trans hx150_7)
               injection ea_ with ea_ en_ ec_
               subst ea_
               subst ec_
               clear en_
               have p151 : 0 ≤ (x5_1 : Int) := oda
               have q151 : x5_1 < (l0.length : Int) := oda
               obtain ⟨ad151, A151_7, c151_7, e151, hx151_0, hx151_1, hx151_2, hx151_3, hx151_4, hx151_5, hx151_6, hx151_7, hx151_8, hl151_7, hi151_7⟩ := at_T31 HR0.out x5_1 p151 q151
               have hy151_7 := hx151_7
               obtain rfl : ad143 = ad151 := (by injection e151)
               replace hx151_7 := hbc HB.out hx151_7
               have HR151_7 := Aside0.mk hi151_7
               have HC151_7 := Aside0.mk hl151_7
               clear hi151_7 hl151_7
               replace p151 := eq_true p151
               replace q151 := eq_true q151
               have ea_ := Option.some.inj (hx147_7.symm.trans hx151_7)
               injection ea_ with ea_ en_ ec_
               subst ea_
               subst ec_
               clear en_
               try go_wp2_with (first | ((with_reducible refine gate_callee (f := 15) rfl ?_); refine goesL_ (some 84) rfl rfl Try.func15 (by kernel_rfl) rfl #[.slice A147_7 ((rd_T31 l0 x5_1).f7).length c147_7, .int .i64 (wrap64 ((wrap64 ((wrap64 ((wrap64 ((wrap64 ((wrap64 ((wrap64 (x1_1 + 1)) + 1)) + 1)) + 1)) + 1)) + 1)) + 1))] rfl (by (try simp only [List.map_toArray, List.map_cons, List.map_nil]); first | done | rfl | (simp only [List.length_drop, List.length_take]; rfl)) ?_; (with_reducible refine (laws_heldPieceS.calls k1 _ _ ((rd_T31 l0 x5_1).f7) (wrap64 ((wrap64 ((wrap64 ((wrap64 ((wrap64 ((wrap64 ((wrap64 (x1_1 + 1)) + 1)) + 1)) + 1)) + 1)) + 1)) + 1)) t152 _ ?side1 ?side2 A15.out).mono ?_); (case side1 => exact pc (Kd.C_below HR151_7.out HB.out)); (case side2 => exact HC151_7.out); rintro e w' ⟨rfl, ⟨nd, rfl⟩⟩; refine ⟨_, rfl, ?_⟩; have p153 : 0 ≤ (x5_1 : Int) := oda; have q153 : x5_1 < (l0.length : Int) := oda; obtain ⟨ad153, A153_7, c153_7, e153, hx153_0, hx153_1, hx153_2, hx153_3, hx153_4, hx153_5, hx153_6, hx153_7, hx153_8, hl153_7, hi153_7⟩ := at_T31 HR0.out x5_1 p153 q153; obtain rfl : ad143 = ad153 := (by injection e153); replace hx153_0 := hbc HB.out hx153_0; replace hx153_1 := hbc HB.out hx153_1; replace hx153_2 := hbc HB.out hx153_2; replace hx153_3 := hbc HB.out hx153_3; replace hx153_4 := hbc HB.out hx153_4; replace hx153_5 := hbc HB.out hx153_5; replace hx153_6 := hbc HB.out hx153_6; replace hx153_7 := hbc HB.out hx153_7; replace hx153_8 := hbc HB.out hx153_8; have HR153_7 := Aside0.mk hi153_7; have HC153_7 := Aside0.mk hl153_7; clear hi153_7 hl153_7; replace p153 := eq_true p153; replace q153 := eq_true q153; have ea_ := Option.some.inj (hx147_7.symm.trans hx153_7); injection ea_ with ea_ en_ ec_; subst ea_; subst ec_; clear en_))
               go_ret
               exact ⟨erq, pl0 HB.out⟩
            ·rw [if_neg c14] at H
             have c14b0 : (((rd_T31 l0 x5_1).f6) == (wrap64 ((wrap64 ((wrap64 ((wrap64 ((wrap64 ((wrap64 (x1_1 + 1)) + 1)) + 1)) + 1)) + 1)) + 1))) = false := beq_eq_false_iff_ne.mpr c14
             have c14b1 : (((rd_T31 l0 x5_1).f6) != (wrap64 ((wrap64 ((wrap64 ((wrap64 ((wrap64 ((wrap64 (x1_1 + 1)) + 1)) + 1)) + 1)) + 1)) + 1))) = true := bne_iff_ne.mpr c14
             obtain rfl := Option.some.inj H
             have p143 : 0 ≤ (x5_1 : Int) := oda
             have q143 : x5_1 < (l0.length : Int) := oda
             obtain ⟨ad143, A143_7, c143_7, e143, hx143_0, hx143_1, hx143_2, hx143_3, hx143_4, hx143_5, hx143_6, hx143_7, hx143_8, hl143_7, hi143_7⟩ := at_T31 HR0.out x5_1 p143 q143
             have hy143_7 := hx143_7
             cases e143
             replace hx143_0 := hbc HB.out hx143_0
             replace hx143_1 := hbc HB.out hx143_1
             replace hx143_2 := hbc HB.out hx143_2
             replace hx143_3 := hbc HB.out hx143_3
             replace hx143_4 := hbc HB.out hx143_4
             replace hx143_5 := hbc HB.out hx143_5
             replace hx143_6 := hbc HB.out hx143_6
             replace hx143_7 := hbc HB.out hx143_7
             replace hx143_8 := hbc HB.out hx143_8
             have HR143_7 := Aside0.mk hi143_7
             have HC143_7 := Aside0.mk hl143_7
             clear hi143_7 hl143_7
             replace p143 := eq_true p143
             replace q143 := eq_true q143
             have p144 : 0 ≤ (x5_1 : Int) := oda
             have q144 : x5_1 < (l0.length : Int) := oda
             obtain ⟨ad144, A144_7, c144_7, e144, hx144_0, hx144_1, hx144_2, hx144_3, hx144_4, hx144_5, hx144_6, hx144_7, hx144_8, hl144_7, hi144_7⟩ := at_T31 HR0.out x5_1 p144 q144
             have hy144_7 := hx144_7
             obtain rfl : ad143 = ad144 := (by injection e144)
             replace hx144_0 := hbc HB.out hx144_0
             replace hx144_1 := hbc HB.out hx144_1
             replace hx144_2 := hbc HB.out hx144_2
             replace hx144_3 := hbc HB.out hx144_3
             replace hx144_4 := hbc HB.out hx144_4
             replace hx144_5 := hbc HB.out hx144_5
             replace hx144_6 := hbc HB.out hx144_6
             replace hx144_7 := hbc HB.out hx144_7
             replace hx144_8 := hbc HB.out hx144_8
             have HR144_7 := Aside0.mk hi144_7
             have HC144_7 := Aside0.mk hl144_7
             clear hi144_7 hl144_7
             replace p144 := eq_true p144
             replace q144 := eq_true q144
             have ea_ := Option.some.inj (hx143_7.symm.trans hx144_7)
             injection ea_ with ea_ en_ ec_
             subst ea_
             subst ec_
             clear en_
             try go_wp2
             have n0_ := Aside0.mk (below_drew1 HB.out)
             clear HB
             have HB := n0_
             clear n0_
             have p145 : 0 ≤ (x5_1 : Int) := oda
             have q145 : x5_1 < (l0.length : Int) := oda
             obtain ⟨ad145, A145_7, c145_7, e145, hx145_0, hx145_1, hx145_2, hx145_3, hx145_4, hx145_5, hx145_6, hx145_7, hx145_8, hl145_7, hi145_7⟩ := at_T31 HR0.out x5_1 p145 q145
             have hy145_7 := hx145_7
             have hw145_8 := hx145_8
             have hw145_7 := hx145_7
             have hw145_6 := hx145_6
             have hw145_5 := hx145_5
             have hw145_4 := hx145_4
             have hw145_3 := hx145_3
             have hw145_2 := hx145_2
             have hw145_1 := hx145_1
             have hw145_0 := hx145_0
             obtain rfl : ad143 = ad145 := (by injection e145)
             replace hx145_0 := hbc HB.out hx145_0
             replace hx145_1 := hbc HB.out hx145_1
             replace hx145_2 := hbc HB.out hx145_2
             replace hx145_3 := hbc HB.out hx145_3
             replace hx145_4 := hbc HB.out hx145_4
             replace hx145_5 := hbc HB.out hx145_5
             replace hx145_6 := hbc HB.out hx145_6
             replace hx145_7 := hbc HB.out hx145_7
             replace hx145_8 := hbc HB.out hx145_8
             have HR145_7 := Aside0.mk hi145_7
             have HC145_7 := Aside0.mk hl145_7
             clear hi145_7 hl145_7
             replace p145 := eq_true p145
             replace q145 := eq_true q145
             refine start_ (n := 8) (S := fun w' => w'.cell? (ad143.add ((x5_1).toNat * 9)) = some (.int .i64 ((rd_T31 l0 x5_1).f0)) ∧ w'.cell? ⟨(ad143.add ((x5_1).toNat * 9)).block, (ad143.add ((x5_1).toNat * 9)).off + 1, none⟩ = some (.int .i64 ((rd_T31 l0 x5_1).f1)) ∧ w'.cell? ⟨(ad143.add ((x5_1).toNat * 9)).block, (ad143.add ((x5_1).toNat * 9)).off + 2, none⟩ = some (.string ((rd_T31 l0 x5_1).f2)) ∧ w'.cell? ⟨(ad143.add ((x5_1).toNat * 9)).block, (ad143.add ((x5_1).toNat * 9)).off + 3, none⟩ = some (.bool ((rd_T31 l0 x5_1).f3)) ∧ w'.cell? ⟨(ad143.add ((x5_1).toNat * 9)).block, (ad143.add ((x5_1).toNat * 9)).off + 4, none⟩ = some (.int .i64 ((rd_T31 l0 x5_1).f4)) ∧ w'.cell? ⟨(ad143.add ((x5_1).toNat * 9)).block, (ad143.add ((x5_1).toNat * 9)).off + 5, none⟩ = some (.int .i64 ((rd_T31 l0 x5_1).f5)) ∧ w'.cell? ⟨(ad143.add ((x5_1).toNat * 9)).block, (ad143.add ((x5_1).toNat * 9)).off + 6, none⟩ = some (.int .i64 ((rd_T31 l0 x5_1).f6)) ∧ w'.cell? ⟨(ad143.add ((x5_1).toNat * 9)).block, (ad143.add ((x5_1).toNat * 9)).off + 7, none⟩ = some (.slice A145_7 ((rd_T31 l0 x5_1).f7).length c145_7) ∧ w'.cell? ⟨(ad143.add ((x5_1).toNat * 9)).block, (ad143.add ((x5_1).toNat * 9)).off + 8, none⟩ = some (.int .i64 ((rd_T31 l0 x5_1).f8))) (ds := []) #[O,O,O,O,O,O,O,O] (by kernel_rfl) rfl rfl ⟨((HB.out.cell (World.block_lt_of_cell? w _ hw145_0)).trans hw145_0), ((HB.out.cell (World.block_lt_of_cell? w _ hw145_1)).trans hw145_1), ((HB.out.cell (World.block_lt_of_cell? w _ hw145_2)).trans hw145_2), ((HB.out.cell (World.block_lt_of_cell? w _ hw145_3)).trans hw145_3), ((HB.out.cell (World.block_lt_of_cell? w _ hw145_4)).trans hw145_4), ((HB.out.cell (World.block_lt_of_cell? w _ hw145_5)).trans hw145_5), ((HB.out.cell (World.block_lt_of_cell? w _ hw145_6)).trans hw145_6), ((HB.out.cell (World.block_lt_of_cell? w _ hw145_7)).trans hw145_7), ((HB.out.cell (World.block_lt_of_cell? w _ hw145_8)).trans hw145_8)⟩ (fun hHeld => ?_); refine with_tabW laws_heldInodeS.tab10 laws_heldInodeS.bits10 (fun HT_ HW_ => ?_)
             generalize wr.drew = w24 at HB HR145_7 hx145_0 hx145_1 hx145_2 hx145_3 hx145_4 hx145_5 hx145_6 hx145_7 hx145_8 hHeld ⊢
             refine pz 0 30 #[Y,O,O,O,O,O,O,O] HT_ ?_
             refine pz 1 31 #[Y,Y,O,O,O,O,O,O] HT_ ?_
             refine pz 2 32 #[Y,Y,Y,O,O,O,O,O] HT_ ?_
             refine pz 3 33 #[Y,Y,Y,Y,O,O,O,O] HT_ ?_
             refine pure_ (i := 5) (N := some 35) (v := ?_) (a' := ?_) #[Y,Y,Y,Y,O,Y,O,O] rfl rfl (any_of HT_.out (by kernel_rfl)) (fun _ _ _ h => h) (Or.inl ⟨by rfl, ?_⟩) ?_ ?_
             rotate_left
             ·intro w'
              go_simp
              with_reducible rfl
             rotate_left
             ·simp only [Act.put, List.setIfInBounds_toArray, List.set_cons_zero, List.set_cons_succ, i64_w, i32_w]
              rfl
             refine take_ (i := 4) (N := some 34) (v := ?_) (a' := ?_) #[Y,Y,Y,Y,Y,Y,O,O] rfl rfl (take_ofW HT_.out HW_.out (by kernel_rfl)) (fun _ _ _ h => h) (Or.inl ⟨by rfl, ?_⟩) hHeld ?_ ?_
             rotate_left
             ·rintro w' ⟨s0, s1, s2, s3, s4, s5, s6, s7, s8⟩
              go_simp
              with_reducible rfl
             rotate_left
             ·simp only [Act.put, List.setIfInBounds_toArray, List.set_cons_zero, List.set_cons_succ, i64_w, i32_w]
              rfl
             refine one_ (i := 6) (N := some 36) #[Y,Y,Y,Y,Y,Y,Y,O] rfl rfl (one_of HT_.out (by kernel_rfl)) (by decide) (fun K hK => ?_)
             refine goes_ Try.func13 (by kernel_rfl) rfl #[.int .i64 (wrap64 ((wrap64 (x1_1 + 1)) + 1))] (by rfl) rfl rfl (by (try simp only [List.map_toArray, List.map_cons, List.map_nil]); first | done | rfl | (simp only [List.length_drop, List.length_take]; rfl)) ?_
             with_reducible refine (laws_markText.calls k1 (wrap64 ((wrap64 (x1_1 + 1)) + 1)) t146 _ A7.out).mono ?_
             rintro e w25 ⟨rfl, hb⟩
             refine ⟨_, rfl, ?_⟩
             have n0_ := Aside0.mk (below_step (pl0 HB.out) hb)
             clear HB
             have HB := n0_
             clear n0_
             (try clear hb)
             (try clear hb2)
             (try clear hk)
             (try clear hi)
             refine hK.out _ _ ⟨((HB.out.cell (World.block_lt_of_cell? w _ hw145_0)).trans hw145_0), ((HB.out.cell (World.block_lt_of_cell? w _ hw145_1)).trans hw145_1), ((HB.out.cell (World.block_lt_of_cell? w _ hw145_2)).trans hw145_2), ((HB.out.cell (World.block_lt_of_cell? w _ hw145_3)).trans hw145_3), ((HB.out.cell (World.block_lt_of_cell? w _ hw145_4)).trans hw145_4), ((HB.out.cell (World.block_lt_of_cell? w _ hw145_5)).trans hw145_5), ((HB.out.cell (World.block_lt_of_cell? w _ hw145_6)).trans hw145_6), ((HB.out.cell (World.block_lt_of_cell? w _ hw145_7)).trans hw145_7), ((HB.out.cell (World.block_lt_of_cell? w _ hw145_8)).trans hw145_8)⟩ (fun hHeld => ?_)
             clear hK K
             refine norm_ (a' := ?_) ?_ ?_
             rotate_left
             ·show Act.put _ (some 36) _ = _
              simp only [Act.put, List.setIfInBounds_toArray, List.set_cons_zero, List.set_cons_succ, i64_w, i32_w]
              rfl
             refine pz 7 37 #[Y,Y,Y,Y,Y,Y,Y,Y] HT_ ?_
             refine done_ (done_of HT_.out (by kernel_rfl)) ?_
             have p147 : 0 ≤ (x5_1 : Int) := oda
             have q147 : x5_1 < (l0.length : Int) := oda
             obtain ⟨ad147, A147_7, c147_7, e147, hx147_0, hx147_1, hx147_2, hx147_3, hx147_4, hx147_5, hx147_6, hx147_7, hx147_8, hl147_7, hi147_7⟩ := at_T31 HR0.out x5_1 p147 q147
             have hy147_7 := hx147_7
             obtain rfl : ad143 = ad147 := (by injection e147)
             have ea_ := Option.some.inj (hy147_7.symm.trans hy145_7)
             injection ea_ with ea_ en_ ec_
             subst ea_
             subst ec_
             clear en_
             replace hx147_0 := hbc HB.out hx147_0
             replace hx147_1 := hbc HB.out hx147_1
             replace hx147_2 := hbc HB.out hx147_2
             replace hx147_3 := hbc HB.out hx147_3
             replace hx147_4 := hbc HB.out hx147_4
             replace hx147_5 := hbc HB.out hx147_5
             replace hx147_6 := hbc HB.out hx147_6
             replace hx147_7 := hbc HB.out hx147_7
             replace hx147_8 := hbc HB.out hx147_8
             have HR147_7 := Aside0.mk hi147_7
             have HC147_7 := Aside0.mk hl147_7
             clear hi147_7 hl147_7
             replace p147 := eq_true p147
             replace q147 := eq_true q147
             have p148 : 0 ≤ (x5_1 : Int) := oda
             have q148 : x5_1 < (l0.length : Int) := oda
             obtain ⟨ad148, A148_7, c148_7, e148, hx148_0, hx148_1, hx148_2, hx148_3, hx148_4, hx148_5, hx148_6, hx148_7, hx148_8, hl148_7, hi148_7⟩ := at_T31 HR0.out x5_1 p148 q148
             have hy148_7 := hx148_7
             obtain rfl : ad143 = ad148 := (by injection e148)
             replace hx148_0 := hbc HB.out hx148_0
             replace hx148_1 := hbc HB.out hx148_1
             replace hx148_2 := hbc HB.out hx148_2
             replace hx148_3 := hbc HB.out hx148_3
             replace hx148_4 := hbc HB.out hx148_4
             replace hx148_5 := hbc HB.out hx148_5
             replace hx148_6 := hbc HB.out hx148_6
             replace hx148_7 := hbc HB.out hx148_7
             replace hx148_8 := hbc HB.out hx148_8
             have HR148_7 := Aside0.mk hi148_7
             have HC148_7 := Aside0.mk hl148_7
             clear hi148_7 hl148_7
             replace p148 := eq_true p148
             replace q148 := eq_true q148
             have ea_ := Option.some.inj (hx147_7.symm.trans hx148_7)
             injection ea_ with ea_ en_ ec_
             subst ea_
             subst ec_
             clear en_
             have p149 : 0 ≤ (x5_1 : Int) := oda
             have q149 : x5_1 < (l0.length : Int) := oda
             obtain ⟨ad149, A149_7, c149_7, e149, hx149_0, hx149_1, hx149_2, hx149_3, hx149_4, hx149_5, hx149_6, hx149_7, hx149_8, hl149_7, hi149_7⟩ := at_T31 HR0.out x5_1 p149 q149
             have hy149_7 := hx149_7
             obtain rfl : ad143 = ad149 := (by injection e149)
             replace hx149_0 := hbc HB.out hx149_0
             replace hx149_1 := hbc HB.out hx149_1
             replace hx149_2 := hbc HB.out hx149_2
             replace hx149_3 := hbc HB.out hx149_3
             replace hx149_4 := hbc HB.out hx149_4
             replace hx149_5 := hbc HB.out hx149_5
             replace hx149_6 := hbc HB.out hx149_6
             replace hx149_7 := hbc HB.out hx149_7
             replace hx149_8 := hbc HB.out hx149_8
             have HR149_7 := Aside0.mk hi149_7
             have HC149_7 := Aside0.mk hl149_7
             clear hi149_7 hl149_7
             replace p149 := eq_true p149
             replace q149 := eq_true q149
             have ea_ := Option.some.inj (hx147_7.symm.trans hx149_7)
             injection ea_ with ea_ en_ ec_
             subst ea_
             subst ec_
             clear en_
             have p150 : 0 ≤ (x5_1 : Int) := oda
             have q150 : x5_1 < (l0.length : Int) := oda
             obtain ⟨ad150, A150_7, c150_7, e150, hx150_0, hx150_1, hx150_2, hx150_3, hx150_4, hx150_5, hx150_6, hx150_7, hx150_8, hl150_7, hi150_7⟩ := at_T31 HR0.out x5_1 p150 q150
             have hy150_7 := hx150_7
             obtain rfl : ad143 = ad150 := (by injection e150)
             replace hx150_0 := hbc HB.out hx150_0
             replace hx150_1 := hbc HB.out hx150_1
             replace hx150_2 := hbc HB.out hx150_2
             replace hx150_3 := hbc HB.out hx150_3
             replace hx150_4 := hbc HB.out hx150_4
             replace hx150_5 := hbc HB.out hx150_5
             replace hx150_6 := hbc HB.out hx150_6
             replace hx150_7 := hbc HB.out hx150_7
             replace hx150_8 := hbc HB.out hx150_8
             have HR150_7 := Aside0.mk hi150_7
             have HC150_7 := Aside0.mk hl150_7
             clear hi150_7 hl150_7
             replace p150 := eq_true p150
             replace q150 := eq_true q150
             have ea_ := Option.some.inj (hx147_7.symm.trans hx150_7)
             injection ea_ with ea_ en_ ec_
             subst ea_
             subst ec_
             clear en_
             try go_wp2
             go_ret
             exact ⟨erq, pl0 HB.out⟩
           ·rw [if_neg c13] at H
            have c13b0 : (((rd_T31 l0 x5_1).f5) == (wrap64 ((wrap64 ((wrap64 ((wrap64 ((wrap64 (x1_1 + 1)) + 1)) + 1)) + 1)) + 1))) = false := beq_eq_false_iff_ne.mpr c13
            have c13b1 : (((rd_T31 l0 x5_1).f5) != (wrap64 ((wrap64 ((wrap64 ((wrap64 ((wrap64 (x1_1 + 1)) + 1)) + 1)) + 1)) + 1))) = true := bne_iff_ne.mpr c13
            obtain rfl := Option.some.inj H
            have p143 : 0 ≤ (x5_1 : Int) := oda
            have q143 : x5_1 < (l0.length : Int) := oda
            obtain ⟨ad143, A143_7, c143_7, e143, hx143_0, hx143_1, hx143_2, hx143_3, hx143_4, hx143_5, hx143_6, hx143_7, hx143_8, hl143_7, hi143_7⟩ := at_T31 HR0.out x5_1 p143 q143
            have hy143_7 := hx143_7
            cases e143
            replace hx143_0 := hbc HB.out hx143_0
            replace hx143_1 := hbc HB.out hx143_1
            replace hx143_2 := hbc HB.out hx143_2
            replace hx143_3 := hbc HB.out hx143_3
            replace hx143_4 := hbc HB.out hx143_4
            replace hx143_5 := hbc HB.out hx143_5
            replace hx143_6 := hbc HB.out hx143_6
            replace hx143_7 := hbc HB.out hx143_7
            replace hx143_8 := hbc HB.out hx143_8
            have HR143_7 := Aside0.mk hi143_7
            have HC143_7 := Aside0.mk hl143_7
            clear hi143_7 hl143_7
            replace p143 := eq_true p143
            replace q143 := eq_true q143
            have p144 : 0 ≤ (x5_1 : Int) := oda
            have q144 : x5_1 < (l0.length : Int) := oda
            obtain ⟨ad144, A144_7, c144_7, e144, hx144_0, hx144_1, hx144_2, hx144_3, hx144_4, hx144_5, hx144_6, hx144_7, hx144_8, hl144_7, hi144_7⟩ := at_T31 HR0.out x5_1 p144 q144
            have hy144_7 := hx144_7
            obtain rfl : ad143 = ad144 := (by injection e144)
            replace hx144_0 := hbc HB.out hx144_0
            replace hx144_1 := hbc HB.out hx144_1
            replace hx144_2 := hbc HB.out hx144_2
            replace hx144_3 := hbc HB.out hx144_3
            replace hx144_4 := hbc HB.out hx144_4
            replace hx144_5 := hbc HB.out hx144_5
            replace hx144_6 := hbc HB.out hx144_6
            replace hx144_7 := hbc HB.out hx144_7
            replace hx144_8 := hbc HB.out hx144_8
            have HR144_7 := Aside0.mk hi144_7
            have HC144_7 := Aside0.mk hl144_7
            clear hi144_7 hl144_7
            replace p144 := eq_true p144
            replace q144 := eq_true q144
            have ea_ := Option.some.inj (hx143_7.symm.trans hx144_7)
            injection ea_ with ea_ en_ ec_
            subst ea_
            subst ec_
            clear en_
            try go_wp2
            have n0_ := Aside0.mk (below_drew1 HB.out)
            clear HB
            have HB := n0_
            clear n0_
            have p145 : 0 ≤ (x5_1 : Int) := oda
            have q145 : x5_1 < (l0.length : Int) := oda
            obtain ⟨ad145, A145_7, c145_7, e145, hx145_0, hx145_1, hx145_2, hx145_3, hx145_4, hx145_5, hx145_6, hx145_7, hx145_8, hl145_7, hi145_7⟩ := at_T31 HR0.out x5_1 p145 q145
            have hy145_7 := hx145_7
            have hw145_8 := hx145_8
            have hw145_7 := hx145_7
            have hw145_6 := hx145_6
            have hw145_5 := hx145_5
            have hw145_4 := hx145_4
            have hw145_3 := hx145_3
            have hw145_2 := hx145_2
            have hw145_1 := hx145_1
            have hw145_0 := hx145_0
            obtain rfl : ad143 = ad145 := (by injection e145)
            replace hx145_0 := hbc HB.out hx145_0
            replace hx145_1 := hbc HB.out hx145_1
            replace hx145_2 := hbc HB.out hx145_2
            replace hx145_3 := hbc HB.out hx145_3
            replace hx145_4 := hbc HB.out hx145_4
            replace hx145_5 := hbc HB.out hx145_5
            replace hx145_6 := hbc HB.out hx145_6
            replace hx145_7 := hbc HB.out hx145_7
            replace hx145_8 := hbc HB.out hx145_8
            have HR145_7 := Aside0.mk hi145_7
            have HC145_7 := Aside0.mk hl145_7
            clear hi145_7 hl145_7
            replace p145 := eq_true p145
            replace q145 := eq_true q145
            refine start_ (n := 8) (S := fun w' => w'.cell? (ad143.add ((x5_1).toNat * 9)) = some (.int .i64 ((rd_T31 l0 x5_1).f0)) ∧ w'.cell? ⟨(ad143.add ((x5_1).toNat * 9)).block, (ad143.add ((x5_1).toNat * 9)).off + 1, none⟩ = some (.int .i64 ((rd_T31 l0 x5_1).f1)) ∧ w'.cell? ⟨(ad143.add ((x5_1).toNat * 9)).block, (ad143.add ((x5_1).toNat * 9)).off + 2, none⟩ = some (.string ((rd_T31 l0 x5_1).f2)) ∧ w'.cell? ⟨(ad143.add ((x5_1).toNat * 9)).block, (ad143.add ((x5_1).toNat * 9)).off + 3, none⟩ = some (.bool ((rd_T31 l0 x5_1).f3)) ∧ w'.cell? ⟨(ad143.add ((x5_1).toNat * 9)).block, (ad143.add ((x5_1).toNat * 9)).off + 4, none⟩ = some (.int .i64 ((rd_T31 l0 x5_1).f4)) ∧ w'.cell? ⟨(ad143.add ((x5_1).toNat * 9)).block, (ad143.add ((x5_1).toNat * 9)).off + 5, none⟩ = some (.int .i64 ((rd_T31 l0 x5_1).f5)) ∧ w'.cell? ⟨(ad143.add ((x5_1).toNat * 9)).block, (ad143.add ((x5_1).toNat * 9)).off + 6, none⟩ = some (.int .i64 ((rd_T31 l0 x5_1).f6)) ∧ w'.cell? ⟨(ad143.add ((x5_1).toNat * 9)).block, (ad143.add ((x5_1).toNat * 9)).off + 7, none⟩ = some (.slice A145_7 ((rd_T31 l0 x5_1).f7).length c145_7) ∧ w'.cell? ⟨(ad143.add ((x5_1).toNat * 9)).block, (ad143.add ((x5_1).toNat * 9)).off + 8, none⟩ = some (.int .i64 ((rd_T31 l0 x5_1).f8))) (ds := []) #[O,O,O,O,O,O,O,O] (by kernel_rfl) rfl rfl ⟨((HB.out.cell (World.block_lt_of_cell? w _ hw145_0)).trans hw145_0), ((HB.out.cell (World.block_lt_of_cell? w _ hw145_1)).trans hw145_1), ((HB.out.cell (World.block_lt_of_cell? w _ hw145_2)).trans hw145_2), ((HB.out.cell (World.block_lt_of_cell? w _ hw145_3)).trans hw145_3), ((HB.out.cell (World.block_lt_of_cell? w _ hw145_4)).trans hw145_4), ((HB.out.cell (World.block_lt_of_cell? w _ hw145_5)).trans hw145_5), ((HB.out.cell (World.block_lt_of_cell? w _ hw145_6)).trans hw145_6), ((HB.out.cell (World.block_lt_of_cell? w _ hw145_7)).trans hw145_7), ((HB.out.cell (World.block_lt_of_cell? w _ hw145_8)).trans hw145_8)⟩ (fun hHeld => ?_); refine with_tabW laws_heldInodeS.tab10 laws_heldInodeS.bits10 (fun HT_ HW_ => ?_)
            generalize wr.drew = w26 at HB HR145_7 hx145_0 hx145_1 hx145_2 hx145_3 hx145_4 hx145_5 hx145_6 hx145_7 hx145_8 hHeld ⊢
            refine pz 0 30 #[Y,O,O,O,O,O,O,O] HT_ ?_
            refine pz 1 31 #[Y,Y,O,O,O,O,O,O] HT_ ?_
            refine pz 2 32 #[Y,Y,Y,O,O,O,O,O] HT_ ?_
            refine pz 3 33 #[Y,Y,Y,Y,O,O,O,O] HT_ ?_
            refine pure_ (i := 5) (N := some 35) (v := ?_) (a' := ?_) #[Y,Y,Y,Y,O,Y,O,O] rfl rfl (any_of HT_.out (by kernel_rfl)) (fun _ _ _ h => h) (Or.inl ⟨by rfl, ?_⟩) ?_ ?_
            rotate_left
            ·intro w'
             go_simp
             with_reducible rfl
            rotate_left
            ·simp only [Act.put, List.setIfInBounds_toArray, List.set_cons_zero, List.set_cons_succ, i64_w, i32_w]
             rfl
            refine take_ (i := 4) (N := some 34) (v := ?_) (a' := ?_) #[Y,Y,Y,Y,Y,Y,O,O] rfl rfl (take_ofW HT_.out HW_.out (by kernel_rfl)) (fun _ _ _ h => h) (Or.inl ⟨by rfl, ?_⟩) hHeld ?_ ?_
            rotate_left
            ·rintro w' ⟨s0, s1, s2, s3, s4, s5, s6, s7, s8⟩
             go_simp
             with_reducible rfl
            rotate_left
            ·simp only [Act.put, List.setIfInBounds_toArray, List.set_cons_zero, List.set_cons_succ, i64_w, i32_w]
             rfl
            refine one_ (i := 6) (N := some 36) #[Y,Y,Y,Y,Y,Y,Y,O] rfl rfl (one_of HT_.out (by kernel_rfl)) (by decide) (fun K hK => ?_)
            refine goes_ Try.func13 (by kernel_rfl) rfl #[.int .i64 (wrap64 ((wrap64 (x1_1 + 1)) + 1))] (by rfl) rfl rfl (by (try simp only [List.map_toArray, List.map_cons, List.map_nil]); first | done | rfl | (simp only [List.length_drop, List.length_take]; rfl)) ?_
            with_reducible refine (laws_markText.calls k1 (wrap64 ((wrap64 (x1_1 + 1)) + 1)) t146 _ A7.out).mono ?_
            rintro e w27 ⟨rfl, hb⟩
            refine ⟨_, rfl, ?_⟩
            have n0_ := Aside0.mk (below_step (pl0 HB.out) hb)
            clear HB
            have HB := n0_
            clear n0_
            (try clear hb)
            (try clear hb2)
            (try clear hk)
            (try clear hi)
            refine hK.out _ _ ⟨((HB.out.cell (World.block_lt_of_cell? w _ hw145_0)).trans hw145_0), ((HB.out.cell (World.block_lt_of_cell? w _ hw145_1)).trans hw145_1), ((HB.out.cell (World.block_lt_of_cell? w _ hw145_2)).trans hw145_2), ((HB.out.cell (World.block_lt_of_cell? w _ hw145_3)).trans hw145_3), ((HB.out.cell (World.block_lt_of_cell? w _ hw145_4)).trans hw145_4), ((HB.out.cell (World.block_lt_of_cell? w _ hw145_5)).trans hw145_5), ((HB.out.cell (World.block_lt_of_cell? w _ hw145_6)).trans hw145_6), ((HB.out.cell (World.block_lt_of_cell? w _ hw145_7)).trans hw145_7), ((HB.out.cell (World.block_lt_of_cell? w _ hw145_8)).trans hw145_8)⟩ (fun hHeld => ?_)
            clear hK K
            refine norm_ (a' := ?_) ?_ ?_
            rotate_left
            ·show Act.put _ (some 36) _ = _
             simp only [Act.put, List.setIfInBounds_toArray, List.set_cons_zero, List.set_cons_succ, i64_w, i32_w]
             rfl
            refine pz 7 37 #[Y,Y,Y,Y,Y,Y,Y,Y] HT_ ?_
            refine done_ (done_of HT_.out (by kernel_rfl)) ?_
            have p147 : 0 ≤ (x5_1 : Int) := oda
            have q147 : x5_1 < (l0.length : Int) := oda
            obtain ⟨ad147, A147_7, c147_7, e147, hx147_0, hx147_1, hx147_2, hx147_3, hx147_4, hx147_5, hx147_6, hx147_7, hx147_8, hl147_7, hi147_7⟩ := at_T31 HR0.out x5_1 p147 q147
            have hy147_7 := hx147_7
            obtain rfl : ad143 = ad147 := (by injection e147)
            have ea_ := Option.some.inj (hy147_7.symm.trans hy145_7)
            injection ea_ with ea_ en_ ec_
            subst ea_
            subst ec_
            clear en_
            replace hx147_0 := hbc HB.out hx147_0
            replace hx147_1 := hbc HB.out hx147_1
            replace hx147_2 := hbc HB.out hx147_2
            replace hx147_3 := hbc HB.out hx147_3
            replace hx147_4 := hbc HB.out hx147_4
            replace hx147_5 := hbc HB.out hx147_5
            replace hx147_6 := hbc HB.out hx147_6
            replace hx147_7 := hbc HB.out hx147_7
            replace hx147_8 := hbc HB.out hx147_8
            have HR147_7 := Aside0.mk hi147_7
            have HC147_7 := Aside0.mk hl147_7
            clear hi147_7 hl147_7
            replace p147 := eq_true p147
            replace q147 := eq_true q147
            have p148 : 0 ≤ (x5_1 : Int) := oda
            have q148 : x5_1 < (l0.length : Int) := oda
            obtain ⟨ad148, A148_7, c148_7, e148, hx148_0, hx148_1, hx148_2, hx148_3, hx148_4, hx148_5, hx148_6, hx148_7, hx148_8, hl148_7, hi148_7⟩ := at_T31 HR0.out x5_1 p148 q148
            have hy148_7 := hx148_7
            obtain rfl : ad143 = ad148 := (by injection e148)
            replace hx148_0 := hbc HB.out hx148_0
            replace hx148_1 := hbc HB.out hx148_1
            replace hx148_2 := hbc HB.out hx148_2
            replace hx148_3 := hbc HB.out hx148_3
            replace hx148_4 := hbc HB.out hx148_4
            replace hx148_5 := hbc HB.out hx148_5
            replace hx148_6 := hbc HB.out hx148_6
            replace hx148_7 := hbc HB.out hx148_7
            replace hx148_8 := hbc HB.out hx148_8
            have HR148_7 := Aside0.mk hi148_7
            have HC148_7 := Aside0.mk hl148_7
            clear hi148_7 hl148_7
            replace p148 := eq_true p148
            replace q148 := eq_true q148
            have ea_ := Option.some.inj (hx147_7.symm.trans hx148_7)
            injection ea_ with ea_ en_ ec_
            subst ea_
            subst ec_
            clear en_
            have p149 : 0 ≤ (x5_1 : Int) := oda
            have q149 : x5_1 < (l0.length : Int) := oda
            obtain ⟨ad149, A149_7, c149_7, e149, hx149_0, hx149_1, hx149_2, hx149_3, hx149_4, hx149_5, hx149_6, hx149_7, hx149_8, hl149_7, hi149_7⟩ := at_T31 HR0.out x5_1 p149 q149
            have hy149_7 := hx149_7
            obtain rfl : ad143 = ad149 := (by injection e149)
            replace hx149_0 := hbc HB.out hx149_0
            replace hx149_1 := hbc HB.out hx149_1
            replace hx149_2 := hbc HB.out hx149_2
            replace hx149_3 := hbc HB.out hx149_3
            replace hx149_4 := hbc HB.out hx149_4
            replace hx149_5 := hbc HB.out hx149_5
            replace hx149_6 := hbc HB.out hx149_6
            replace hx149_7 := hbc HB.out hx149_7
            replace hx149_8 := hbc HB.out hx149_8
            have HR149_7 := Aside0.mk hi149_7
            have HC149_7 := Aside0.mk hl149_7
            clear hi149_7 hl149_7
            replace p149 := eq_true p149
            replace q149 := eq_true q149
            have ea_ := Option.some.inj (hx147_7.symm.trans hx149_7)
            injection ea_ with ea_ en_ ec_
            subst ea_
            subst ec_
            clear en_
            try go_wp2
            go_ret
            exact ⟨erq, pl0 HB.out⟩
          ·rw [if_neg c12] at H
           have c12b0 : (((rd_T31 l0 x5_1).f4) == (wrap64 ((wrap64 ((wrap64 ((wrap64 (x1_1 + 1)) + 1)) + 1)) + 1))) = false := beq_eq_false_iff_ne.mpr c12
           have c12b1 : (((rd_T31 l0 x5_1).f4) != (wrap64 ((wrap64 ((wrap64 ((wrap64 (x1_1 + 1)) + 1)) + 1)) + 1))) = true := bne_iff_ne.mpr c12
           obtain rfl := Option.some.inj H
           have p143 : 0 ≤ (x5_1 : Int) := oda
           have q143 : x5_1 < (l0.length : Int) := oda
           obtain ⟨ad143, A143_7, c143_7, e143, hx143_0, hx143_1, hx143_2, hx143_3, hx143_4, hx143_5, hx143_6, hx143_7, hx143_8, hl143_7, hi143_7⟩ := at_T31 HR0.out x5_1 p143 q143
           have hy143_7 := hx143_7
           cases e143
           replace hx143_0 := hbc HB.out hx143_0
           replace hx143_1 := hbc HB.out hx143_1
           replace hx143_2 := hbc HB.out hx143_2
           replace hx143_3 := hbc HB.out hx143_3
           replace hx143_4 := hbc HB.out hx143_4
           replace hx143_5 := hbc HB.out hx143_5
           replace hx143_6 := hbc HB.out hx143_6
           replace hx143_7 := hbc HB.out hx143_7
           replace hx143_8 := hbc HB.out hx143_8
           have HR143_7 := Aside0.mk hi143_7
           have HC143_7 := Aside0.mk hl143_7
           clear hi143_7 hl143_7
           replace p143 := eq_true p143
           replace q143 := eq_true q143
           have p144 : 0 ≤ (x5_1 : Int) := oda
           have q144 : x5_1 < (l0.length : Int) := oda
           obtain ⟨ad144, A144_7, c144_7, e144, hx144_0, hx144_1, hx144_2, hx144_3, hx144_4, hx144_5, hx144_6, hx144_7, hx144_8, hl144_7, hi144_7⟩ := at_T31 HR0.out x5_1 p144 q144
           have hy144_7 := hx144_7
           obtain rfl : ad143 = ad144 := (by injection e144)
           replace hx144_0 := hbc HB.out hx144_0
           replace hx144_1 := hbc HB.out hx144_1
           replace hx144_2 := hbc HB.out hx144_2
           replace hx144_3 := hbc HB.out hx144_3
           replace hx144_4 := hbc HB.out hx144_4
           replace hx144_5 := hbc HB.out hx144_5
           replace hx144_6 := hbc HB.out hx144_6
           replace hx144_7 := hbc HB.out hx144_7
           replace hx144_8 := hbc HB.out hx144_8
           have HR144_7 := Aside0.mk hi144_7
           have HC144_7 := Aside0.mk hl144_7
           clear hi144_7 hl144_7
           replace p144 := eq_true p144
           replace q144 := eq_true q144
           have ea_ := Option.some.inj (hx143_7.symm.trans hx144_7)
           injection ea_ with ea_ en_ ec_
           subst ea_
           subst ec_
           clear en_
           try go_wp2
           have n0_ := Aside0.mk (below_drew1 HB.out)
           clear HB
           have HB := n0_
           clear n0_
           have p145 : 0 ≤ (x5_1 : Int) := oda
           have q145 : x5_1 < (l0.length : Int) := oda
           obtain ⟨ad145, A145_7, c145_7, e145, hx145_0, hx145_1, hx145_2, hx145_3, hx145_4, hx145_5, hx145_6, hx145_7, hx145_8, hl145_7, hi145_7⟩ := at_T31 HR0.out x5_1 p145 q145
           have hy145_7 := hx145_7
           have hw145_8 := hx145_8
           have hw145_7 := hx145_7
           have hw145_6 := hx145_6
           have hw145_5 := hx145_5
           have hw145_4 := hx145_4
           have hw145_3 := hx145_3
           have hw145_2 := hx145_2
           have hw145_1 := hx145_1
           have hw145_0 := hx145_0
           obtain rfl : ad143 = ad145 := (by injection e145)
           replace hx145_0 := hbc HB.out hx145_0
           replace hx145_1 := hbc HB.out hx145_1
           replace hx145_2 := hbc HB.out hx145_2
           replace hx145_3 := hbc HB.out hx145_3
           replace hx145_4 := hbc HB.out hx145_4
           replace hx145_5 := hbc HB.out hx145_5
           replace hx145_6 := hbc HB.out hx145_6
           replace hx145_7 := hbc HB.out hx145_7
           replace hx145_8 := hbc HB.out hx145_8
           have HR145_7 := Aside0.mk hi145_7
           have HC145_7 := Aside0.mk hl145_7
           clear hi145_7 hl145_7
           replace p145 := eq_true p145
           replace q145 := eq_true q145
           refine start_ (n := 8) (S := fun w' => w'.cell? (ad143.add ((x5_1).toNat * 9)) = some (.int .i64 ((rd_T31 l0 x5_1).f0)) ∧ w'.cell? ⟨(ad143.add ((x5_1).toNat * 9)).block, (ad143.add ((x5_1).toNat * 9)).off + 1, none⟩ = some (.int .i64 ((rd_T31 l0 x5_1).f1)) ∧ w'.cell? ⟨(ad143.add ((x5_1).toNat * 9)).block, (ad143.add ((x5_1).toNat * 9)).off + 2, none⟩ = some (.string ((rd_T31 l0 x5_1).f2)) ∧ w'.cell? ⟨(ad143.add ((x5_1).toNat * 9)).block, (ad143.add ((x5_1).toNat * 9)).off + 3, none⟩ = some (.bool ((rd_T31 l0 x5_1).f3)) ∧ w'.cell? ⟨(ad143.add ((x5_1).toNat * 9)).block, (ad143.add ((x5_1).toNat * 9)).off + 4, none⟩ = some (.int .i64 ((rd_T31 l0 x5_1).f4)) ∧ w'.cell? ⟨(ad143.add ((x5_1).toNat * 9)).block, (ad143.add ((x5_1).toNat * 9)).off + 5, none⟩ = some (.int .i64 ((rd_T31 l0 x5_1).f5)) ∧ w'.cell? ⟨(ad143.add ((x5_1).toNat * 9)).block, (ad143.add ((x5_1).toNat * 9)).off + 6, none⟩ = some (.int .i64 ((rd_T31 l0 x5_1).f6)) ∧ w'.cell? ⟨(ad143.add ((x5_1).toNat * 9)).block, (ad143.add ((x5_1).toNat * 9)).off + 7, none⟩ = some (.slice A145_7 ((rd_T31 l0 x5_1).f7).length c145_7) ∧ w'.cell? ⟨(ad143.add ((x5_1).toNat * 9)).block, (ad143.add ((x5_1).toNat * 9)).off + 8, none⟩ = some (.int .i64 ((rd_T31 l0 x5_1).f8))) (ds := []) #[O,O,O,O,O,O,O,O] (by kernel_rfl) rfl rfl ⟨((HB.out.cell (World.block_lt_of_cell? w _ hw145_0)).trans hw145_0), ((HB.out.cell (World.block_lt_of_cell? w _ hw145_1)).trans hw145_1), ((HB.out.cell (World.block_lt_of_cell? w _ hw145_2)).trans hw145_2), ((HB.out.cell (World.block_lt_of_cell? w _ hw145_3)).trans hw145_3), ((HB.out.cell (World.block_lt_of_cell? w _ hw145_4)).trans hw145_4), ((HB.out.cell (World.block_lt_of_cell? w _ hw145_5)).trans hw145_5), ((HB.out.cell (World.block_lt_of_cell? w _ hw145_6)).trans hw145_6), ((HB.out.cell (World.block_lt_of_cell? w _ hw145_7)).trans hw145_7), ((HB.out.cell (World.block_lt_of_cell? w _ hw145_8)).trans hw145_8)⟩ (fun hHeld => ?_); refine with_tabW laws_heldInodeS.tab10 laws_heldInodeS.bits10 (fun HT_ HW_ => ?_)
           generalize wr.drew = w28 at HB HR145_7 hx145_0 hx145_1 hx145_2 hx145_3 hx145_4 hx145_5 hx145_6 hx145_7 hx145_8 hHeld ⊢
           refine pz 0 30 #[Y,O,O,O,O,O,O,O] HT_ ?_
           refine pz 1 31 #[Y,Y,O,O,O,O,O,O] HT_ ?_
           refine pz 2 32 #[Y,Y,Y,O,O,O,O,O] HT_ ?_
           refine pz 3 33 #[Y,Y,Y,Y,O,O,O,O] HT_ ?_
           refine pure_ (i := 5) (N := some 35) (v := ?_) (a' := ?_) #[Y,Y,Y,Y,O,Y,O,O] rfl rfl (any_of HT_.out (by kernel_rfl)) (fun _ _ _ h => h) (Or.inl ⟨by rfl, ?_⟩) ?_ ?_
           rotate_left
           ·intro w'
            go_simp
            with_reducible rfl
           rotate_left
           ·simp only [Act.put, List.setIfInBounds_toArray, List.set_cons_zero, List.set_cons_succ, i64_w, i32_w]
            rfl
           refine take_ (i := 4) (N := some 34) (v := ?_) (a' := ?_) #[Y,Y,Y,Y,Y,Y,O,O] rfl rfl (take_ofW HT_.out HW_.out (by kernel_rfl)) (fun _ _ _ h => h) (Or.inl ⟨by rfl, ?_⟩) hHeld ?_ ?_
           rotate_left
           ·rintro w' ⟨s0, s1, s2, s3, s4, s5, s6, s7, s8⟩
            go_simp
            with_reducible rfl
           rotate_left
           ·simp only [Act.put, List.setIfInBounds_toArray, List.set_cons_zero, List.set_cons_succ, i64_w, i32_w]
            rfl
           refine one_ (i := 6) (N := some 36) #[Y,Y,Y,Y,Y,Y,Y,O] rfl rfl (one_of HT_.out (by kernel_rfl)) (by decide) (fun K hK => ?_)
           refine goes_ Try.func13 (by kernel_rfl) rfl #[.int .i64 (wrap64 ((wrap64 (x1_1 + 1)) + 1))] (by rfl) rfl rfl (by (try simp only [List.map_toArray, List.map_cons, List.map_nil]); first | done | rfl | (simp only [List.length_drop, List.length_take]; rfl)) ?_
           with_reducible refine (laws_markText.calls k1 (wrap64 ((wrap64 (x1_1 + 1)) + 1)) t146 _ A7.out).mono ?_
           rintro e w29 ⟨rfl, hb⟩
           refine ⟨_, rfl, ?_⟩
           have n0_ := Aside0.mk (below_step (pl0 HB.out) hb)
           clear HB
           have HB := n0_
           clear n0_
           (try clear hb)
           (try clear hb2)
           (try clear hk)
           (try clear hi)
           refine hK.out _ _ ⟨((HB.out.cell (World.block_lt_of_cell? w _ hw145_0)).trans hw145_0), ((HB.out.cell (World.block_lt_of_cell? w _ hw145_1)).trans hw145_1), ((HB.out.cell (World.block_lt_of_cell? w _ hw145_2)).trans hw145_2), ((HB.out.cell (World.block_lt_of_cell? w _ hw145_3)).trans hw145_3), ((HB.out.cell (World.block_lt_of_cell? w _ hw145_4)).trans hw145_4), ((HB.out.cell (World.block_lt_of_cell? w _ hw145_5)).trans hw145_5), ((HB.out.cell (World.block_lt_of_cell? w _ hw145_6)).trans hw145_6), ((HB.out.cell (World.block_lt_of_cell? w _ hw145_7)).trans hw145_7), ((HB.out.cell (World.block_lt_of_cell? w _ hw145_8)).trans hw145_8)⟩ (fun hHeld => ?_)
           clear hK K
           refine norm_ (a' := ?_) ?_ ?_
           rotate_left
           ·show Act.put _ (some 36) _ = _
            simp only [Act.put, List.setIfInBounds_toArray, List.set_cons_zero, List.set_cons_succ, i64_w, i32_w]
            rfl
           refine pz 7 37 #[Y,Y,Y,Y,Y,Y,Y,Y] HT_ ?_
           refine done_ (done_of HT_.out (by kernel_rfl)) ?_
           have p147 : 0 ≤ (x5_1 : Int) := oda
           have q147 : x5_1 < (l0.length : Int) := oda
           obtain ⟨ad147, A147_7, c147_7, e147, hx147_0, hx147_1, hx147_2, hx147_3, hx147_4, hx147_5, hx147_6, hx147_7, hx147_8, hl147_7, hi147_7⟩ := at_T31 HR0.out x5_1 p147 q147
           have hy147_7 := hx147_7
           obtain rfl : ad143 = ad147 := (by injection e147)
           have ea_ := Option.some.inj (hy147_7.symm.trans hy145_7)
           injection ea_ with ea_ en_ ec_
           subst ea_
           subst ec_
           clear en_
           replace hx147_0 := hbc HB.out hx147_0
           replace hx147_1 := hbc HB.out hx147_1
           replace hx147_2 := hbc HB.out hx147_2
           replace hx147_3 := hbc HB.out hx147_3
           replace hx147_4 := hbc HB.out hx147_4
           replace hx147_5 := hbc HB.out hx147_5
           replace hx147_6 := hbc HB.out hx147_6
           replace hx147_7 := hbc HB.out hx147_7
           replace hx147_8 := hbc HB.out hx147_8
           have HR147_7 := Aside0.mk hi147_7
           have HC147_7 := Aside0.mk hl147_7
           clear hi147_7 hl147_7
           replace p147 := eq_true p147
           replace q147 := eq_true q147
           have p148 : 0 ≤ (x5_1 : Int) := oda
           have q148 : x5_1 < (l0.length : Int) := oda
           obtain ⟨ad148, A148_7, c148_7, e148, hx148_0, hx148_1, hx148_2, hx148_3, hx148_4, hx148_5, hx148_6, hx148_7, hx148_8, hl148_7, hi148_7⟩ := at_T31 HR0.out x5_1 p148 q148
           have hy148_7 := hx148_7
           obtain rfl : ad143 = ad148 := (by injection e148)
           replace hx148_0 := hbc HB.out hx148_0
           replace hx148_1 := hbc HB.out hx148_1
           replace hx148_2 := hbc HB.out hx148_2
           replace hx148_3 := hbc HB.out hx148_3
           replace hx148_4 := hbc HB.out hx148_4
           replace hx148_5 := hbc HB.out hx148_5
           replace hx148_6 := hbc HB.out hx148_6
           replace hx148_7 := hbc HB.out hx148_7
           replace hx148_8 := hbc HB.out hx148_8
           have HR148_7 := Aside0.mk hi148_7
           have HC148_7 := Aside0.mk hl148_7
           clear hi148_7 hl148_7
           replace p148 := eq_true p148
           replace q148 := eq_true q148
           have ea_ := Option.some.inj (hx147_7.symm.trans hx148_7)
           injection ea_ with ea_ en_ ec_
           subst ea_
           subst ec_
           clear en_
           try go_wp2
           go_ret
           exact ⟨erq, pl0 HB.out⟩
        ·rw [if_neg c8] at H
         have c8b0 : (((rd_T31 l0 x5_1).f2).toList == t146.toList) = false := beq_eq_false_iff_ne.mpr c8
         have c8b1 : (((rd_T31 l0 x5_1).f2).toList != t146.toList) = true := bne_iff_ne.mpr c8
         obtain rfl := Option.some.inj H
         have p143 : 0 ≤ (x5_1 : Int) := oda
         have q143 : x5_1 < (l0.length : Int) := oda
         obtain ⟨ad143, A143_7, c143_7, e143, hx143_0, hx143_1, hx143_2, hx143_3, hx143_4, hx143_5, hx143_6, hx143_7, hx143_8, hl143_7, hi143_7⟩ := at_T31 HR0.out x5_1 p143 q143
         have hy143_7 := hx143_7
         cases e143
         replace hx143_0 := hbc HB.out hx143_0
         replace hx143_1 := hbc HB.out hx143_1
         replace hx143_2 := hbc HB.out hx143_2
         replace hx143_3 := hbc HB.out hx143_3
         replace hx143_4 := hbc HB.out hx143_4
         replace hx143_5 := hbc HB.out hx143_5
         replace hx143_6 := hbc HB.out hx143_6
         replace hx143_7 := hbc HB.out hx143_7
         replace hx143_8 := hbc HB.out hx143_8
         have HR143_7 := Aside0.mk hi143_7
         have HC143_7 := Aside0.mk hl143_7
         clear hi143_7 hl143_7
         replace p143 := eq_true p143
         replace q143 := eq_true q143
         have p144 : 0 ≤ (x5_1 : Int) := oda
         have q144 : x5_1 < (l0.length : Int) := oda
         obtain ⟨ad144, A144_7, c144_7, e144, hx144_0, hx144_1, hx144_2, hx144_3, hx144_4, hx144_5, hx144_6, hx144_7, hx144_8, hl144_7, hi144_7⟩ := at_T31 HR0.out x5_1 p144 q144
         have hy144_7 := hx144_7
         obtain rfl : ad143 = ad144 := (by injection e144)
         replace hx144_0 := hbc HB.out hx144_0
         replace hx144_1 := hbc HB.out hx144_1
         replace hx144_2 := hbc HB.out hx144_2
         replace hx144_3 := hbc HB.out hx144_3
         replace hx144_4 := hbc HB.out hx144_4
         replace hx144_5 := hbc HB.out hx144_5
         replace hx144_6 := hbc HB.out hx144_6
         replace hx144_7 := hbc HB.out hx144_7
         replace hx144_8 := hbc HB.out hx144_8
         have HR144_7 := Aside0.mk hi144_7
         have HC144_7 := Aside0.mk hl144_7
         clear hi144_7 hl144_7
         replace p144 := eq_true p144
         replace q144 := eq_true q144
         have ea_ := Option.some.inj (hx143_7.symm.trans hx144_7)
         injection ea_ with ea_ en_ ec_
         subst ea_
         subst ec_
         clear en_
         try go_wp2
         have n0_ := Aside0.mk (below_drew1 HB.out)
         clear HB
         have HB := n0_
         clear n0_
         have p145 : 0 ≤ (x5_1 : Int) := oda
         have q145 : x5_1 < (l0.length : Int) := oda
         obtain ⟨ad145, A145_7, c145_7, e145, hx145_0, hx145_1, hx145_2, hx145_3, hx145_4, hx145_5, hx145_6, hx145_7, hx145_8, hl145_7, hi145_7⟩ := at_T31 HR0.out x5_1 p145 q145
         have hy145_7 := hx145_7
         have hw145_8 := hx145_8
         have hw145_7 := hx145_7
         have hw145_6 := hx145_6
         have hw145_5 := hx145_5
         have hw145_4 := hx145_4
         have hw145_3 := hx145_3
         have hw145_2 := hx145_2
         have hw145_1 := hx145_1
         have hw145_0 := hx145_0
         obtain rfl : ad143 = ad145 := (by injection e145)
         replace hx145_0 := hbc HB.out hx145_0
         replace hx145_1 := hbc HB.out hx145_1
         replace hx145_2 := hbc HB.out hx145_2
         replace hx145_3 := hbc HB.out hx145_3
         replace hx145_4 := hbc HB.out hx145_4
         replace hx145_5 := hbc HB.out hx145_5
         replace hx145_6 := hbc HB.out hx145_6
         replace hx145_7 := hbc HB.out hx145_7
         replace hx145_8 := hbc HB.out hx145_8
         have HR145_7 := Aside0.mk hi145_7
         have HC145_7 := Aside0.mk hl145_7
         clear hi145_7 hl145_7
         replace p145 := eq_true p145
         replace q145 := eq_true q145
         refine start_ (n := 8) (S := fun w' => w'.cell? (ad143.add ((x5_1).toNat * 9)) = some (.int .i64 ((rd_T31 l0 x5_1).f0)) ∧ w'.cell? ⟨(ad143.add ((x5_1).toNat * 9)).block, (ad143.add ((x5_1).toNat * 9)).off + 1, none⟩ = some (.int .i64 ((rd_T31 l0 x5_1).f1)) ∧ w'.cell? ⟨(ad143.add ((x5_1).toNat * 9)).block, (ad143.add ((x5_1).toNat * 9)).off + 2, none⟩ = some (.string ((rd_T31 l0 x5_1).f2)) ∧ w'.cell? ⟨(ad143.add ((x5_1).toNat * 9)).block, (ad143.add ((x5_1).toNat * 9)).off + 3, none⟩ = some (.bool ((rd_T31 l0 x5_1).f3)) ∧ w'.cell? ⟨(ad143.add ((x5_1).toNat * 9)).block, (ad143.add ((x5_1).toNat * 9)).off + 4, none⟩ = some (.int .i64 ((rd_T31 l0 x5_1).f4)) ∧ w'.cell? ⟨(ad143.add ((x5_1).toNat * 9)).block, (ad143.add ((x5_1).toNat * 9)).off + 5, none⟩ = some (.int .i64 ((rd_T31 l0 x5_1).f5)) ∧ w'.cell? ⟨(ad143.add ((x5_1).toNat * 9)).block, (ad143.add ((x5_1).toNat * 9)).off + 6, none⟩ = some (.int .i64 ((rd_T31 l0 x5_1).f6)) ∧ w'.cell? ⟨(ad143.add ((x5_1).toNat * 9)).block, (ad143.add ((x5_1).toNat * 9)).off + 7, none⟩ = some (.slice A145_7 ((rd_T31 l0 x5_1).f7).length c145_7) ∧ w'.cell? ⟨(ad143.add ((x5_1).toNat * 9)).block, (ad143.add ((x5_1).toNat * 9)).off + 8, none⟩ = some (.int .i64 ((rd_T31 l0 x5_1).f8))) (ds := []) #[O,O,O,O,O,O,O,O] (by kernel_rfl) rfl rfl ⟨((HB.out.cell (World.block_lt_of_cell? w _ hw145_0)).trans hw145_0), ((HB.out.cell (World.block_lt_of_cell? w _ hw145_1)).trans hw145_1), ((HB.out.cell (World.block_lt_of_cell? w _ hw145_2)).trans hw145_2), ((HB.out.cell (World.block_lt_of_cell? w _ hw145_3)).trans hw145_3), ((HB.out.cell (World.block_lt_of_cell? w _ hw145_4)).trans hw145_4), ((HB.out.cell (World.block_lt_of_cell? w _ hw145_5)).trans hw145_5), ((HB.out.cell (World.block_lt_of_cell? w _ hw145_6)).trans hw145_6), ((HB.out.cell (World.block_lt_of_cell? w _ hw145_7)).trans hw145_7), ((HB.out.cell (World.block_lt_of_cell? w _ hw145_8)).trans hw145_8)⟩ (fun hHeld => ?_); refine with_tabW laws_heldInodeS.tab10 laws_heldInodeS.bits10 (fun HT_ HW_ => ?_)
         generalize wr.drew = w30 at HB HR145_7 hx145_0 hx145_1 hx145_2 hx145_3 hx145_4 hx145_5 hx145_6 hx145_7 hx145_8 hHeld ⊢
         refine pz 0 30 #[Y,O,O,O,O,O,O,O] HT_ ?_
         refine pz 1 31 #[Y,Y,O,O,O,O,O,O] HT_ ?_
         refine pz 2 32 #[Y,Y,Y,O,O,O,O,O] HT_ ?_
         refine pz 3 33 #[Y,Y,Y,Y,O,O,O,O] HT_ ?_
         refine pure_ (i := 5) (N := some 35) (v := ?_) (a' := ?_) #[Y,Y,Y,Y,O,Y,O,O] rfl rfl (any_of HT_.out (by kernel_rfl)) (fun _ _ _ h => h) (Or.inl ⟨by rfl, ?_⟩) ?_ ?_
         rotate_left
         ·intro w'
          go_simp
          with_reducible rfl
         rotate_left
         ·simp only [Act.put, List.setIfInBounds_toArray, List.set_cons_zero, List.set_cons_succ, i64_w, i32_w]
          rfl
         refine take_ (i := 4) (N := some 34) (v := ?_) (a' := ?_) #[Y,Y,Y,Y,Y,Y,O,O] rfl rfl (take_ofW HT_.out HW_.out (by kernel_rfl)) (fun _ _ _ h => h) (Or.inl ⟨by rfl, ?_⟩) hHeld ?_ ?_
         rotate_left
         ·rintro w' ⟨s0, s1, s2, s3, s4, s5, s6, s7, s8⟩
          go_simp
          with_reducible rfl
         rotate_left
         ·simp only [Act.put, List.setIfInBounds_toArray, List.set_cons_zero, List.set_cons_succ, i64_w, i32_w]
          rfl
         refine one_ (i := 6) (N := some 36) #[Y,Y,Y,Y,Y,Y,Y,O] rfl rfl (one_of HT_.out (by kernel_rfl)) (by decide) (fun K hK => ?_)
         refine goes_ Try.func13 (by kernel_rfl) rfl #[.int .i64 (wrap64 ((wrap64 (x1_1 + 1)) + 1))] (by rfl) rfl rfl (by (try simp only [List.map_toArray, List.map_cons, List.map_nil]); first | done | rfl | (simp only [List.length_drop, List.length_take]; rfl)) ?_
         with_reducible refine (laws_markText.calls k1 (wrap64 ((wrap64 (x1_1 + 1)) + 1)) t146 _ A7.out).mono ?_
         rintro e w31 ⟨rfl, hb⟩
         refine ⟨_, rfl, ?_⟩
         have n0_ := Aside0.mk (below_step (pl0 HB.out) hb)
         clear HB
         have HB := n0_
         clear n0_
         (try clear hb)
         (try clear hb2)
         (try clear hk)
         (try clear hi)
         refine hK.out _ _ ⟨((HB.out.cell (World.block_lt_of_cell? w _ hw145_0)).trans hw145_0), ((HB.out.cell (World.block_lt_of_cell? w _ hw145_1)).trans hw145_1), ((HB.out.cell (World.block_lt_of_cell? w _ hw145_2)).trans hw145_2), ((HB.out.cell (World.block_lt_of_cell? w _ hw145_3)).trans hw145_3), ((HB.out.cell (World.block_lt_of_cell? w _ hw145_4)).trans hw145_4), ((HB.out.cell (World.block_lt_of_cell? w _ hw145_5)).trans hw145_5), ((HB.out.cell (World.block_lt_of_cell? w _ hw145_6)).trans hw145_6), ((HB.out.cell (World.block_lt_of_cell? w _ hw145_7)).trans hw145_7), ((HB.out.cell (World.block_lt_of_cell? w _ hw145_8)).trans hw145_8)⟩ (fun hHeld => ?_)
         clear hK K
         refine norm_ (a' := ?_) ?_ ?_
         rotate_left
         ·show Act.put _ (some 36) _ = _
          simp only [Act.put, List.setIfInBounds_toArray, List.set_cons_zero, List.set_cons_succ, i64_w, i32_w]
          rfl
         refine pz 7 37 #[Y,Y,Y,Y,Y,Y,Y,Y] HT_ ?_
         refine done_ (done_of HT_.out (by kernel_rfl)) ?_
         try go_wp2
         go_ret
         exact ⟨erq, pl0 HB.out⟩
       ·rw [if_neg c6] at H
        have c6b0 : (((rd_T31 l0 x5_1).f1) == (wrap64 (x1_1 + 1))) = false := beq_eq_false_iff_ne.mpr c6
        have c6b1 : (((rd_T31 l0 x5_1).f1) != (wrap64 (x1_1 + 1))) = true := bne_iff_ne.mpr c6
        obtain rfl := Option.some.inj H
        have p143 : 0 ≤ (x5_1 : Int) := oda
        have q143 : x5_1 < (l0.length : Int) := oda
        obtain ⟨ad143, A143_7, c143_7, e143, hx143_0, hx143_1, hx143_2, hx143_3, hx143_4, hx143_5, hx143_6, hx143_7, hx143_8, hl143_7, hi143_7⟩ := at_T31 HR0.out x5_1 p143 q143
        have hy143_7 := hx143_7
        cases e143
        replace hx143_0 := hbc HB.out hx143_0
        replace hx143_1 := hbc HB.out hx143_1
        replace hx143_2 := hbc HB.out hx143_2
        replace hx143_3 := hbc HB.out hx143_3
        replace hx143_4 := hbc HB.out hx143_4
        replace hx143_5 := hbc HB.out hx143_5
        replace hx143_6 := hbc HB.out hx143_6
        replace hx143_7 := hbc HB.out hx143_7
        replace hx143_8 := hbc HB.out hx143_8
        have HR143_7 := Aside0.mk hi143_7
        have HC143_7 := Aside0.mk hl143_7
        clear hi143_7 hl143_7
        replace p143 := eq_true p143
        replace q143 := eq_true q143
        have p144 : 0 ≤ (x5_1 : Int) := oda
        have q144 : x5_1 < (l0.length : Int) := oda
        obtain ⟨ad144, A144_7, c144_7, e144, hx144_0, hx144_1, hx144_2, hx144_3, hx144_4, hx144_5, hx144_6, hx144_7, hx144_8, hl144_7, hi144_7⟩ := at_T31 HR0.out x5_1 p144 q144
        have hy144_7 := hx144_7
        obtain rfl : ad143 = ad144 := (by injection e144)
        replace hx144_0 := hbc HB.out hx144_0
        replace hx144_1 := hbc HB.out hx144_1
        replace hx144_2 := hbc HB.out hx144_2
        replace hx144_3 := hbc HB.out hx144_3
        replace hx144_4 := hbc HB.out hx144_4
        replace hx144_5 := hbc HB.out hx144_5
        replace hx144_6 := hbc HB.out hx144_6
        replace hx144_7 := hbc HB.out hx144_7
        replace hx144_8 := hbc HB.out hx144_8
        have HR144_7 := Aside0.mk hi144_7
        have HC144_7 := Aside0.mk hl144_7
        clear hi144_7 hl144_7
        replace p144 := eq_true p144
        replace q144 := eq_true q144
        have ea_ := Option.some.inj (hx143_7.symm.trans hx144_7)
        injection ea_ with ea_ en_ ec_
        subst ea_
        subst ec_
        clear en_
        go_wp2
        go_ret
        exact ⟨erq, pl0 HB.out⟩
      ·rw [if_neg c5] at H
       have c5b0 : (((rd_T31 l0 x5_1).f0) == x1_1) = false := beq_eq_false_iff_ne.mpr c5
       have c5b1 : (((rd_T31 l0 x5_1).f0) != x1_1) = true := bne_iff_ne.mpr c5
       obtain rfl := Option.some.inj H
       have p143 : 0 ≤ (x5_1 : Int) := oda
       have q143 : x5_1 < (l0.length : Int) := oda
       obtain ⟨ad143, A143_7, c143_7, e143, hx143_0, hx143_1, hx143_2, hx143_3, hx143_4, hx143_5, hx143_6, hx143_7, hx143_8, hl143_7, hi143_7⟩ := at_T31 HR0.out x5_1 p143 q143
       have hy143_7 := hx143_7
       cases e143
       replace hx143_0 := hbc HB.out hx143_0
       replace hx143_1 := hbc HB.out hx143_1
       replace hx143_2 := hbc HB.out hx143_2
       replace hx143_3 := hbc HB.out hx143_3
       replace hx143_4 := hbc HB.out hx143_4
       replace hx143_5 := hbc HB.out hx143_5
       replace hx143_6 := hbc HB.out hx143_6
       replace hx143_7 := hbc HB.out hx143_7
       replace hx143_8 := hbc HB.out hx143_8
       have HR143_7 := Aside0.mk hi143_7
       have HC143_7 := Aside0.mk hl143_7
       clear hi143_7 hl143_7
       replace p143 := eq_true p143
       replace q143 := eq_true q143
       go_wp2
       go_ret
       exact ⟨erq, pl0 HB.out⟩
     ·rw [if_neg c4] at H
      exact absurd H (by simp)
    ·rw [if_neg c3] at H
     have c3b0 : decide (x5_1 < (l0.length : Int)) = false := decide_eq_false c3
     clear c3
     obtain rfl := Option.some.inj H
     go_wp2
     go_ret
     exact ⟨erq, pl0 HB.out⟩

/-! ### laws_heldTree: function 8 -/
def laws_heldTree.f (k : Nat) (l0_0 : List (S31)) (a0_1 : Int) (a1 : Int) : Option (Int) := (laws_heldInodeS.f k l0_0 a1).bind fun t155 => (if t155 < 0 then (some (-1)) else (some t155))
theorem laws_heldTree.mono : ∀ a0 a1 a2 k, LeO (laws_heldTree.f k a0 a1 a2) (laws_heldTree.f (k + 1) a0 a1 a2) := by
  intro a0 a1 a2 k
  unfold laws_heldTree.f
  repeat' first
      | (with_reducible exact laws_heldInodeS.mono _ _ _)
      | (with_reducible exact LeO.refl _)
      | (with_reducible exact LeO.none _)
      | (with_reducible refine LeO.ite ?_ ?_)
      | (with_reducible refine LeO.bind ?_ (fun _ => ?_))
      | exact laws_heldInodeS.mono _ _ _
      | exact LeO.none _
      | refine LeO.ite ?_ ?_
      | refine LeO.bind ?_ (fun _ => ?_)
set_option maxHeartbeats 8000000 in
set_option maxRecDepth 100000 in
theorem laws_heldTree.calls (k : Nat) (A0_0 : Option Addr) (c0_0 : Nat) (l0_0 : List (S31)) (a0_1 : Int) (a1 : Int) (r : Int) (w : World) (hr0_0 : Kd.C k31 w A0_0 l0_0.length l0_0) (hc0_0 : l0_0.length ≤ c0_0) (h : laws_heldTree.f k l0_0 a0_1 a1 = some r) :
    Calls Try.prog 8 #[.agg #[.slice A0_0 l0_0.length c0_0, .int .i64 a0_1], .int .i64 a1] w fun e w' => e = .returned (.int .i64 r) ∧ Below w.heap.size w w' := by
  have hu24 := Try.underlying24
  have HR0_0 := Aside0.mk hr0_0
  have HC0_0 := Aside0.mk hc0_0
  clear hr0_0 hc0_0
  have HB := Aside0.mk (Below.refl w.heap.size w)
  have H : ((laws_heldInodeS.f k l0_0 a1).bind fun t155 => (if t155 < 0 then (some (-1)) else (some t155))) = some r := h
  clear h
  replace H := Option.bind_eq_some_iff.mp H
  obtain ⟨t155, A30, H⟩ := H
  replace H : (if t155 < 0 then (some (-1)) else (some t155)) = some r := H
  have A3 := Aside0.mk A30
  clear A30
  by_cases c4 : t155 < 0
  ·rw [if_pos c4] at H
   have c4b0 : decide (t155 < 0) = true := decide_eq_true c4
   clear c4
   obtain rfl := Option.some.inj H
   go_enter Try.func8, Try.ntmps8
   go_wp2_with (first | ((with_reducible refine gate_dst (N := 2) rfl ?_); refine box_event ?hg (N := 2) ?hd (cs := #[.slice A0_0 l0_0.length c0_0, .int .i64 a0_1]) (t := 24) ?hr ?_; (case hd => rfl); (case hg => rfl); (case hr => first | (go_simp; done) | (go_simp; rfl)); intro gb154 hg w5 hbox hb; have n0_ := Aside0.mk (below_step (pl0 HB.out) hb); have n1_ := Aside0.mk (hbox); have n2_ := Aside0.mk ((by rw [hg]; exact (below_size (pl0 HB.out)) : w.heap.size ≤ gb154)); have n3_ := Aside0.mk ((by rw [hg]; exact (below_size (pl0 HB.out)) : w.heap.size ≤ gb154)); clear HB; have HB := n0_; have BK154 := n1_; have GW154 := n2_; have GE154 := n3_; clear n0_ n1_ n2_ n3_; clear hb hbox hg; have hcz6_0 : w5.cell? ⟨gb154, 0, none⟩ = some (.slice A0_0 l0_0.length c0_0) := (blk_cell BK154.out 0).trans rfl; have hcz6_1 : w5.cell? ⟨gb154, 1, none⟩ = some (.int .i64 a0_1) := (blk_cell BK154.out 1).trans rfl; have hfz6_0 := blk_frozen BK154.out 0; have hfz6_1 := blk_frozen BK154.out 1) | ((with_reducible refine gate_callee (f := 11) rfl ?_); refine goesL_ (some 8) rfl rfl Try.func11 (by kernel_rfl) rfl #[.slice A0_0 l0_0.length c0_0, .int .i64 a1] rfl (by (try simp only [List.map_toArray, List.map_cons, List.map_nil]); first | done | rfl | (simp only [List.length_drop, List.length_take]; rfl)) ?_; (with_reducible refine (laws_heldInodeS.calls k _ _ l0_0 a1 t155 _ ?side1 ?side2 A3.out).mono ?_); (case side1 => exact pc (Kd.C_below HR0_0.out HB.out)); (case side2 => exact HC0_0.out); rintro e w7 ⟨rfl, hb⟩; refine ⟨_, rfl, ?_⟩; have n0_ := Aside0.mk (pb BK154.out hb); have n1_ := Aside0.mk (below_step (pl1 HB.out GE154.out) hb); clear BK154; clear HB; have BK154 := n0_; have HB := n1_; clear n0_ n1_; (try clear hb); (try clear hb2); (try clear hk); (try clear hi)))
   go_ret
   exact ⟨erq, pl1 HB.out GE154.out⟩
  ·rw [if_neg c4] at H
   have c4b0 : decide (t155 < 0) = false := decide_eq_false c4
   clear c4
   obtain rfl := Option.some.inj H
   go_enter Try.func8, Try.ntmps8
   go_wp2_with (first | ((with_reducible refine gate_dst (N := 2) rfl ?_); refine box_event ?hg (N := 2) ?hd (cs := #[.slice A0_0 l0_0.length c0_0, .int .i64 a0_1]) (t := 24) ?hr ?_; (case hd => rfl); (case hg => rfl); (case hr => first | (go_simp; done) | (go_simp; rfl)); intro gb154 hg w8 hbox hb; have n0_ := Aside0.mk (below_step (pl0 HB.out) hb); have n1_ := Aside0.mk (hbox); have n2_ := Aside0.mk ((by rw [hg]; exact (below_size (pl0 HB.out)) : w.heap.size ≤ gb154)); have n3_ := Aside0.mk ((by rw [hg]; exact (below_size (pl0 HB.out)) : w.heap.size ≤ gb154)); clear HB; have HB := n0_; have BK154 := n1_; have GW154 := n2_; have GE154 := n3_; clear n0_ n1_ n2_ n3_; clear hb hbox hg; have hcz9_0 : w8.cell? ⟨gb154, 0, none⟩ = some (.slice A0_0 l0_0.length c0_0) := (blk_cell BK154.out 0).trans rfl; have hcz9_1 : w8.cell? ⟨gb154, 1, none⟩ = some (.int .i64 a0_1) := (blk_cell BK154.out 1).trans rfl; have hfz9_0 := blk_frozen BK154.out 0; have hfz9_1 := blk_frozen BK154.out 1) | ((with_reducible refine gate_callee (f := 11) rfl ?_); refine goesL_ (some 8) rfl rfl Try.func11 (by kernel_rfl) rfl #[.slice A0_0 l0_0.length c0_0, .int .i64 a1] rfl (by (try simp only [List.map_toArray, List.map_cons, List.map_nil]); first | done | rfl | (simp only [List.length_drop, List.length_take]; rfl)) ?_; (with_reducible refine (laws_heldInodeS.calls k _ _ l0_0 a1 t155 _ ?side1 ?side2 A3.out).mono ?_); (case side1 => exact pc (Kd.C_below HR0_0.out HB.out)); (case side2 => exact HC0_0.out); rintro e w10 ⟨rfl, hb⟩; refine ⟨_, rfl, ?_⟩; have n0_ := Aside0.mk (pb BK154.out hb); have n1_ := Aside0.mk (below_step (pl1 HB.out GE154.out) hb); clear BK154; clear HB; have BK154 := n0_; have HB := n1_; clear n0_ n1_; (try clear hb); (try clear hb2); (try clear hk); (try clear hi)))
   go_ret
   exact ⟨erq, pl1 HB.out GE154.out⟩

-- NOT PRINTED: function 3 (laws_FnExactTreeNew)

end Go.Proofs.Ytfckmpfanaknpaa.QTN
