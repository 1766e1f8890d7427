/- Walks, as the kit's print writes them, run with stubs of my own and mended: TW. -/
import Derived.Test.YtnhbfbgflgplcaaQTW0
import Derived.Test.YtnhbfbgflgplcaaQTW5
import Derived.Test.YtnhbfbgflgplcaaQTW8
namespace Go.Proofs.Ytnhbfbgflgplcaa.QTW
open Go.Proofs.YtnhbfbgflgplcaaW Go.Proofs.YtnhbfbgflgplcaaW.Zip
open Go.RowKit Go.Proofs.YtnhbfbgflgplcaaW.PrintWords Go.Proofs.YtnhbfbgflgplcaaW.PrintLast Go.Proofs.YtnhbfbgflgplcaaW.PrintMore
attribute [local go_sem] max2_int min2_int max_two min_two max_three min_three max_four min_four   -- for this text's walks alone
set_option linter.unusedVariables false
set_option linter.unusedSimpArgs false

/-! ### spec_UsedBelow: function 18 -/
def spec_UsedBelow.l0 : Nat → List Int → Int → Int → List (S52) → Int → Option (Int)
  | 0, _, _, _, _, _ => none
  | k + 1, x5, x6, x7, x210000, x210001 => if x7 < (x5.length : Int) then (if 0 ≤ x7 then ((spec_l10At.f k x210000 x210001 (rd x5 x7)).bind fun t214 => (if 0 ≤ t214 then (if t214 < (x210000.length : Int) then (spec_UsedBelow.l0 k x5 (wrap64 (x6 + ((rd_T52 x210000 t214).f6))) (wrap64 (x7 + 1)) x210000 x210001) else (none)) else (none))) else (none)) else (some x6)
def spec_UsedBelow.f (k : Nat) (l0_0 : List (S52)) (a0_1 : Int) (a1 : Int) : Option (Int) := (spec_BelowOf.f k l0_0 a0_1 a1).bind fun t210 => (spec_UsedBelow.l0 k t210 0 0 l0_0 a0_1)
theorem spec_UsedBelow.mono_l : ∀ k, (∀ y0 y1 y2 y3 y4, LeO (spec_UsedBelow.l0 k y0 y1 y2 y3 y4) (spec_UsedBelow.l0 (k + 1) y0 y1 y2 y3 y4))
  | 0 => fun _ _ _ _ _ r h => by simp [spec_UsedBelow.l0] at h
  | k + 1 => by
    have ih0 := spec_UsedBelow.mono_l k
    · intro y0 y1 y2 y3 y4
      unfold spec_UsedBelow.l0
      repeat' first
      | (with_reducible exact ih0 _ _ _ _ _)
      | (with_reducible exact spec_BelowOf.mono _ _ _ _)
      | (with_reducible exact spec_l10At.mono _ _ _ _)
      | (with_reducible exact LeO.refl _)
      | (with_reducible exact LeO.none _)
      | (with_reducible refine LeO.ite ?_ ?_)
      | (with_reducible refine LeO.bind ?_ (fun _ => ?_))
      | exact ih0 _ _ _ _ _
      | exact spec_BelowOf.mono _ _ _ _
      | exact spec_l10At.mono _ _ _ _
      | exact LeO.none _
      | refine LeO.ite ?_ ?_
      | refine LeO.bind ?_ (fun _ => ?_)
theorem spec_UsedBelow.mono : ∀ a0 a1 a2 k, LeO (spec_UsedBelow.f k a0 a1 a2) (spec_UsedBelow.f (k + 1) a0 a1 a2) := by
  intro a0 a1 a2 k
  have ih0 := spec_UsedBelow.mono_l k
  unfold spec_UsedBelow.f
  repeat' first
      | (with_reducible exact ih0 _ _ _ _ _)
      | (with_reducible exact spec_BelowOf.mono _ _ _ _)
      | (with_reducible exact spec_l10At.mono _ _ _ _)
      | (with_reducible exact LeO.refl _)
      | (with_reducible exact LeO.none _)
      | (with_reducible refine LeO.ite ?_ ?_)
      | (with_reducible refine LeO.bind ?_ (fun _ => ?_))
      | exact ih0 _ _ _ _ _
      | exact spec_BelowOf.mono _ _ _ _
      | exact spec_l10At.mono _ _ _ _
      | exact LeO.none _
      | refine LeO.ite ?_ ?_
      | refine LeO.bind ?_ (fun _ => ?_)
def spec_UsedBelow.T6 : Bool × List (List Nat × List Nat) := (true, [([], []), ([], []), ([1], [1]), ([], []), ([], []), ([], []), ([4, 5], [4, 5]), ([6], [6]), ([3, 7], [3, 7]), ([2, 8], [2, 8]), ([9], [9]), ([10], [10]), ([0, 11], [0, 11]), ([12, 8, 0, 1, 2, 3, 4, 5, 6, 7, 8, 9, 10, 11, 12], [0, 12])])
def spec_UsedBelow.B6 : List Nat := [0, 0, 2, 0, 0, 0, 48, 112, 248, 510, 1022, 2046, 4095, 8191]
theorem spec_UsedBelow.tab6 : rtab .any (opsOf Try.f18 6) = spec_UsedBelow.T6 := by kernel_rfl
theorem spec_UsedBelow.bits6 : waitsOk spec_UsedBelow.T6.2 spec_UsedBelow.B6 = true := by kernel_rfl
set_option maxHeartbeats 8000000 in
set_option maxRecDepth 100000 in
theorem spec_UsedBelow.calls (k : Nat) (A0_0 : Option Addr) (c0_0 : Nat) (l0_0 : List (S52)) (a0_1 : Int) (a1 : Int) (r : Int) (w : World) (hr0_0 : Kd.C k52 w A0_0 l0_0.length l0_0) (hc0_0 : l0_0.length ≤ c0_0) (h : spec_UsedBelow.f k l0_0 a0_1 a1 = some r) :
    Calls Try.prog 18 #[.agg #[.slice A0_0 l0_0.length c0_0, .int .i64 a0_1], .int .i64 a1] w fun e w' => e = .returned (.int .i64 r) ∧ Below w.heap.size w w' := by
  have hu29 := Try.underlying29
  have HR0_0 := Aside0.mk hr0_0
  have HC0_0 := Aside0.mk hc0_0
  clear hr0_0 hc0_0
  have HB := Aside0.mk (Below.refl w.heap.size w)
  have H : ((spec_BelowOf.f k l0_0 a0_1 a1).bind fun t210 => (spec_UsedBelow.l0 k t210 0 0 l0_0 a0_1)) = some r := h
  clear h
  replace H := Option.bind_eq_some_iff.mp H
  obtain ⟨t210, A30, H⟩ := H
  replace H : (spec_UsedBelow.l0 k t210 0 0 l0_0 a0_1) = some r := H
  have A3 := Aside0.mk A30
  clear A30
  have H' := Aside0.mk H
  clear H
  go_enter Try.func18, Try.ntmps18
  go_wp2_with (first | ((with_reducible refine gate_dst (N := 2) rfl ?_); refine box_event ?hg (N := 2) ?hd (cs := #[.slice A0_0 l0_0.length c0_0, .int .i64 a0_1]) (t := 29) ?hr ?_; (case hd => rfl); (case hg => rfl); (case hr => first | (go_simp; done) | (go_simp; rfl)); intro gb209 hg w4 hbox hb; have n0_ := Aside0.mk (below_step (pl0 HB.out) hb); have n1_ := Aside0.mk (hbox); have n2_ := Aside0.mk ((by rw [hg]; exact (below_size (pl0 HB.out)) : w.heap.size ≤ gb209)); have n3_ := Aside0.mk ((by rw [hg]; exact (below_size (pl0 HB.out)) : w.heap.size ≤ gb209)); clear HB; have HB := n0_; have BK209 := n1_; have GW209 := n2_; have GE209 := n3_; clear n0_ n1_ n2_ n3_; clear hb hbox hg; have hcz5_0 : w4.cell? ⟨gb209, 0, none⟩ = some (.slice A0_0 l0_0.length c0_0) := (blk_cell BK209.out 0).trans rfl; have hcz5_1 : w4.cell? ⟨gb209, 1, none⟩ = some (.int .i64 a0_1) := (blk_cell BK209.out 1).trans rfl; have hfz5_0 := blk_frozen BK209.out 0; have hfz5_1 := blk_frozen BK209.out 1) | ((with_reducible refine gate_callee (f := 24) rfl ?_); refine goesL_ (some 10) rfl rfl Try.func24 (by kernel_rfl) rfl #[.agg #[.slice A0_0 l0_0.length c0_0, .int .i64 a0_1], .int .i64 a1] rfl (by (try simp only [List.map_toArray, List.map_cons, List.map_nil]); first | done | rfl | (simp only [List.length_drop, List.length_take]; rfl)) ?_; (with_reducible refine (spec_BelowOf.calls k _ _ l0_0 a0_1 a1 t210 _ ?side1 ?side2 A3.out).mono ?_); (case side1 => exact pc (Kd.C_below HR0_0.out HB.out)); (case side2 => exact HC0_0.out); rintro e w6 ⟨v211, rfl, ho0, hb⟩; refine ⟨_, rfl, ?_⟩; have n0_ := Aside0.mk (Kd.R_lower ho0 (below_size (pl1 HB.out GE209.out))); have n1_ := Aside0.mk (pb BK209.out hb); have n2_ := Aside0.mk (below_step (pl1 HB.out GE209.out) hb); clear BK209; clear HB; have HO212 := n0_; have BK209 := n1_; have HB := n2_; clear n0_ n1_ n2_; (try clear hb); (try clear hb2); (try clear hk); (try clear hi); (try clear ho0)))
  go_loopg [6, 7] k (fun kq v6 v7 w' => ∃ (x6_1 : Int) (x7_1 : Int), v6 = .int .i64 x6_1 ∧ v7 = .int .i64 x7_1 ∧ Aside0 (spec_UsedBelow.l0 kq t210 x6_1 x7_1 l0_0 a0_1 = some r) ∧ Aside0 (kq ≤ k) ∧ Aside0 (Kd.R (Kd.int .i64) 3 w' w.heap.size (fun _ => True) v211 t210) ∧ Aside0 (w'.heap[gb209]? = some (.cells #[(.slice A0_0 l0_0.length c0_0), .int .i64 a0_1] 29 (0, 0))) ∧ Aside0 (Below w.heap.size w w'))
  case atStart => exact ⟨(0), (0), eqa, eqa, H', ⟨Nat.le_refl _⟩, ⟨by (with_reducible repeat (first | apply Kd.R_alloc | apply Kd.R_drewN | apply Kd.R_drew)); exact HO212.out⟩, ⟨pk BK209.out⟩, ⟨pl1 HB.out GE209.out⟩⟩
  case round =>
   clear H'
   try clear hcz5_0; try clear hcz5_1; try clear hfz5_0; try clear hfz5_1
   obtain ⟨x6_1, x7_1, rfl, rfl, HA, HK1, HO_5, BK209, HB⟩ := hrel
   cases gk with
   | zero => exact absurd HA.out (by simp [spec_UsedBelow.l0])
   | succ k1 =>
    have H := HA.out
    clear HA
    simp only [spec_UsedBelow.l0] at H
    by_cases c7 : x7_1 < (t210.length : Int)
    ·rw [if_pos c7] at H
     have c7b0 : decide (x7_1 < (t210.length : Int)) = true := decide_eq_true c7
     clear c7
     by_cases c8 : 0 ≤ x7_1
     ·rw [if_pos c8] at H
      have c8b0 : decide (0 ≤ x7_1) = true := decide_eq_true c8
      clear c8
      replace H := Option.bind_eq_some_iff.mp H
      obtain ⟨t214, A90, H⟩ := H
      replace H : (if 0 ≤ t214 then (if t214 < (l0_0.length : Int) then (spec_UsedBelow.l0 k1 t210 (wrap64 (x6_1 + ((rd_T52 l0_0 t214).f6))) (wrap64 (x7_1 + 1)) l0_0 a0_1) else (none)) else (none)) = some r := H
      have A9 := Aside0.mk A90
      clear A90
      by_cases c10 : 0 ≤ t214
      ·rw [if_pos c10] at H
       have c10b0 : decide (0 ≤ t214) = true := decide_eq_true c10
       clear c10
       by_cases c11 : t214 < (l0_0.length : Int)
       ·rw [if_pos c11] at H
        have c11b0 : decide (t214 < (l0_0.length : Int)) = true := decide_eq_true c11
        clear c11
        have H' := Aside0.mk H
        clear H
        obtain ⟨Ao12, co12, eo12⟩ := Kd.R_slice HO_5.out
        subst eo12
        try go_wp2
        have n0_ := Aside0.mk (Kd.R_drew HO_5.out)
        have n1_ := Aside0.mk (blk_drew BK209.out)
        have n2_ := Aside0.mk (below_drew1 HB.out)
        clear HO_5
        clear BK209
        clear HB
        have HO_5 := n0_
        have BK209 := n1_
        have HB := n2_
        clear n0_ n1_ n2_
        have p213 : 0 ≤ (x7_1 : Int) := oda
        have q213 : x7_1 < (t210.length : Int) := oda
        obtain ⟨ad213, e213, hx213_0⟩ := Kd.at_int (Kd.R_reads' HO_5.out).2.2 x7_1 p213 q213
        cases e213
        replace p213 := eq_true p213
        replace q213 := eq_true q213
        have p215 : 0 ≤ (t214 : Int) := oda
        have q215 : t214 < (l0_0.length : Int) := oda
        obtain ⟨ad215, A215_7, c215_7, e215, hx215_0, hx215_1, hx215_2, hx215_3, hx215_4, hx215_5, hx215_6, hx215_7, hx215_8, hl215_7, hi215_7⟩ := at_T52 HR0_0.out t214 p215 q215
        have hw215_8 := hx215_8
        have hw215_7 := hx215_7
        have hw215_6 := hx215_6
        have hw215_5 := hx215_5
        have hw215_4 := hx215_4
        have hw215_3 := hx215_3
        have hw215_2 := hx215_2
        have hw215_1 := hx215_1
        have hw215_0 := hx215_0
        cases e215
        replace hx215_0 := hbc HB.out hx215_0
        replace hx215_1 := hbc HB.out hx215_1
        replace hx215_2 := hbc HB.out hx215_2
        replace hx215_3 := hbc HB.out hx215_3
        replace hx215_4 := hbc HB.out hx215_4
        replace hx215_5 := hbc HB.out hx215_5
        replace hx215_6 := hbc HB.out hx215_6
        replace hx215_7 := hbc HB.out hx215_7
        replace hx215_8 := hbc HB.out hx215_8
        have HR215_7 := Aside0.mk hi215_7
        have HC215_7 := Aside0.mk hl215_7
        clear hi215_7 hl215_7
        replace p215 := eq_true p215
        replace q215 := eq_true q215
        refine start_ (n := 14) (S := fun w' => w'.cell? ⟨gb209, 0, none⟩ = some (.slice (some ad215) l0_0.length c0_0) ∧ w'.cell? ⟨gb209, 1, none⟩ = some (.int .i64 a0_1) ∧ w'.cell? (ad213.add (x7_1).toNat) = some (.int .i64 (rd t210 x7_1)) ∧ w'.cell? (ad215.add ((t214).toNat * 9)) = some (.int .i64 ((rd_T52 l0_0 t214).f0)) ∧ w'.cell? ⟨(ad215.add ((t214).toNat * 9)).block, (ad215.add ((t214).toNat * 9)).off + 1, none⟩ = some (.int .i64 ((rd_T52 l0_0 t214).f1)) ∧ w'.cell? ⟨(ad215.add ((t214).toNat * 9)).block, (ad215.add ((t214).toNat * 9)).off + 2, none⟩ = some (.string ((rd_T52 l0_0 t214).f2)) ∧ w'.cell? ⟨(ad215.add ((t214).toNat * 9)).block, (ad215.add ((t214).toNat * 9)).off + 3, none⟩ = some (.bool ((rd_T52 l0_0 t214).f3)) ∧ w'.cell? ⟨(ad215.add ((t214).toNat * 9)).block, (ad215.add ((t214).toNat * 9)).off + 4, none⟩ = some (.int .i64 ((rd_T52 l0_0 t214).f4)) ∧ w'.cell? ⟨(ad215.add ((t214).toNat * 9)).block, (ad215.add ((t214).toNat * 9)).off + 5, none⟩ = some (.int .i64 ((rd_T52 l0_0 t214).f5)) ∧ w'.cell? ⟨(ad215.add ((t214).toNat * 9)).block, (ad215.add ((t214).toNat * 9)).off + 6, none⟩ = some (.int .i64 ((rd_T52 l0_0 t214).f6)) ∧ w'.cell? ⟨(ad215.add ((t214).toNat * 9)).block, (ad215.add ((t214).toNat * 9)).off + 7, none⟩ = some (.slice A215_7 ((rd_T52 l0_0 t214).f7).length c215_7) ∧ w'.cell? ⟨(ad215.add ((t214).toNat * 9)).block, (ad215.add ((t214).toNat * 9)).off + 8, none⟩ = some (.int .i64 ((rd_T52 l0_0 t214).f8))) (ds := []) #[O,O,O,O,O,O,O,O,O,O,O,O,O,O] (by kernel_rfl) rfl rfl ⟨(blk_cell BK209.out 0).trans rfl, (blk_cell BK209.out 1).trans rfl, hx213_0, ((HB.out.cell (World.block_lt_of_cell? w _ hw215_0)).trans hw215_0), ((HB.out.cell (World.block_lt_of_cell? w _ hw215_1)).trans hw215_1), ((HB.out.cell (World.block_lt_of_cell? w _ hw215_2)).trans hw215_2), ((HB.out.cell (World.block_lt_of_cell? w _ hw215_3)).trans hw215_3), ((HB.out.cell (World.block_lt_of_cell? w _ hw215_4)).trans hw215_4), ((HB.out.cell (World.block_lt_of_cell? w _ hw215_5)).trans hw215_5), ((HB.out.cell (World.block_lt_of_cell? w _ hw215_6)).trans hw215_6), ((HB.out.cell (World.block_lt_of_cell? w _ hw215_7)).trans hw215_7), ((HB.out.cell (World.block_lt_of_cell? w _ hw215_8)).trans hw215_8)⟩ (fun hHeld => ?_); refine with_tabW spec_UsedBelow.tab6 spec_UsedBelow.bits6 (fun HT_ HW_ => ?_)
        generalize wr.drew = w13 at HO_5 BK209 HB HR215_7 hx213_0 hx215_0 hx215_1 hx215_2 hx215_3 hx215_4 hx215_5 hx215_6 hx215_7 hx215_8 hHeld ⊢
        refine pz 0 17 #[Y,O,O,O,O,O,O,O,O,O,O,O,O,O] HT_ ?_
        refine pz 1 18 #[Y,Y,O,O,O,O,O,O,O,O,O,O,O,O] HT_ ?_
        refine pure_ (i := 4) (N := some 21) (v := ?_) (a' := ?_) #[Y,Y,O,O,Y,O,O,O,O,O,O,O,O,O] rfl rfl (any_of HT_.out (by kernel_rfl)) (fun _ _ _ h => h) (Or.inl ⟨by rfl, ?_⟩) ?_ ?_
        rotate_left
        ·intro w'
         go_simp
         with_reducible rfl
        rotate_left
        ·simp only [Act.put, List.setIfInBounds_toArray, List.set_cons_zero, List.set_cons_succ, i64_w, i32_w]
         rfl
        refine pure_ (i := 5) (N := some 22) (v := ?_) (a' := ?_) #[Y,Y,O,O,Y,Y,O,O,O,O,O,O,O,O] rfl rfl (any_of HT_.out (by kernel_rfl)) (fun _ _ _ h => h) (Or.inl ⟨by rfl, ?_⟩) ?_ ?_
        rotate_left
        ·intro w'
         go_simp
         with_reducible rfl
        rotate_left
        ·simp only [Act.put, List.setIfInBounds_toArray, List.set_cons_zero, List.set_cons_succ, i64_w, i32_w]
         rfl
        refine pure_ (i := 6) (N := some 23) (v := ?_) (a' := ?_) #[Y,Y,O,O,Y,Y,Y,O,O,O,O,O,O,O] rfl rfl (any_of HT_.out (by kernel_rfl)) (fun _ _ _ h => h) (Or.inl ⟨by rfl, ?_⟩) ?_ ?_
        rotate_left
        ·intro w'
         go_simp
         with_reducible rfl
        rotate_left
        ·simp only [Act.put, List.setIfInBounds_toArray, List.set_cons_zero, List.set_cons_succ, i64_w, i32_w]
         rfl
        refine take_ (i := 2) (N := some 19) (v := ?_) (a' := ?_) #[Y,Y,Y,O,Y,Y,Y,O,O,O,O,O,O,O] rfl rfl (take_ofW HT_.out HW_.out (by kernel_rfl)) (fun _ _ _ h => h) (Or.inl ⟨by rfl, ?_⟩) hHeld ?_ ?_
        rotate_left
        ·rintro w' ⟨s0, s1, s2, s3, s4, s5, s6, s7, s8, s9, s10, s11⟩
         go_simp
         with_reducible rfl
        rotate_left
        ·simp only [Act.put, List.setIfInBounds_toArray, List.set_cons_zero, List.set_cons_succ, i64_w, i32_w]
         rfl
        refine take_ (i := 3) (N := some 20) (v := ?_) (a' := ?_) #[Y,Y,Y,Y,Y,Y,Y,O,O,O,O,O,O,O] rfl rfl (take_ofW HT_.out HW_.out (by kernel_rfl)) (fun _ _ _ h => h) (Or.inl ⟨by rfl, ?_⟩) hHeld ?_ ?_
        rotate_left
        ·rintro w' ⟨s0, s1, s2, s3, s4, s5, s6, s7, s8, s9, s10, s11⟩
         go_simp
         with_reducible rfl
        rotate_left
        ·simp only [Act.put, List.setIfInBounds_toArray, List.set_cons_zero, List.set_cons_succ, i64_w, i32_w]
         rfl
        refine tz 7 24 #[Y,Y,Y,Y,Y,Y,Y,Y,O,O,O,O,O,O] HT_ HW_ hHeld ?_ (hr := by rintro w' ⟨s0, s1, s2, s3, s4, s5, s6, s7, s8, s9, s10, s11⟩; go_simp; with_reducible rfl)
        refine one_ (i := 8) (N := some 25) #[Y,Y,Y,Y,Y,Y,Y,Y,Y,O,O,O,O,O] rfl rfl (one_of HT_.out (by kernel_rfl)) (by decide) (fun K hK => ?_)
        refine goes_ Try.func48 (by kernel_rfl) rfl #[.agg #[.slice (some ad215) l0_0.length c0_0, .int .i64 a0_1], .int .i64 (rd t210 x7_1)] (by rfl) rfl rfl (by (try simp only [List.map_toArray, List.map_cons, List.map_nil]); first | done | rfl | (simp only [List.length_drop, List.length_take]; rfl)) ?_
        with_reducible refine (spec_l10At.calls k1 _ _ l0_0 a0_1 (rd t210 x7_1) t214 _ ?side1 ?side2 A9.out).mono ?_
        (case side1 => exact pc (Kd.C_below HR0_0.out HB.out))
        (case side2 => exact HC0_0.out)
        rintro e w14 ⟨rfl, hb⟩
        have HS2_ := (hb.cell (World.block_lt_of_cell? _ _ (hHeld.2.2.1))).trans (hHeld.2.2.1)
        refine ⟨_, rfl, ?_⟩
        have n0_ := Aside0.mk (Kd.R_below (by (with_reducible repeat (first | apply Kd.R_alloc | apply Kd.R_drewN | apply Kd.R_drew)); exact HO_5.out) hb)
        have n1_ := Aside0.mk (pb BK209.out hb)
        have n2_ := Aside0.mk (below_step (pl1 HB.out GE209.out) hb)
        clear HO_5
        clear BK209
        clear HB
        have HO_5 := n0_
        have BK209 := n1_
        have HB := n2_
        clear n0_ n1_ n2_
        (try clear hb)
        (try clear hb2)
        (try clear hk)
        (try clear hi)
        refine hK.out _ _ ⟨(blk_cell BK209.out 0).trans rfl, (blk_cell BK209.out 1).trans rfl, HS2_, ((HB.out.cell (World.block_lt_of_cell? w _ hw215_0)).trans hw215_0), ((HB.out.cell (World.block_lt_of_cell? w _ hw215_1)).trans hw215_1), ((HB.out.cell (World.block_lt_of_cell? w _ hw215_2)).trans hw215_2), ((HB.out.cell (World.block_lt_of_cell? w _ hw215_3)).trans hw215_3), ((HB.out.cell (World.block_lt_of_cell? w _ hw215_4)).trans hw215_4), ((HB.out.cell (World.block_lt_of_cell? w _ hw215_5)).trans hw215_5), ((HB.out.cell (World.block_lt_of_cell? w _ hw215_6)).trans hw215_6), ((HB.out.cell (World.block_lt_of_cell? w _ hw215_7)).trans hw215_7), ((HB.out.cell (World.block_lt_of_cell? w _ hw215_8)).trans hw215_8)⟩ (fun hHeld => ?_)
        clear hK K
        refine norm_ (a' := ?_) ?_ ?_
        rotate_left
        ·show Act.put _ (some 25) _ = _
         simp only [Act.put, List.setIfInBounds_toArray, List.set_cons_zero, List.set_cons_succ, i64_w, i32_w]
         rfl
        refine pz 9 26 #[Y,Y,Y,Y,Y,Y,Y,Y,Y,Y,O,O,O,O] HT_ ?_
        refine pz 10 27 #[Y,Y,Y,Y,Y,Y,Y,Y,Y,Y,Y,O,O,O] HT_ ?_
        refine tz 11 28 #[Y,Y,Y,Y,Y,Y,Y,Y,Y,Y,Y,Y,O,O] HT_ HW_ hHeld ?_ (hr := by rintro w' ⟨s0, s1, s2, s3, s4, s5, s6, s7, s8, s9, s10, s11⟩; go_simp; with_reducible rfl)
        refine pz 12 29 #[Y,Y,Y,Y,Y,Y,Y,Y,Y,Y,Y,Y,Y,O] HT_ ?_
        refine pz 13 6 #[Y,Y,Y,Y,Y,Y,Y,Y,Y,Y,Y,Y,Y,Y] HT_ ?_
        refine done_ (done_of HT_.out (by kernel_rfl)) ?_
        try go_wp2
        go_roundg k1
        case measure => have := HK1.out; omega
        case rel => exact ⟨(wrap64 (x6_1 + ((rd_T52 l0_0 t214).f6))), (wrap64 (x7_1 + 1)), eqa, eqa, H', ⟨by have := HK1.out; omega⟩, ⟨by (with_reducible repeat (first | apply Kd.R_alloc | apply Kd.R_drewN | apply Kd.R_drew)); exact HO_5.out⟩, ⟨pk BK209.out⟩, ⟨pl1 HB.out GE209.out⟩⟩
       ·rw [if_neg c11] at H
        exact absurd H (by simp)
      ·rw [if_neg c10] at H
       exact absurd H (by simp)
     ·rw [if_neg c8] at H
      exact absurd H (by simp)
    ·rw [if_neg c7] at H
     have c7b0 : decide (x7_1 < (t210.length : Int)) = false := decide_eq_false c7
     clear c7
     obtain rfl := Option.some.inj H
     obtain ⟨Ao15, co15, eo15⟩ := Kd.R_slice HO_5.out
     subst eo15
     go_wp2
     go_ret
     exact ⟨erq, pl1 HB.out GE209.out⟩

end Go.Proofs.Ytnhbfbgflgplcaa.QTW
