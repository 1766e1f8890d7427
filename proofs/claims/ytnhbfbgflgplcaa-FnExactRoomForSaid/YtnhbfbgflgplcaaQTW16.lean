/- Walks, as the kit's print writes them, run with stubs of my own and mended: TW. -/
import Derived.Test.YtnhbfbgflgplcaaQTW0
import Derived.Test.YtnhbfbgflgplcaaQTW12
import Derived.Test.YtnhbfbgflgplcaaQTW15
namespace Go.Proofs.Ytnhbfbgflgplcaa.QTW
open Go.Proofs.YtnhbfbgflgplcaaW Go.Proofs.YtnhbfbgflgplcaaW.Zip
open Go.RowKit Go.Proofs.YtnhbfbgflgplcaaW.PrintWords Go.Proofs.YtnhbfbgflgplcaaW.PrintLast Go.Proofs.YtnhbfbgflgplcaaW.PrintMore
attribute [local go_sem] max2_int min2_int max_two min_two max_three min_three max_four min_four   -- for this text's walks alone
set_option linter.unusedVariables false
set_option linter.unusedSimpArgs false

/-! ### impl_UsedBelow: function 19 -/
def impl_UsedBelow.l0 : Nat → Int → List Int → Int → Int → List (S52) → Int → Option (Int)
  | 0, _, _, _, _, _, _ => none
  | k + 1, x5, x10, x11, x12, x276000, x276001 => if x12 < x11 then (if 0 ≤ x12 then (if x12 < (x10.length : Int) then ((impl_nodeAt.f k x276000 x276001 (rd x10 x12)).bind fun t280 => (if 0 ≤ t280 then (if t280 < (x276000.length : Int) then (impl_UsedBelow.l0 k (wrap64 (x5 + ((rd_T52 x276000 t280).f6))) x10 x11 (wrap64 (x12 + 1)) x276000 x276001) else (none)) else (none))) else (none)) else (none)) else (some x5)
def impl_UsedBelow.f (k : Nat) (l0_0 : List (S52)) (a0_1 : Int) (a1 : Int) : Option (Int) := (impl_BelowOf.f k l0_0 a0_1 a1).bind fun t276 => (impl_UsedBelow.l0 k 0 t276 (t276.length : Int) 0 l0_0 a0_1)
theorem impl_UsedBelow.mono_l : ∀ k, (∀ y0 y1 y2 y3 y4 y5, LeO (impl_UsedBelow.l0 k y0 y1 y2 y3 y4 y5) (impl_UsedBelow.l0 (k + 1) y0 y1 y2 y3 y4 y5))
  | 0 => fun _ _ _ _ _ _ r h => by simp [impl_UsedBelow.l0] at h
  | k + 1 => by
    have ih0 := impl_UsedBelow.mono_l k
    · intro y0 y1 y2 y3 y4 y5
      unfold impl_UsedBelow.l0
      repeat' first
      | (with_reducible exact ih0 _ _ _ _ _ _)
      | (with_reducible exact impl_BelowOf.mono _ _ _ _)
      | (with_reducible exact impl_nodeAt.mono _ _ _ _)
      | (with_reducible exact LeO.refl _)
      | (with_reducible exact LeO.none _)
      | (with_reducible refine LeO.ite ?_ ?_)
      | (with_reducible refine LeO.bind ?_ (fun _ => ?_))
      | exact ih0 _ _ _ _ _ _
      | exact impl_BelowOf.mono _ _ _ _
      | exact impl_nodeAt.mono _ _ _ _
      | exact LeO.none _
      | refine LeO.ite ?_ ?_
      | refine LeO.bind ?_ (fun _ => ?_)
theorem impl_UsedBelow.mono : ∀ a0 a1 a2 k, LeO (impl_UsedBelow.f k a0 a1 a2) (impl_UsedBelow.f (k + 1) a0 a1 a2) := by
  intro a0 a1 a2 k
  have ih0 := impl_UsedBelow.mono_l k
  unfold impl_UsedBelow.f
  repeat' first
      | (with_reducible exact ih0 _ _ _ _ _ _)
      | (with_reducible exact impl_BelowOf.mono _ _ _ _)
      | (with_reducible exact impl_nodeAt.mono _ _ _ _)
      | (with_reducible exact LeO.refl _)
      | (with_reducible exact LeO.none _)
      | (with_reducible refine LeO.ite ?_ ?_)
      | (with_reducible refine LeO.bind ?_ (fun _ => ?_))
      | exact ih0 _ _ _ _ _ _
      | exact impl_BelowOf.mono _ _ _ _
      | exact impl_nodeAt.mono _ _ _ _
      | exact LeO.none _
      | refine LeO.ite ?_ ?_
      | refine LeO.bind ?_ (fun _ => ?_)
def impl_UsedBelow.T5 : Bool × List (List Nat × List Nat) := (true, [([], []), ([], []), ([1], [1]), ([], []), ([], []), ([3, 4], [3, 4]), ([2, 5], [2, 5]), ([6], [6]), ([7], [7]), ([0, 8], [0, 8]), ([9, 5, 0, 1, 2, 3, 4, 5, 6, 7, 8, 9], [0, 9])])
def impl_UsedBelow.B5 : List Nat := [0, 0, 2, 0, 0, 24, 62, 126, 254, 511, 1023]
theorem impl_UsedBelow.tab5 : rtab .any (opsOf Try.f19 5) = impl_UsedBelow.T5 := by kernel_rfl
theorem impl_UsedBelow.bits5 : waitsOk impl_UsedBelow.T5.2 impl_UsedBelow.B5 = true := by kernel_rfl
set_option maxHeartbeats 8000000 in
set_option maxRecDepth 100000 in
theorem impl_UsedBelow.calls (k : Nat) (A0_0 : Option Addr) (c0_0 : Nat) (l0_0 : List (S52)) (a0_1 : Int) (a1 : Int) (r : Int) (w : World) (hr0_0 : Kd.C k52 w A0_0 l0_0.length l0_0) (hc0_0 : l0_0.length ≤ c0_0) (h : impl_UsedBelow.f k l0_0 a0_1 a1 = some r) :
    Calls Try.prog 19 #[.agg #[.slice A0_0 l0_0.length c0_0, .int .i64 a0_1], .int .i64 a1] w fun e w' => e = .returned (.int .i64 r) ∧ Below w.heap.size w w' := by
  have hu29 := Try.underlying29
  have HR0_0 := Aside0.mk hr0_0
  have HC0_0 := Aside0.mk hc0_0
  clear hr0_0 hc0_0
  have HB := Aside0.mk (Below.refl w.heap.size w)
  have H : ((impl_BelowOf.f k l0_0 a0_1 a1).bind fun t276 => (impl_UsedBelow.l0 k 0 t276 (t276.length : Int) 0 l0_0 a0_1)) = some r := h
  clear h
  replace H := Option.bind_eq_some_iff.mp H
  obtain ⟨t276, A30, H⟩ := H
  replace H : (impl_UsedBelow.l0 k 0 t276 (t276.length : Int) 0 l0_0 a0_1) = some r := H
  have A3 := Aside0.mk A30
  clear A30
  have H' := Aside0.mk H
  clear H
  go_enter Try.func19, Try.ntmps19
  go_wp2_with (first | ((with_reducible refine gate_dst (N := 2) rfl ?_); refine box_event ?hg (N := 2) ?hd (cs := #[.slice A0_0 l0_0.length c0_0, .int .i64 a0_1]) (t := 29) ?hr ?_; (case hd => rfl); (case hg => rfl); (case hr => first | (go_simp; done) | (go_simp; rfl)); intro gb275 hg w4 hbox hb; have n0_ := Aside0.mk (below_step (pl0 HB.out) hb); have n1_ := Aside0.mk (hbox); have n2_ := Aside0.mk ((by rw [hg]; exact (below_size (pl0 HB.out)) : w.heap.size ≤ gb275)); have n3_ := Aside0.mk ((by rw [hg]; exact (below_size (pl0 HB.out)) : w.heap.size ≤ gb275)); clear HB; have HB := n0_; have BK275 := n1_; have GW275 := n2_; have GE275 := n3_; clear n0_ n1_ n2_ n3_; clear hb hbox hg; have hcz5_0 : w4.cell? ⟨gb275, 0, none⟩ = some (.slice A0_0 l0_0.length c0_0) := (blk_cell BK275.out 0).trans rfl; have hcz5_1 : w4.cell? ⟨gb275, 1, none⟩ = some (.int .i64 a0_1) := (blk_cell BK275.out 1).trans rfl; have hfz5_0 := blk_frozen BK275.out 0; have hfz5_1 := blk_frozen BK275.out 1) | ((with_reducible refine gate_callee (f := 25) rfl ?_); refine goesL_ (some 10) rfl rfl Try.func25 (by kernel_rfl) rfl #[.agg #[.slice A0_0 l0_0.length c0_0, .int .i64 a0_1], .int .i64 a1] rfl (by (try simp only [List.map_toArray, List.map_cons, List.map_nil]); first | done | rfl | (simp only [List.length_drop, List.length_take]; rfl)) ?_; (with_reducible refine (impl_BelowOf.calls k _ _ l0_0 a0_1 a1 t276 _ ?side1 ?side2 A3.out).mono ?_); (case side1 => exact pc (Kd.C_below HR0_0.out HB.out)); (case side2 => exact HC0_0.out); rintro e w6 ⟨v277, rfl, ho0, hb⟩; refine ⟨_, rfl, ?_⟩; have n0_ := Aside0.mk (Kd.R_lower ho0 (below_size (pl1 HB.out GE275.out))); have n1_ := Aside0.mk (pb BK275.out hb); have n2_ := Aside0.mk (below_step (pl1 HB.out GE275.out) hb); clear BK275; clear HB; have HO278 := n0_; have BK275 := n1_; have HB := n2_; clear n0_ n1_ n2_; (try clear hb); (try clear hb2); (try clear hk); (try clear hi); (try clear ho0); obtain ⟨Ao7, co7, eo7⟩ := Kd.R_slice HO278.out; subst eo7))
  go_loopg [5, 12] k (fun kq v5 v12 w' => ∃ (x5_1 : Int) (x12_1 : Int), v5 = .int .i64 x5_1 ∧ v12 = .int .i64 x12_1 ∧ Aside0 (impl_UsedBelow.l0 kq x5_1 t276 (t276.length : Int) x12_1 l0_0 a0_1 = some r) ∧ Aside0 (kq ≤ k) ∧ Aside0 (Kd.R (Kd.int .i64) 3 w' w.heap.size (fun _ => True) (.slice Ao7 t276.length co7) t276) ∧ Aside0 (w'.heap[gb275]? = some (.cells #[(.slice A0_0 l0_0.length c0_0), .int .i64 a0_1] 29 (0, 0))) ∧ Aside0 (Below w.heap.size w w'))
  case atStart => exact ⟨(0), (0), eqa, eqa, H', ⟨Nat.le_refl _⟩, ⟨by (with_reducible repeat (first | apply Kd.R_alloc | apply Kd.R_drewN | apply Kd.R_drew)); exact HO278.out⟩, ⟨pk BK275.out⟩, ⟨pl1 HB.out GE275.out⟩⟩
  case round =>
   clear H'
   try clear hcz5_0; try clear hcz5_1; try clear hfz5_0; try clear hfz5_1
   obtain ⟨x5_1, x12_1, rfl, rfl, HA, HK1, HO_10, BK275, HB⟩ := hrel
   cases gk with
   | zero => exact absurd HA.out (by simp [impl_UsedBelow.l0])
   | succ k1 =>
    have H := HA.out
    clear HA
    simp only [impl_UsedBelow.l0] at H
    by_cases c8 : x12_1 < (t276.length : Int)
    ·rw [if_pos c8] at H
     have c8b0 : decide (x12_1 < (t276.length : Int)) = true := decide_eq_true c8
     clear c8
     by_cases c9 : 0 ≤ x12_1
     ·rw [if_pos c9] at H
      have c9b0 : decide (0 ≤ x12_1) = true := decide_eq_true c9
      clear c9
      by_cases c10 : x12_1 < (t276.length : Int)
      ·rw [if_pos c10] at H
       have c10b0 : decide (x12_1 < (t276.length : Int)) = true := decide_eq_true c10
       clear c10
       replace H := Option.bind_eq_some_iff.mp H
       obtain ⟨t280, A110, H⟩ := H
       replace H : (if 0 ≤ t280 then (if t280 < (l0_0.length : Int) then (impl_UsedBelow.l0 k1 (wrap64 (x5_1 + ((rd_T52 l0_0 t280).f6))) t276 (t276.length : Int) (wrap64 (x12_1 + 1)) l0_0 a0_1) else (none)) else (none)) = some r := H
       have A11 := Aside0.mk A110
       clear A110
       by_cases c12 : 0 ≤ t280
       ·rw [if_pos c12] at H
        have c12b0 : decide (0 ≤ t280) = true := decide_eq_true c12
        clear c12
        by_cases c13 : t280 < (l0_0.length : Int)
        ·rw [if_pos c13] at H
         have c13b0 : decide (t280 < (l0_0.length : Int)) = true := decide_eq_true c13
         clear c13
         have H' := Aside0.mk H
         clear H
         have p279 : 0 ≤ (x12_1 : Int) := oda
         have q279 : x12_1 < (t276.length : Int) := oda
         obtain ⟨ad279, e279, hx279_0⟩ := Kd.at_int (Kd.R_reads' HO_10.out).2.2 x12_1 p279 q279
         cases e279
         replace p279 := eq_true p279
         replace q279 := eq_true q279
         try go_wp2
         have n0_ := Aside0.mk (Kd.R_drew HO_10.out)
         have n1_ := Aside0.mk (blk_drew BK275.out)
         have n2_ := Aside0.mk (below_drew1 HB.out)
         clear HO_10
         clear BK275
         clear HB
         have HO_10 := n0_
         have BK275 := n1_
         have HB := n2_
         clear n0_ n1_ n2_
         have p281 : 0 ≤ (t280 : Int) := oda
         have q281 : t280 < (l0_0.length : Int) := oda
         obtain ⟨ad281, A281_7, c281_7, e281, hx281_0, hx281_1, hx281_2, hx281_3, hx281_4, hx281_5, hx281_6, hx281_7, hx281_8, hl281_7, hi281_7⟩ := at_T52 HR0_0.out t280 p281 q281
         have hw281_8 := hx281_8
         have hw281_7 := hx281_7
         have hw281_6 := hx281_6
         have hw281_5 := hx281_5
         have hw281_4 := hx281_4
         have hw281_3 := hx281_3
         have hw281_2 := hx281_2
         have hw281_1 := hx281_1
         have hw281_0 := hx281_0
         cases e281
         replace hx281_0 := hbc HB.out hx281_0
         replace hx281_1 := hbc HB.out hx281_1
         replace hx281_2 := hbc HB.out hx281_2
         replace hx281_3 := hbc HB.out hx281_3
         replace hx281_4 := hbc HB.out hx281_4
         replace hx281_5 := hbc HB.out hx281_5
         replace hx281_6 := hbc HB.out hx281_6
         replace hx281_7 := hbc HB.out hx281_7
         replace hx281_8 := hbc HB.out hx281_8
         have HR281_7 := Aside0.mk hi281_7
         have HC281_7 := Aside0.mk hl281_7
         clear hi281_7 hl281_7
         replace p281 := eq_true p281
         replace q281 := eq_true q281
         refine start_ (n := 11) (S := fun w' => w'.cell? ⟨gb275, 0, none⟩ = some (.slice (some ad281) l0_0.length c0_0) ∧ w'.cell? ⟨gb275, 1, none⟩ = some (.int .i64 a0_1) ∧ w'.cell? (ad281.add ((t280).toNat * 9)) = some (.int .i64 ((rd_T52 l0_0 t280).f0)) ∧ w'.cell? ⟨(ad281.add ((t280).toNat * 9)).block, (ad281.add ((t280).toNat * 9)).off + 1, none⟩ = some (.int .i64 ((rd_T52 l0_0 t280).f1)) ∧ w'.cell? ⟨(ad281.add ((t280).toNat * 9)).block, (ad281.add ((t280).toNat * 9)).off + 2, none⟩ = some (.string ((rd_T52 l0_0 t280).f2)) ∧ w'.cell? ⟨(ad281.add ((t280).toNat * 9)).block, (ad281.add ((t280).toNat * 9)).off + 3, none⟩ = some (.bool ((rd_T52 l0_0 t280).f3)) ∧ w'.cell? ⟨(ad281.add ((t280).toNat * 9)).block, (ad281.add ((t280).toNat * 9)).off + 4, none⟩ = some (.int .i64 ((rd_T52 l0_0 t280).f4)) ∧ w'.cell? ⟨(ad281.add ((t280).toNat * 9)).block, (ad281.add ((t280).toNat * 9)).off + 5, none⟩ = some (.int .i64 ((rd_T52 l0_0 t280).f5)) ∧ w'.cell? ⟨(ad281.add ((t280).toNat * 9)).block, (ad281.add ((t280).toNat * 9)).off + 6, none⟩ = some (.int .i64 ((rd_T52 l0_0 t280).f6)) ∧ w'.cell? ⟨(ad281.add ((t280).toNat * 9)).block, (ad281.add ((t280).toNat * 9)).off + 7, none⟩ = some (.slice A281_7 ((rd_T52 l0_0 t280).f7).length c281_7) ∧ w'.cell? ⟨(ad281.add ((t280).toNat * 9)).block, (ad281.add ((t280).toNat * 9)).off + 8, none⟩ = some (.int .i64 ((rd_T52 l0_0 t280).f8))) (ds := []) #[O,O,O,O,O,O,O,O,O,O,O] (by kernel_rfl) rfl rfl ⟨(blk_cell BK275.out 0).trans rfl, (blk_cell BK275.out 1).trans rfl, ((HB.out.cell (World.block_lt_of_cell? w _ hw281_0)).trans hw281_0), ((HB.out.cell (World.block_lt_of_cell? w _ hw281_1)).trans hw281_1), ((HB.out.cell (World.block_lt_of_cell? w _ hw281_2)).trans hw281_2), ((HB.out.cell (World.block_lt_of_cell? w _ hw281_3)).trans hw281_3), ((HB.out.cell (World.block_lt_of_cell? w _ hw281_4)).trans hw281_4), ((HB.out.cell (World.block_lt_of_cell? w _ hw281_5)).trans hw281_5), ((HB.out.cell (World.block_lt_of_cell? w _ hw281_6)).trans hw281_6), ((HB.out.cell (World.block_lt_of_cell? w _ hw281_7)).trans hw281_7), ((HB.out.cell (World.block_lt_of_cell? w _ hw281_8)).trans hw281_8)⟩ (fun hHeld => ?_); refine with_tabW impl_UsedBelow.tab5 impl_UsedBelow.bits5 (fun HT_ HW_ => ?_)
         generalize wr.drew = w14 at HO_10 BK275 HB HR281_7 hx281_0 hx281_1 hx281_2 hx281_3 hx281_4 hx281_5 hx281_6 hx281_7 hx281_8 hHeld ⊢
         refine pz 0 16 #[Y,O,O,O,O,O,O,O,O,O,O] HT_ ?_
         refine pz 1 17 #[Y,Y,O,O,O,O,O,O,O,O,O] HT_ ?_
         refine pure_ (i := 4) (N := some 20) (v := ?_) (a' := ?_) #[Y,Y,O,O,Y,O,O,O,O,O,O] rfl rfl (any_of HT_.out (by kernel_rfl)) (fun _ _ _ h => h) (Or.inl ⟨by rfl, ?_⟩) ?_ ?_
         rotate_left
         ·intro w'
          go_simp
          with_reducible rfl
         rotate_left
         ·simp only [Act.put, List.setIfInBounds_toArray, List.set_cons_zero, List.set_cons_succ, i64_w, i32_w]
          rfl
         refine take_ (i := 2) (N := some 18) (v := ?_) (a' := ?_) #[Y,Y,Y,O,Y,O,O,O,O,O,O] rfl rfl (take_ofW HT_.out HW_.out (by kernel_rfl)) (fun _ _ _ h => h) (Or.inl ⟨by rfl, ?_⟩) hHeld ?_ ?_
         rotate_left
         ·rintro w' ⟨s0, s1, s2, s3, s4, s5, s6, s7, s8, s9, s10⟩
          go_simp
          with_reducible rfl
         rotate_left
         ·simp only [Act.put, List.setIfInBounds_toArray, List.set_cons_zero, List.set_cons_succ, i64_w, i32_w]
          rfl
         refine take_ (i := 3) (N := some 19) (v := ?_) (a' := ?_) #[Y,Y,Y,Y,Y,O,O,O,O,O,O] rfl rfl (take_ofW HT_.out HW_.out (by kernel_rfl)) (fun _ _ _ h => h) (Or.inl ⟨by rfl, ?_⟩) hHeld ?_ ?_
         rotate_left
         ·rintro w' ⟨s0, s1, s2, s3, s4, s5, s6, s7, s8, s9, s10⟩
          go_simp
          with_reducible rfl
         rotate_left
         ·simp only [Act.put, List.setIfInBounds_toArray, List.set_cons_zero, List.set_cons_succ, i64_w, i32_w]
          rfl
         refine one_ (i := 5) (N := some 21) #[Y,Y,Y,Y,Y,Y,O,O,O,O,O] rfl rfl (one_of HT_.out (by kernel_rfl)) (by decide) (fun K hK => ?_)
         refine goes_ Try.func49 (by kernel_rfl) rfl #[.agg #[.slice (some ad281) l0_0.length c0_0, .int .i64 a0_1], .int .i64 (rd t276 x12_1)] (by rfl) rfl rfl (by (try simp only [List.map_toArray, List.map_cons, List.map_nil]); first | done | rfl | (simp only [List.length_drop, List.length_take]; rfl)) ?_
         with_reducible refine (impl_nodeAt.calls k1 _ _ l0_0 a0_1 (rd t276 x12_1) t280 _ ?side1 ?side2 A11.out).mono ?_
         (case side1 => exact pc (Kd.C_below HR0_0.out HB.out))
         (case side2 => exact HC0_0.out)
         rintro e w15 ⟨rfl, hb⟩
         refine ⟨_, rfl, ?_⟩
         have n0_ := Aside0.mk (Kd.R_below (by (with_reducible repeat (first | apply Kd.R_alloc | apply Kd.R_drewN | apply Kd.R_drew)); exact HO_10.out) hb)
         have n1_ := Aside0.mk (pb BK275.out hb)
         have n2_ := Aside0.mk (below_step (pl1 HB.out GE275.out) hb)
         clear HO_10
         clear BK275
         clear HB
         have HO_10 := n0_
         have BK275 := n1_
         have HB := n2_
         clear n0_ n1_ n2_
         (try clear hb)
         (try clear hb2)
         (try clear hk)
         (try clear hi)
         refine hK.out _ _ ⟨(blk_cell BK275.out 0).trans rfl, (blk_cell BK275.out 1).trans rfl, ((HB.out.cell (World.block_lt_of_cell? w _ hw281_0)).trans hw281_0), ((HB.out.cell (World.block_lt_of_cell? w _ hw281_1)).trans hw281_1), ((HB.out.cell (World.block_lt_of_cell? w _ hw281_2)).trans hw281_2), ((HB.out.cell (World.block_lt_of_cell? w _ hw281_3)).trans hw281_3), ((HB.out.cell (World.block_lt_of_cell? w _ hw281_4)).trans hw281_4), ((HB.out.cell (World.block_lt_of_cell? w _ hw281_5)).trans hw281_5), ((HB.out.cell (World.block_lt_of_cell? w _ hw281_6)).trans hw281_6), ((HB.out.cell (World.block_lt_of_cell? w _ hw281_7)).trans hw281_7), ((HB.out.cell (World.block_lt_of_cell? w _ hw281_8)).trans hw281_8)⟩ (fun hHeld => ?_)
         clear hK K
         refine norm_ (a' := ?_) ?_ ?_
         rotate_left
         ·show Act.put _ (some 21) _ = _
          simp only [Act.put, List.setIfInBounds_toArray, List.set_cons_zero, List.set_cons_succ, i64_w, i32_w]
          rfl
         refine pz 6 22 #[Y,Y,Y,Y,Y,Y,Y,O,O,O,O] HT_ ?_
         refine pz 7 23 #[Y,Y,Y,Y,Y,Y,Y,Y,O,O,O] HT_ ?_
         refine tz 8 24 #[Y,Y,Y,Y,Y,Y,Y,Y,Y,O,O] HT_ HW_ hHeld ?_ (hr := by rintro w' ⟨s0, s1, s2, s3, s4, s5, s6, s7, s8, s9, s10⟩; go_simp; with_reducible rfl)
         refine pz 9 25 #[Y,Y,Y,Y,Y,Y,Y,Y,Y,Y,O] HT_ ?_
         refine pz 10 5 #[Y,Y,Y,Y,Y,Y,Y,Y,Y,Y,Y] HT_ ?_
         refine done_ (done_of HT_.out (by kernel_rfl)) ?_
         try go_wp2
         go_roundg k1
         case measure => have := HK1.out; omega
         case rel => exact ⟨(wrap64 (x5_1 + ((rd_T52 l0_0 t280).f6))), (wrap64 (x12_1 + 1)), eqa, eqa, H', ⟨by have := HK1.out; omega⟩, ⟨by (with_reducible repeat (first | apply Kd.R_alloc | apply Kd.R_drewN | apply Kd.R_drew)); exact HO_10.out⟩, ⟨pk BK275.out⟩, ⟨pl1 HB.out GE275.out⟩⟩
        ·rw [if_neg c13] at H
         exact absurd H (by simp)
       ·rw [if_neg c12] at H
        exact absurd H (by simp)
      ·rw [if_neg c10] at H
       exact absurd H (by simp)
     ·rw [if_neg c9] at H
      exact absurd H (by simp)
    ·rw [if_neg c8] at H
     have c8b0 : decide (x12_1 < (t276.length : Int)) = false := decide_eq_false c8
     clear c8
     obtain rfl := Option.some.inj H
     go_wp2
     go_ret
     exact ⟨erq, pl1 HB.out GE275.out⟩

end Go.Proofs.Ytnhbfbgflgplcaa.QTW
