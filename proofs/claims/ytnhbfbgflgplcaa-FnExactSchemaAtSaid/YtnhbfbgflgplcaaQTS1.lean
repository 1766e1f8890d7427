/- Walks, as the kit's print writes them, run with stubs of my own and mended: TS. -/
import Derived.Test.YtnhbfbgflgplcaaQTS0
import Derived.Test.YtnhbfbgflgplcaaQTR0
import Derived.Test.YtnhbfbgflgplcaaQTR1
import Derived.Test.YtnhbfbgflgplcaaQTR10
namespace Go.Proofs.Ytnhbfbgflgplcaa.QTS
open Go.Proofs.Ytnhbfbgflgplcaa.QTR
open Go.Proofs.YtnhbfbgflgplcaaW Go.Proofs.YtnhbfbgflgplcaaW.Zip
open Go.RowKit Go.Proofs.YtnhbfbgflgplcaaW.PrintWords Go.Proofs.YtnhbfbgflgplcaaW.PrintLast Go.Proofs.YtnhbfbgflgplcaaW.PrintMore
attribute [local go_sem] max2_int min2_int max_two min_two max_three min_three max_four min_four   -- for this text's walks alone
set_option linter.unusedVariables false
set_option linter.unusedSimpArgs false

/-! ### spec_SchemaAt: function 16 -/
def spec_SchemaAt.l0 : Nat → Int → Int → List (S52) → Int → Option (Int)
  | 0, _, _, _, _ => none
  | k + 1, x1, x5, x192000, x192001 => if x5 ≤ 14 then ((spec_l10At.f k x192000 x192001 x1).bind fun t193 => (if t193 < 0 then (some 0) else (if 0 ≤ t193 then (if t193 < (x192000.length : Int) then (if ((rd_T52 x192000 t193).f4) = 0 then (spec_SchemaAt.l0 k ((rd_T52 x192000 t193).f1) (wrap64 (x5 + 1)) x192000 x192001) else (some ((rd_T52 x192000 t193).f4))) else (none)) else (none)))) else (some 0)
def spec_SchemaAt.f (k : Nat) (l0_0 : List (S52)) (a0_1 : Int) (a1 : Int) : Option (Int) := (spec_TreeOk.f k l0_0 a0_1).bind fun t192 => (if t192 = true then (spec_SchemaAt.l0 k a1 0 l0_0 a0_1) else (some 0))
theorem spec_SchemaAt.mono_l : ∀ k, (∀ y0 y1 y2 y3, LeO (spec_SchemaAt.l0 k y0 y1 y2 y3) (spec_SchemaAt.l0 (k + 1) y0 y1 y2 y3))
  | 0 => fun _ _ _ _ r h => by simp [spec_SchemaAt.l0] at h
  | k + 1 => by
    have ih0 := spec_SchemaAt.mono_l k
    · intro y0 y1 y2 y3
      unfold spec_SchemaAt.l0
      repeat' first
      | (with_reducible exact ih0 _ _ _ _)
      | (with_reducible exact spec_TreeOk.mono _ _ _)
      | (with_reducible exact spec_l10At.mono _ _ _ _)
      | (with_reducible exact LeO.refl _)
      | (with_reducible exact LeO.none _)
      | (with_reducible refine LeO.ite ?_ ?_)
      | (with_reducible refine LeO.bind ?_ (fun _ => ?_))
      | exact ih0 _ _ _ _
      | exact spec_TreeOk.mono _ _ _
      | exact spec_l10At.mono _ _ _ _
      | exact LeO.none _
      | refine LeO.ite ?_ ?_
      | refine LeO.bind ?_ (fun _ => ?_)
theorem spec_SchemaAt.mono : ∀ a0 a1 a2 k, LeO (spec_SchemaAt.f k a0 a1 a2) (spec_SchemaAt.f (k + 1) a0 a1 a2) := by
  intro a0 a1 a2 k
  have ih0 := spec_SchemaAt.mono_l k
  unfold spec_SchemaAt.f
  repeat' first
      | (with_reducible exact ih0 _ _ _ _)
      | (with_reducible exact spec_TreeOk.mono _ _ _)
      | (with_reducible exact spec_l10At.mono _ _ _ _)
      | (with_reducible exact LeO.refl _)
      | (with_reducible exact LeO.none _)
      | (with_reducible refine LeO.ite ?_ ?_)
      | (with_reducible refine LeO.bind ?_ (fun _ => ?_))
      | exact ih0 _ _ _ _
      | exact spec_TreeOk.mono _ _ _
      | exact spec_l10At.mono _ _ _ _
      | exact LeO.none _
      | refine LeO.ite ?_ ?_
      | refine LeO.bind ?_ (fun _ => ?_)
set_option maxHeartbeats 8000000 in
set_option maxRecDepth 100000 in
theorem spec_SchemaAt.calls (k : Nat) (A0_0 : Option Addr) (c0_0 : Nat) (l0_0 : List (S52)) (a0_1 : Int) (a1 : Int) (r : Int) (w : World) (hr0_0 : Kd.C k52 w A0_0 l0_0.length l0_0) (hc0_0 : l0_0.length ≤ c0_0) (h : spec_SchemaAt.f k l0_0 a0_1 a1 = some r) :
    Calls Try.prog 16 #[.agg #[.slice A0_0 l0_0.length c0_0, .int .i64 a0_1], .int .i64 a1] w fun e w' => e = .returned (.int .i64 r) ∧ Below w.heap.size w w' := by
  have hu29 := Try.underlying29
  have HR0_0 := Aside0.mk hr0_0
  have HC0_0 := Aside0.mk hc0_0
  clear hr0_0 hc0_0
  have HB := Aside0.mk (Below.refl w.heap.size w)
  have H : ((spec_TreeOk.f k l0_0 a0_1).bind fun t192 => (if t192 = true then (spec_SchemaAt.l0 k a1 0 l0_0 a0_1) else (some 0))) = some r := h
  clear h
  replace H := Option.bind_eq_some_iff.mp H
  obtain ⟨t192, A30, H⟩ := H
  replace H : (if t192 = true then (spec_SchemaAt.l0 k a1 0 l0_0 a0_1) else (some 0)) = some r := H
  have A3 := Aside0.mk A30
  clear A30
  by_cases c4 : t192 = true
  ·subst c4
   have H1 : (spec_SchemaAt.l0 k a1 0 l0_0 a0_1) = some r := by rw [if_pos rfl] at H; exact H
   clear H
   have H := H1
   clear H1
   have H' := Aside0.mk H
   clear H
   go_enter Try.func16, Try.ntmps16
   go_wp2_with (first | ((with_reducible refine gate_dst (N := 2) rfl ?_); refine box_event ?hg (N := 2) ?hd (cs := #[.slice A0_0 l0_0.length c0_0, .int .i64 a0_1]) (t := 29) ?hr ?_; (case hd => rfl); (case hg => rfl); (case hr => first | (go_simp; done) | (go_simp; rfl)); intro gb191 hg w5 hbox hb; have n0_ := Aside0.mk (below_step (pl0 HB.out) hb); have n1_ := Aside0.mk (hbox); have n2_ := Aside0.mk ((by rw [hg]; exact (below_size (pl0 HB.out)) : w.heap.size ≤ gb191)); have n3_ := Aside0.mk ((by rw [hg]; exact (below_size (pl0 HB.out)) : w.heap.size ≤ gb191)); clear HB; have HB := n0_; have BK191 := n1_; have GW191 := n2_; have GE191 := n3_; clear n0_ n1_ n2_ n3_; clear hb hbox hg; have hcz6_0 : w5.cell? ⟨gb191, 0, none⟩ = some (.slice A0_0 l0_0.length c0_0) := (blk_cell BK191.out 0).trans rfl; have hcz6_1 : w5.cell? ⟨gb191, 1, none⟩ = some (.int .i64 a0_1) := (blk_cell BK191.out 1).trans rfl; have hfz6_0 := blk_frozen BK191.out 0; have hfz6_1 := blk_frozen BK191.out 1) | ((with_reducible refine gate_callee (f := 12) rfl ?_); refine goesL_ (some 8) rfl rfl Try.func12 (by kernel_rfl) rfl #[.agg #[.slice A0_0 l0_0.length c0_0, .int .i64 a0_1]] rfl (by (try simp only [List.map_toArray, List.map_cons, List.map_nil]); first | done | rfl | (simp only [List.length_drop, List.length_take]; rfl)) ?_; (with_reducible refine (spec_TreeOk.calls k _ _ l0_0 a0_1 true _ ?side1 ?side2 A3.out).mono ?_); (case side1 => exact pc (Kd.C_below HR0_0.out HB.out)); (case side2 => exact HC0_0.out); rintro e w7 ⟨rfl, hb⟩; refine ⟨_, rfl, ?_⟩; have n0_ := Aside0.mk (pb BK191.out hb); have n1_ := Aside0.mk (below_step (pl1 HB.out GE191.out) hb); clear BK191; clear HB; have BK191 := n0_; have HB := n1_; clear n0_ n1_; (try clear hb); (try clear hb2); (try clear hk); (try clear hi)))
   go_loopg [1, 5] k (fun kq v1 v5 w' => ∃ (x1_1 : Int) (x5_1 : Int), v1 = .int .i64 x1_1 ∧ v5 = .int .i64 x5_1 ∧ Aside0 (spec_SchemaAt.l0 kq x1_1 x5_1 l0_0 a0_1 = some r) ∧ Aside0 (kq ≤ k) ∧ Aside0 (w'.heap[gb191]? = some (.cells #[(.slice A0_0 l0_0.length c0_0), .int .i64 a0_1] 29 (0, 0))) ∧ Aside0 (Below w.heap.size w w'))
   case atStart => exact ⟨(a1), (0), eqa, eqa, H', ⟨Nat.le_refl _⟩, ⟨pk BK191.out⟩, ⟨pl1 HB.out GE191.out⟩⟩
   case round =>
    clear H'
    try clear c4; try clear hcz6_0; try clear hcz6_1; try clear hfz6_0; try clear hfz6_1
    obtain ⟨x1_1, x5_1, rfl, rfl, HA, HK1, BK191, HB⟩ := hrel
    cases gk with
    | zero => exact absurd HA.out (by simp [spec_SchemaAt.l0])
    | succ k1 =>
     have H := HA.out
     clear HA
     simp only [spec_SchemaAt.l0] at H
     by_cases c8 : x5_1 ≤ 14
     ·rw [if_pos c8] at H
      have c8b0 : decide (x5_1 ≤ 14) = true := decide_eq_true c8
      clear c8
      replace H := Option.bind_eq_some_iff.mp H
      obtain ⟨t193, A90, H⟩ := H
      replace H : (if t193 < 0 then (some 0) else (if 0 ≤ t193 then (if t193 < (l0_0.length : Int) then (if ((rd_T52 l0_0 t193).f4) = 0 then (spec_SchemaAt.l0 k1 ((rd_T52 l0_0 t193).f1) (wrap64 (x5_1 + 1)) l0_0 a0_1) else (some ((rd_T52 l0_0 t193).f4))) else (none)) else (none))) = some r := H
      have A9 := Aside0.mk A90
      clear A90
      by_cases c10 : t193 < 0
      ·rw [if_pos c10] at H
       have c10b0 : decide (t193 < 0) = true := decide_eq_true c10
       clear c10
       obtain rfl := Option.some.inj H
       obtain ⟨hcz11_0, hcz11_1, hfz11_0, hfz11_1⟩ := z2 BK191.out
       go_wp2_with (first | ((with_reducible refine gate_callee (f := 48) rfl ?_); refine goesL_ (some 16) rfl rfl Try.func48 (by kernel_rfl) rfl #[.agg #[.slice A0_0 l0_0.length c0_0, .int .i64 a0_1], .int .i64 x1_1] rfl (by (try simp only [List.map_toArray, List.map_cons, List.map_nil]); first | done | rfl | (simp only [List.length_drop, List.length_take]; rfl)) ?_; (with_reducible refine (spec_l10At.calls k1 _ _ l0_0 a0_1 x1_1 t193 _ ?side1 ?side2 A9.out).mono ?_); (case side1 => exact pc (Kd.C_below HR0_0.out HB.out)); (case side2 => exact HC0_0.out); rintro e w12 ⟨rfl, hb⟩; refine ⟨_, rfl, ?_⟩; have n0_ := Aside0.mk (pb BK191.out hb); have n1_ := Aside0.mk (below_step (pl1 HB.out GE191.out) hb); clear BK191; clear HB; have BK191 := n0_; have HB := n1_; clear n0_ n1_; (try clear hb); (try clear hb2); (try clear hk); (try clear hi)))
       go_ret
       exact ⟨by first | rfl | (simp [errW_none, errW_some] <;> rfl) | (simp [*, errW_none, errW_some] <;> rfl), by repeat (first | (with_reducible first | exact HB.out | apply below_alloc | apply pw_below_drewN | apply below_drew1 | refine below_set ?_ GE191.out) | exact HB.out)⟩
      ·rw [if_neg c10] at H
       have c10b0 : decide (t193 < 0) = false := decide_eq_false c10
       clear c10
       by_cases c13 : 0 ≤ t193
       ·rw [if_pos c13] at H
        have c13b0 : decide (0 ≤ t193) = true := decide_eq_true c13
        clear c13
        by_cases c14 : t193 < (l0_0.length : Int)
        ·rw [if_pos c14] at H
         have c14b0 : decide (t193 < (l0_0.length : Int)) = true := decide_eq_true c14
         clear c14
         by_cases c15 : ((rd_T52 l0_0 t193).f4) = 0
         ·rw [if_pos c15] at H
          have c15b0 : (((rd_T52 l0_0 t193).f4) == 0) = true := beq_iff_eq.mpr c15
          have c15b1 : (((rd_T52 l0_0 t193).f4) != 0) = false := bne_eq_false_iff_eq.mpr c15
          clear c15
          have H' := Aside0.mk H
          clear H
          obtain ⟨hcz16_0, hcz16_1, hfz16_0, hfz16_1⟩ := z2 BK191.out
          go_wp2_with (first | ((with_reducible refine gate_callee (f := 48) rfl ?_); refine goesL_ (some 16) rfl rfl Try.func48 (by kernel_rfl) rfl #[.agg #[.slice A0_0 l0_0.length c0_0, .int .i64 a0_1], .int .i64 x1_1] rfl (by (try simp only [List.map_toArray, List.map_cons, List.map_nil]); first | done | rfl | (simp only [List.length_drop, List.length_take]; rfl)) ?_; (with_reducible refine (spec_l10At.calls k1 _ _ l0_0 a0_1 x1_1 t193 _ ?side1 ?side2 A9.out).mono ?_); (case side1 => exact pc (Kd.C_below HR0_0.out HB.out)); (case side2 => exact HC0_0.out); rintro e w17 ⟨rfl, hb⟩; refine ⟨_, rfl, ?_⟩; have n0_ := Aside0.mk (pb BK191.out hb); have n1_ := Aside0.mk (below_step (pl1 HB.out GE191.out) hb); clear BK191; clear HB; have BK191 := n0_; have HB := n1_; clear n0_ n1_; (try clear hb); (try clear hb2); (try clear hk); (try clear hi); have hcz18_0 : w17.cell? ⟨gb191, 0, none⟩ = some (.slice A0_0 l0_0.length c0_0) := (blk_cell BK191.out 0).trans rfl; have hcz18_1 : w17.cell? ⟨gb191, 1, none⟩ = some (.int .i64 a0_1) := (blk_cell BK191.out 1).trans rfl; have hfz18_0 := blk_frozen BK191.out 0; have hfz18_1 := blk_frozen BK191.out 1; have p194 : 0 ≤ (t193 : Int) := oda; have q194 : t193 < (l0_0.length : Int) := oda; obtain ⟨ad194, A194_7, c194_7, e194, hx194_0, hx194_1, hx194_2, hx194_3, hx194_4, hx194_5, hx194_6, hx194_7, hx194_8, hl194_7, hi194_7⟩ := at_T52 HR0_0.out t193 p194 q194; cases e194; replace hx194_0 := hbc HB.out hx194_0; replace hx194_1 := hbc HB.out hx194_1; replace hx194_2 := hbc HB.out hx194_2; replace hx194_3 := hbc HB.out hx194_3; replace hx194_4 := hbc HB.out hx194_4; replace hx194_5 := hbc HB.out hx194_5; replace hx194_6 := hbc HB.out hx194_6; replace hx194_7 := hbc HB.out hx194_7; replace hx194_8 := hbc HB.out hx194_8; have HR194_7 := Aside0.mk hi194_7; have HC194_7 := Aside0.mk hl194_7; clear hi194_7 hl194_7; replace p194 := eq_true p194; replace q194 := eq_true q194; have p195 : 0 ≤ (t193 : Int) := oda; have q195 : t193 < (l0_0.length : Int) := oda; obtain ⟨ad195, A195_7, c195_7, e195, hx195_0, hx195_1, hx195_2, hx195_3, hx195_4, hx195_5, hx195_6, hx195_7, hx195_8, hl195_7, hi195_7⟩ := at_T52 HR0_0.out t193 p195 q195; obtain rfl : ad194 = ad195 := (by injection e195); replace hx195_0 := hbc HB.out hx195_0; replace hx195_1 := hbc HB.out hx195_1; replace hx195_2 := hbc HB.out hx195_2; replace hx195_3 := hbc HB.out hx195_3; replace hx195_4 := hbc HB.out hx195_4; replace hx195_5 := hbc HB.out hx195_5; replace hx195_6 := hbc HB.out hx195_6; replace hx195_7 := hbc HB.out hx195_7; replace hx195_8 := hbc HB.out hx195_8; have HR195_7 := Aside0.mk hi195_7; have HC195_7 := Aside0.mk hl195_7; clear hi195_7 hl195_7; replace p195 := eq_true p195; replace q195 := eq_true q195; have ea_ := Option.some.inj (hx194_7.symm.trans hx195_7); injection ea_ with ea_ en_ ec_; subst ea_; subst ec_; clear en_))
          go_roundg k1
          case measure => have := HK1.out; omega
          case rel => exact ⟨((rd_T52 l0_0 t193).f1), (wrap64 (x5_1 + 1)), eqa, eqa, H', ⟨by have := HK1.out; omega⟩, ⟨pk BK191.out⟩, ⟨pl1 HB.out GE191.out⟩⟩
         ·rw [if_neg c15] at H
          have c15b0 : (((rd_T52 l0_0 t193).f4) == 0) = false := beq_eq_false_iff_ne.mpr c15
          have c15b1 : (((rd_T52 l0_0 t193).f4) != 0) = true := bne_iff_ne.mpr c15
          obtain rfl := Option.some.inj H
          obtain ⟨hcz19_0, hcz19_1, hfz19_0, hfz19_1⟩ := z2 BK191.out
          go_wp2_with (first | ((with_reducible refine gate_callee (f := 48) rfl ?_); refine goesL_ (some 16) rfl rfl Try.func48 (by kernel_rfl) rfl #[.agg #[.slice A0_0 l0_0.length c0_0, .int .i64 a0_1], .int .i64 x1_1] rfl (by (try simp only [List.map_toArray, List.map_cons, List.map_nil]); first | done | rfl | (simp only [List.length_drop, List.length_take]; rfl)) ?_; (with_reducible refine (spec_l10At.calls k1 _ _ l0_0 a0_1 x1_1 t193 _ ?side1 ?side2 A9.out).mono ?_); (case side1 => exact pc (Kd.C_below HR0_0.out HB.out)); (case side2 => exact HC0_0.out); rintro e w20 ⟨rfl, hb⟩; refine ⟨_, rfl, ?_⟩; have n0_ := Aside0.mk (pb BK191.out hb); have n1_ := Aside0.mk (below_step (pl1 HB.out GE191.out) hb); clear BK191; clear HB; have BK191 := n0_; have HB := n1_; clear n0_ n1_; (try clear hb); (try clear hb2); (try clear hk); (try clear hi); have hcz21_0 : w20.cell? ⟨gb191, 0, none⟩ = some (.slice A0_0 l0_0.length c0_0) := (blk_cell BK191.out 0).trans rfl; have hcz21_1 : w20.cell? ⟨gb191, 1, none⟩ = some (.int .i64 a0_1) := (blk_cell BK191.out 1).trans rfl; have hfz21_0 := blk_frozen BK191.out 0; have hfz21_1 := blk_frozen BK191.out 1; have p194 : 0 ≤ (t193 : Int) := oda; have q194 : t193 < (l0_0.length : Int) := oda; obtain ⟨ad194, A194_7, c194_7, e194, hx194_0, hx194_1, hx194_2, hx194_3, hx194_4, hx194_5, hx194_6, hx194_7, hx194_8, hl194_7, hi194_7⟩ := at_T52 HR0_0.out t193 p194 q194; cases e194; replace hx194_0 := hbc HB.out hx194_0; replace hx194_1 := hbc HB.out hx194_1; replace hx194_2 := hbc HB.out hx194_2; replace hx194_3 := hbc HB.out hx194_3; replace hx194_4 := hbc HB.out hx194_4; replace hx194_5 := hbc HB.out hx194_5; replace hx194_6 := hbc HB.out hx194_6; replace hx194_7 := hbc HB.out hx194_7; replace hx194_8 := hbc HB.out hx194_8; have HR194_7 := Aside0.mk hi194_7; have HC194_7 := Aside0.mk hl194_7; clear hi194_7 hl194_7; replace p194 := eq_true p194; replace q194 := eq_true q194; have p196 : 0 ≤ (t193 : Int) := oda; have q196 : t193 < (l0_0.length : Int) := oda; obtain ⟨ad196, A196_7, c196_7, e196, hx196_0, hx196_1, hx196_2, hx196_3, hx196_4, hx196_5, hx196_6, hx196_7, hx196_8, hl196_7, hi196_7⟩ := at_T52 HR0_0.out t193 p196 q196; obtain rfl : ad194 = ad196 := (by injection e196); replace hx196_0 := hbc HB.out hx196_0; replace hx196_1 := hbc HB.out hx196_1; replace hx196_2 := hbc HB.out hx196_2; replace hx196_3 := hbc HB.out hx196_3; replace hx196_4 := hbc HB.out hx196_4; replace hx196_5 := hbc HB.out hx196_5; replace hx196_6 := hbc HB.out hx196_6; replace hx196_7 := hbc HB.out hx196_7; replace hx196_8 := hbc HB.out hx196_8; have HR196_7 := Aside0.mk hi196_7; have HC196_7 := Aside0.mk hl196_7; clear hi196_7 hl196_7; replace p196 := eq_true p196; replace q196 := eq_true q196; have ea_ := Option.some.inj (hx194_7.symm.trans hx196_7); injection ea_ with ea_ en_ ec_; subst ea_; subst ec_; clear en_))
          go_ret
          exact ⟨by first | rfl | (simp [errW_none, errW_some] <;> rfl) | (simp [*, errW_none, errW_some] <;> rfl), by repeat (first | (with_reducible first | exact HB.out | apply below_alloc | apply pw_below_drewN | apply below_drew1 | refine below_set ?_ GE191.out) | exact HB.out)⟩
        ·rw [if_neg c14] at H
         exact absurd H (by simp)
       ·rw [if_neg c13] at H
        exact absurd H (by simp)
     ·rw [if_neg c8] at H
      have c8b0 : decide (x5_1 ≤ 14) = false := decide_eq_false c8
      clear c8
      obtain rfl := Option.some.inj H
      go_wp2
      go_ret
      exact ⟨by first | rfl | (simp [errW_none, errW_some] <;> rfl) | (simp [*, errW_none, errW_some] <;> rfl), by repeat (first | (with_reducible first | exact HB.out | apply below_alloc | apply pw_below_drewN | apply below_drew1 | refine below_set ?_ GE191.out) | exact HB.out)⟩
  ·replace c4 := Bool.eq_false_iff.mpr c4
   subst c4
   have H1 : (some 0) = some r := by rw [if_neg (show ¬ (false = true) by decide)] at H; exact H
   clear H
   have H := H1
   clear H1
   obtain rfl := Option.some.inj H
   go_enter Try.func16, Try.ntmps16
   go_wp2_with (first | ((with_reducible refine gate_dst (N := 2) rfl ?_); refine box_event ?hg (N := 2) ?hd (cs := #[.slice A0_0 l0_0.length c0_0, .int .i64 a0_1]) (t := 29) ?hr ?_; (case hd => rfl); (case hg => rfl); (case hr => first | (go_simp; done) | (go_simp; rfl)); intro gb191 hg w22 hbox hb; have n0_ := Aside0.mk (below_step (pl0 HB.out) hb); have n1_ := Aside0.mk (hbox); have n2_ := Aside0.mk ((by rw [hg]; exact (below_size (pl0 HB.out)) : w.heap.size ≤ gb191)); have n3_ := Aside0.mk ((by rw [hg]; exact (below_size (pl0 HB.out)) : w.heap.size ≤ gb191)); clear HB; have HB := n0_; have BK191 := n1_; have GW191 := n2_; have GE191 := n3_; clear n0_ n1_ n2_ n3_; clear hb hbox hg; have hcz23_0 : w22.cell? ⟨gb191, 0, none⟩ = some (.slice A0_0 l0_0.length c0_0) := (blk_cell BK191.out 0).trans rfl; have hcz23_1 : w22.cell? ⟨gb191, 1, none⟩ = some (.int .i64 a0_1) := (blk_cell BK191.out 1).trans rfl; have hfz23_0 := blk_frozen BK191.out 0; have hfz23_1 := blk_frozen BK191.out 1) | ((with_reducible refine gate_callee (f := 12) rfl ?_); refine goesL_ (some 8) rfl rfl Try.func12 (by kernel_rfl) rfl #[.agg #[.slice A0_0 l0_0.length c0_0, .int .i64 a0_1]] rfl (by (try simp only [List.map_toArray, List.map_cons, List.map_nil]); first | done | rfl | (simp only [List.length_drop, List.length_take]; rfl)) ?_; (with_reducible refine (spec_TreeOk.calls k _ _ l0_0 a0_1 false _ ?side1 ?side2 A3.out).mono ?_); (case side1 => exact pc (Kd.C_below HR0_0.out HB.out)); (case side2 => exact HC0_0.out); rintro e w24 ⟨rfl, hb⟩; refine ⟨_, rfl, ?_⟩; have n0_ := Aside0.mk (pb BK191.out hb); have n1_ := Aside0.mk (below_step (pl1 HB.out GE191.out) hb); clear BK191; clear HB; have BK191 := n0_; have HB := n1_; clear n0_ n1_; (try clear hb); (try clear hb2); (try clear hk); (try clear hi)))
   go_ret
   exact ⟨by first | rfl | (simp [errW_none, errW_some] <;> rfl) | (simp [*, errW_none, errW_some] <;> rfl), by repeat (first | (with_reducible first | exact HB.out | apply below_alloc | apply pw_below_drewN | apply below_drew1 | refine below_set ?_ GE191.out) | exact HB.out)⟩

end Go.Proofs.Ytnhbfbgflgplcaa.QTS
