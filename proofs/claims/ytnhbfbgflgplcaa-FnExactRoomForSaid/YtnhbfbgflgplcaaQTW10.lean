/- Walks, as the kit's print writes them, run with stubs of my own and mended: TW. -/
import Derived.Test.YtnhbfbgflgplcaaQTW0
import Derived.Test.YtnhbfbgflgplcaaQTW5
import Derived.Test.YtnhbfbgflgplcaaQTW8
import Derived.Test.YtnhbfbgflgplcaaQTW9
namespace Go.Proofs.Ytnhbfbgflgplcaa.QTW
open Go.Proofs.YtnhbfbgflgplcaaW Go.Proofs.YtnhbfbgflgplcaaW.Zip
open Go.RowKit Go.Proofs.YtnhbfbgflgplcaaW.PrintWords Go.Proofs.YtnhbfbgflgplcaaW.PrintLast Go.Proofs.YtnhbfbgflgplcaaW.PrintMore
attribute [local go_sem] max2_int min2_int max_two min_two max_three min_three max_four min_four   -- for this text's walks alone
set_option linter.unusedVariables false
set_option linter.unusedSimpArgs false

/-! ### spec_RoomFor: function 20 -/
def spec_RoomFor.l0 : Nat → Int → Int → Int → List (S52) → Int → Option (Bool)
  | 0, _, _, _, _, _ => none
  | k + 1, x1, x2, x7, x217000, x217001 => if x7 ≤ 14 then ((spec_l10At.f k x217000 x217001 x1).bind fun t218 => (if t218 < 0 then (some (decide (x7 > 0))) else (if 0 ≤ t218 then (if t218 < (x217000.length : Int) then (if (rd_T52 x217000 t218).f3 = true then (if ((rd_T52 x217000 t218).f5) > 0 then ((spec_UsedBelow.f k x217000 x217001 x1).bind fun t222 => (if x2 > (wrap64 (((rd_T52 x217000 t218).f5) - t222)) then (some false) else (spec_RoomFor.l0 k ((rd_T52 x217000 t218).f1) x2 (wrap64 (x7 + 1)) x217000 x217001))) else (spec_RoomFor.l0 k ((rd_T52 x217000 t218).f1) x2 (wrap64 (x7 + 1)) x217000 x217001)) else (spec_RoomFor.l0 k ((rd_T52 x217000 t218).f1) x2 (wrap64 (x7 + 1)) x217000 x217001)) else (none)) else (none)))) else (some false)
def spec_RoomFor.f (k : Nat) (l0_0 : List (S52)) (a0_1 : Int) (a1 : Int) (a2 : Int) : Option (Bool) := (spec_TreeOk.f k l0_0 a0_1).bind fun t217 => (if t217 = true then (spec_RoomFor.l0 k a1 a2 0 l0_0 a0_1) else (some false))
theorem spec_RoomFor.mono_l : ∀ k, (∀ y0 y1 y2 y3 y4, LeO (spec_RoomFor.l0 k y0 y1 y2 y3 y4) (spec_RoomFor.l0 (k + 1) y0 y1 y2 y3 y4))
  | 0 => fun _ _ _ _ _ r h => by simp [spec_RoomFor.l0] at h
  | k + 1 => by
    have ih0 := spec_RoomFor.mono_l k
    · intro y0 y1 y2 y3 y4
      unfold spec_RoomFor.l0
      repeat' first
      | (with_reducible exact ih0 _ _ _ _ _)
      | (with_reducible exact spec_TreeOk.mono _ _ _)
      | (with_reducible exact spec_UsedBelow.mono _ _ _ _)
      | (with_reducible exact spec_l10At.mono _ _ _ _)
      | (with_reducible exact LeO.refl _)
      | (with_reducible exact LeO.none _)
      | (with_reducible refine LeO.ite ?_ ?_)
      | (with_reducible refine LeO.bind ?_ (fun _ => ?_))
      | exact ih0 _ _ _ _ _
      | exact spec_TreeOk.mono _ _ _
      | exact spec_UsedBelow.mono _ _ _ _
      | exact spec_l10At.mono _ _ _ _
      | exact LeO.none _
      | refine LeO.ite ?_ ?_
      | refine LeO.bind ?_ (fun _ => ?_)
theorem spec_RoomFor.mono : ∀ a0 a1 a2 a3 k, LeO (spec_RoomFor.f k a0 a1 a2 a3) (spec_RoomFor.f (k + 1) a0 a1 a2 a3) := by
  intro a0 a1 a2 a3 k
  have ih0 := spec_RoomFor.mono_l k
  unfold spec_RoomFor.f
  repeat' first
      | (with_reducible exact ih0 _ _ _ _ _)
      | (with_reducible exact spec_TreeOk.mono _ _ _)
      | (with_reducible exact spec_UsedBelow.mono _ _ _ _)
      | (with_reducible exact spec_l10At.mono _ _ _ _)
      | (with_reducible exact LeO.refl _)
      | (with_reducible exact LeO.none _)
      | (with_reducible refine LeO.ite ?_ ?_)
      | (with_reducible refine LeO.bind ?_ (fun _ => ?_))
      | exact ih0 _ _ _ _ _
      | exact spec_TreeOk.mono _ _ _
      | exact spec_UsedBelow.mono _ _ _ _
      | exact spec_l10At.mono _ _ _ _
      | exact LeO.none _
      | refine LeO.ite ?_ ?_
      | refine LeO.bind ?_ (fun _ => ?_)
def spec_RoomFor.T9 : Bool × List (List Nat × List Nat) := (true, [([], []), ([0], [0]), ([], []), ([1, 2], [1, 2]), ([3], [3]), ([4], [4]), ([5], [5]), ([6], [6]), ([7, 6], [6, 7]), ([6], [6]), ([8, 9, 6], [6, 8, 9]), ([10, 6], [6, 10]), ([11, 6], [6, 11]), ([12, 6], [6, 12]), ([6, 13], [6, 13]), ([14, 6], [14]), ([15], [15]), ([15], [15]), ([17, 15], [15, 17]), ([15], [15]), ([18, 19, 15], [15, 18, 19]), ([20, 15], [15, 20]), ([21, 15], [15, 21]), ([15], [15]), ([15], [15]), ([23, 24, 15, 15], [15, 23, 24]), ([22, 25, 15], [15, 22, 25]), ([16, 26, 15], [15, 16, 26]), ([15, 27], [15, 27])])
def spec_RoomFor.B9 : List Nat := [0, 1, 0, 7, 15, 31, 63, 127, 255, 127, 1023, 2047, 4095, 8191, 16383, 32767, 65535, 65535, 196607, 65535, 983039, 2031615, 4128767, 65535, 65535, 25231359, 67043327, 134217727, 268435455]
theorem spec_RoomFor.tab9 : rtab .any (opsOf Try.f20 9) = spec_RoomFor.T9 := by kernel_rfl
theorem spec_RoomFor.bits9 : waitsOk spec_RoomFor.T9.2 spec_RoomFor.B9 = true := by kernel_rfl
set_option maxHeartbeats 8000000 in
set_option maxRecDepth 100000 in
theorem spec_RoomFor.calls (k : Nat) (A0_0 : Option Addr) (c0_0 : Nat) (l0_0 : List (S52)) (a0_1 : Int) (a1 : Int) (a2 : Int) (r : Bool) (w : World) (hr0_0 : Kd.C k52 w A0_0 l0_0.length l0_0) (hc0_0 : l0_0.length ≤ c0_0) (h : spec_RoomFor.f k l0_0 a0_1 a1 a2 = some r) :
    Calls Try.prog 20 #[.agg #[.slice A0_0 l0_0.length c0_0, .int .i64 a0_1], .int .i64 a1, .int .i64 a2] w fun e w' => e = .returned (.bool r) ∧ Below w.heap.size w w' := by
  have hu29 := Try.underlying29
  have HR0_0 := Aside0.mk hr0_0
  have HC0_0 := Aside0.mk hc0_0
  clear hr0_0 hc0_0
  have HB := Aside0.mk (Below.refl w.heap.size w)
  have H : ((spec_TreeOk.f k l0_0 a0_1).bind fun t217 => (if t217 = true then (spec_RoomFor.l0 k a1 a2 0 l0_0 a0_1) else (some false))) = some r := h
  clear h
  replace H := Option.bind_eq_some_iff.mp H
  obtain ⟨t217, A40, H⟩ := H
  replace H : (if t217 = true then (spec_RoomFor.l0 k a1 a2 0 l0_0 a0_1) else (some false)) = some r := H
  have A4 := Aside0.mk A40
  clear A40
  by_cases c5 : t217 = true
  ·subst c5
   have H1 : (spec_RoomFor.l0 k a1 a2 0 l0_0 a0_1) = some r := by rw [if_pos rfl] at H; exact H
   clear H
   have H := H1
   clear H1
   have H' := Aside0.mk H
   clear H
   go_enter Try.func20, Try.ntmps20
   go_wp2_with (first | ((with_reducible refine gate_dst (N := 3) rfl ?_); refine box_event ?hg (N := 3) ?hd (cs := #[.slice A0_0 l0_0.length c0_0, .int .i64 a0_1]) (t := 29) ?hr ?_; (case hd => rfl); (case hg => rfl); (case hr => first | (go_simp; done) | (go_simp; rfl)); intro gb216 hg w6 hbox hb; have n0_ := Aside0.mk (below_step (pl0 HB.out) hb); have n1_ := Aside0.mk (hbox); have n2_ := Aside0.mk ((by rw [hg]; exact (below_size (pl0 HB.out)) : w.heap.size ≤ gb216)); have n3_ := Aside0.mk ((by rw [hg]; exact (below_size (pl0 HB.out)) : w.heap.size ≤ gb216)); clear HB; have HB := n0_; have BK216 := n1_; have GW216 := n2_; have GE216 := n3_; clear n0_ n1_ n2_ n3_; clear hb hbox hg; have hcz7_0 : w6.cell? ⟨gb216, 0, none⟩ = some (.slice A0_0 l0_0.length c0_0) := (blk_cell BK216.out 0).trans rfl; have hcz7_1 : w6.cell? ⟨gb216, 1, none⟩ = some (.int .i64 a0_1) := (blk_cell BK216.out 1).trans rfl; have hfz7_0 := blk_frozen BK216.out 0; have hfz7_1 := blk_frozen BK216.out 1) | ((with_reducible refine gate_callee (f := 12) rfl ?_); refine goesL_ (some 10) rfl rfl Try.func12 (by kernel_rfl) rfl #[.agg #[.slice A0_0 l0_0.length c0_0, .int .i64 a0_1]] rfl (by (try simp only [List.map_toArray, List.map_cons, List.map_nil]); first | done | rfl | (simp only [List.length_drop, List.length_take]; rfl)) ?_; (with_reducible refine (spec_TreeOk.calls k _ _ l0_0 a0_1 true _ ?side1 ?side2 A4.out).mono ?_); (case side1 => exact pc (Kd.C_below HR0_0.out HB.out)); (case side2 => exact HC0_0.out); rintro e w8 ⟨rfl, hb⟩; refine ⟨_, rfl, ?_⟩; have n0_ := Aside0.mk (pb BK216.out hb); have n1_ := Aside0.mk (below_step (pl1 HB.out GE216.out) hb); clear BK216; clear HB; have BK216 := n0_; have HB := n1_; clear n0_ n1_; (try clear hb); (try clear hb2); (try clear hk); (try clear hi)))
   go_loopg [1, 7] k (fun kq v1 v7 w' => ∃ (x1_1 : Int) (x7_1 : Int), v1 = .int .i64 x1_1 ∧ v7 = .int .i64 x7_1 ∧ Aside0 (spec_RoomFor.l0 kq x1_1 a2 x7_1 l0_0 a0_1 = some r) ∧ Aside0 (kq ≤ k) ∧ Aside0 (w'.heap[gb216]? = some (.cells #[(.slice A0_0 l0_0.length c0_0), .int .i64 a0_1] 29 (0, 0))) ∧ Aside0 (Below w.heap.size w w'))
   case atStart => exact ⟨(a1), (0), eqa, eqa, H', ⟨Nat.le_refl _⟩, ⟨pk BK216.out⟩, ⟨pl1 HB.out GE216.out⟩⟩
   case round =>
    clear H'
    try clear c5; try clear hcz7_0; try clear hcz7_1; try clear hfz7_0; try clear hfz7_1
    obtain ⟨x1_1, x7_1, rfl, rfl, HA, HK1, BK216, HB⟩ := hrel
    cases gk with
    | zero => exact absurd HA.out (by simp [spec_RoomFor.l0])
    | succ k1 =>
     have H := HA.out
     clear HA
     simp only [spec_RoomFor.l0] at H
     by_cases c9 : x7_1 ≤ 14
     ·rw [if_pos c9] at H
      have c9b0 : decide (x7_1 ≤ 14) = true := decide_eq_true c9
      clear c9
      replace H := Option.bind_eq_some_iff.mp H
      obtain ⟨t218, A100, H⟩ := H
      replace H : (if t218 < 0 then (some (decide (x7_1 > 0))) else (if 0 ≤ t218 then (if t218 < (l0_0.length : Int) then (if (rd_T52 l0_0 t218).f3 = true then (if ((rd_T52 l0_0 t218).f5) > 0 then ((spec_UsedBelow.f k1 l0_0 a0_1 x1_1).bind fun t222 => (if a2 > (wrap64 (((rd_T52 l0_0 t218).f5) - t222)) then (some false) else (spec_RoomFor.l0 k1 ((rd_T52 l0_0 t218).f1) a2 (wrap64 (x7_1 + 1)) l0_0 a0_1))) else (spec_RoomFor.l0 k1 ((rd_T52 l0_0 t218).f1) a2 (wrap64 (x7_1 + 1)) l0_0 a0_1)) else (spec_RoomFor.l0 k1 ((rd_T52 l0_0 t218).f1) a2 (wrap64 (x7_1 + 1)) l0_0 a0_1)) else (none)) else (none))) = some r := H
      have A10 := Aside0.mk A100
      clear A100
      by_cases c11 : t218 < 0
      ·rw [if_pos c11] at H
       have c11b0 : decide (t218 < 0) = true := decide_eq_true c11
       clear c11
       obtain rfl := Option.some.inj H
       obtain ⟨hcz12_0, hcz12_1, hfz12_0, hfz12_1⟩ := z2 BK216.out
       go_wp2_with (first | ((with_reducible refine gate_callee (f := 48) rfl ?_); refine goesL_ (some 18) rfl rfl Try.func48 (by kernel_rfl) rfl #[.agg #[.slice A0_0 l0_0.length c0_0, .int .i64 a0_1], .int .i64 x1_1] rfl (by (try simp only [List.map_toArray, List.map_cons, List.map_nil]); first | done | rfl | (simp only [List.length_drop, List.length_take]; rfl)) ?_; (with_reducible refine (spec_l10At.calls k1 _ _ l0_0 a0_1 x1_1 t218 _ ?side1 ?side2 A10.out).mono ?_); (case side1 => exact pc (Kd.C_below HR0_0.out HB.out)); (case side2 => exact HC0_0.out); rintro e w13 ⟨rfl, hb⟩; refine ⟨_, rfl, ?_⟩; have n0_ := Aside0.mk (pb BK216.out hb); have n1_ := Aside0.mk (below_step (pl1 HB.out GE216.out) hb); clear BK216; clear HB; have BK216 := n0_; have HB := n1_; clear n0_ n1_; (try clear hb); (try clear hb2); (try clear hk); (try clear hi)))
       go_ret
       exact ⟨erq, pl1 HB.out GE216.out⟩
      ·rw [if_neg c11] at H
       have c11b0 : decide (t218 < 0) = false := decide_eq_false c11
       clear c11
       by_cases c14 : 0 ≤ t218
       ·rw [if_pos c14] at H
        have c14b0 : decide (0 ≤ t218) = true := decide_eq_true c14
        clear c14
        by_cases c15 : t218 < (l0_0.length : Int)
        ·rw [if_pos c15] at H
         have c15b0 : decide (t218 < (l0_0.length : Int)) = true := decide_eq_true c15
         clear c15
         by_cases c16 : (rd_T52 l0_0 t218).f3 = true
         ·rw [if_pos c16] at H
          have c16b0 : (rd_T52 l0_0 t218).f3 = true := c16
          clear c16
          by_cases c17 : ((rd_T52 l0_0 t218).f5) > 0
          ·rw [if_pos c17] at H
           have c17b0 : decide (0 < ((rd_T52 l0_0 t218).f5)) = true := decide_eq_true c17
           clear c17
           replace H := Option.bind_eq_some_iff.mp H
           obtain ⟨t222, A180, H⟩ := H
           replace H : (if a2 > (wrap64 (((rd_T52 l0_0 t218).f5) - t222)) then (some false) else (spec_RoomFor.l0 k1 ((rd_T52 l0_0 t218).f1) a2 (wrap64 (x7_1 + 1)) l0_0 a0_1)) = some r := H
           have A18 := Aside0.mk A180
           clear A180
           by_cases c19 : a2 > (wrap64 (((rd_T52 l0_0 t218).f5) - t222))
           ·rw [if_pos c19] at H
            have c19b0 : decide ((wrap64 (((rd_T52 l0_0 t218).f5) - t222)) < a2) = true := decide_eq_true c19
            clear c19
            obtain rfl := Option.some.inj H
            obtain ⟨hcz20_0, hcz20_1, hfz20_0, hfz20_1⟩ := z2 BK216.out
            try go_wp2_with (first | ((with_reducible refine gate_callee (f := 48) rfl ?_); refine goesL_ (some 18) rfl rfl Try.func48 (by kernel_rfl) rfl #[.agg #[.slice A0_0 l0_0.length c0_0, .int .i64 a0_1], .int .i64 x1_1] rfl (by (try simp only [List.map_toArray, List.map_cons, List.map_nil]); first | done | rfl | (simp only [List.length_drop, List.length_take]; rfl)) ?_; (with_reducible refine (spec_l10At.calls k1 _ _ l0_0 a0_1 x1_1 t218 _ ?side1 ?side2 A10.out).mono ?_); (case side1 => exact pc (Kd.C_below HR0_0.out HB.out)); (case side2 => exact HC0_0.out); rintro e w21 ⟨rfl, hb⟩; refine ⟨_, rfl, ?_⟩; have n0_ := Aside0.mk (pb BK216.out hb); have n1_ := Aside0.mk (below_step (pl1 HB.out GE216.out) hb); clear BK216; clear HB; have BK216 := n0_; have HB := n1_; clear n0_ n1_; (try clear hb); (try clear hb2); (try clear hk); (try clear hi)))
            have n0_ := Aside0.mk (blk_drew BK216.out)
            have n1_ := Aside0.mk (below_drew1 HB.out)
            clear BK216
            clear HB
            have BK216 := n0_
            have HB := n1_
            clear n0_ n1_
            have p219 : 0 ≤ (t218 : Int) := oda
            have q219 : t218 < (l0_0.length : Int) := oda
            obtain ⟨ad219, A219_7, c219_7, e219, hx219_0, hx219_1, hx219_2, hx219_3, hx219_4, hx219_5, hx219_6, hx219_7, hx219_8, hl219_7, hi219_7⟩ := at_T52 HR0_0.out t218 p219 q219
            have hw219_8 := hx219_8
            have hw219_7 := hx219_7
            have hw219_6 := hx219_6
            have hw219_5 := hx219_5
            have hw219_4 := hx219_4
            have hw219_3 := hx219_3
            have hw219_2 := hx219_2
            have hw219_1 := hx219_1
            have hw219_0 := hx219_0
            cases e219
            replace hx219_0 := hbc HB.out hx219_0
            replace hx219_1 := hbc HB.out hx219_1
            replace hx219_2 := hbc HB.out hx219_2
            replace hx219_3 := hbc HB.out hx219_3
            replace hx219_4 := hbc HB.out hx219_4
            replace hx219_5 := hbc HB.out hx219_5
            replace hx219_6 := hbc HB.out hx219_6
            replace hx219_7 := hbc HB.out hx219_7
            replace hx219_8 := hbc HB.out hx219_8
            have HR219_7 := Aside0.mk hi219_7
            have HC219_7 := Aside0.mk hl219_7
            clear hi219_7 hl219_7
            replace p219 := eq_true p219
            replace q219 := eq_true q219
            have p220 : 0 ≤ (t218 : Int) := oda
            have q220 : t218 < (l0_0.length : Int) := oda
            obtain ⟨ad220, A220_7, c220_7, e220, hx220_0, hx220_1, hx220_2, hx220_3, hx220_4, hx220_5, hx220_6, hx220_7, hx220_8, hl220_7, hi220_7⟩ := at_T52 HR0_0.out t218 p220 q220
            have hw220_8 := hx220_8
            have hw220_7 := hx220_7
            have hw220_6 := hx220_6
            have hw220_5 := hx220_5
            have hw220_4 := hx220_4
            have hw220_3 := hx220_3
            have hw220_2 := hx220_2
            have hw220_1 := hx220_1
            have hw220_0 := hx220_0
            obtain rfl : ad219 = ad220 := (by injection e220)
            replace hx220_0 := hbc HB.out hx220_0
            replace hx220_1 := hbc HB.out hx220_1
            replace hx220_2 := hbc HB.out hx220_2
            replace hx220_3 := hbc HB.out hx220_3
            replace hx220_4 := hbc HB.out hx220_4
            replace hx220_5 := hbc HB.out hx220_5
            replace hx220_6 := hbc HB.out hx220_6
            replace hx220_7 := hbc HB.out hx220_7
            replace hx220_8 := hbc HB.out hx220_8
            have HR220_7 := Aside0.mk hi220_7
            have HC220_7 := Aside0.mk hl220_7
            clear hi220_7 hl220_7
            replace p220 := eq_true p220
            replace q220 := eq_true q220
            have ea_ := Option.some.inj (hx219_7.symm.trans hx220_7)
            injection ea_ with ea_ en_ ec_
            subst ea_
            subst ec_
            clear en_
            have p221 : 0 ≤ (t218 : Int) := oda
            have q221 : t218 < (l0_0.length : Int) := oda
            obtain ⟨ad221, A221_7, c221_7, e221, hx221_0, hx221_1, hx221_2, hx221_3, hx221_4, hx221_5, hx221_6, hx221_7, hx221_8, hl221_7, hi221_7⟩ := at_T52 HR0_0.out t218 p221 q221
            have hw221_8 := hx221_8
            have hw221_7 := hx221_7
            have hw221_6 := hx221_6
            have hw221_5 := hx221_5
            have hw221_4 := hx221_4
            have hw221_3 := hx221_3
            have hw221_2 := hx221_2
            have hw221_1 := hx221_1
            have hw221_0 := hx221_0
            obtain rfl : ad219 = ad221 := (by injection e221)
            replace hx221_0 := hbc HB.out hx221_0
            replace hx221_1 := hbc HB.out hx221_1
            replace hx221_2 := hbc HB.out hx221_2
            replace hx221_3 := hbc HB.out hx221_3
            replace hx221_4 := hbc HB.out hx221_4
            replace hx221_5 := hbc HB.out hx221_5
            replace hx221_6 := hbc HB.out hx221_6
            replace hx221_7 := hbc HB.out hx221_7
            replace hx221_8 := hbc HB.out hx221_8
            have HR221_7 := Aside0.mk hi221_7
            have HC221_7 := Aside0.mk hl221_7
            clear hi221_7 hl221_7
            replace p221 := eq_true p221
            replace q221 := eq_true q221
            have ea_ := Option.some.inj (hx219_7.symm.trans hx221_7)
            injection ea_ with ea_ en_ ec_
            subst ea_
            subst ec_
            clear en_
            refine start_ (n := 29) (S := fun w' => w'.cell? ⟨gb216, 0, none⟩ = some (.slice (some ad219) l0_0.length c0_0) ∧ w'.cell? ⟨gb216, 1, none⟩ = some (.int .i64 a0_1) ∧ w'.cell? (ad219.add ((t218).toNat * 9)) = some (.int .i64 ((rd_T52 l0_0 t218).f0)) ∧ w'.cell? ⟨(ad219.add ((t218).toNat * 9)).block, (ad219.add ((t218).toNat * 9)).off + 1, none⟩ = some (.int .i64 ((rd_T52 l0_0 t218).f1)) ∧ w'.cell? ⟨(ad219.add ((t218).toNat * 9)).block, (ad219.add ((t218).toNat * 9)).off + 2, none⟩ = some (.string ((rd_T52 l0_0 t218).f2)) ∧ w'.cell? ⟨(ad219.add ((t218).toNat * 9)).block, (ad219.add ((t218).toNat * 9)).off + 3, none⟩ = some (.bool ((rd_T52 l0_0 t218).f3)) ∧ w'.cell? ⟨(ad219.add ((t218).toNat * 9)).block, (ad219.add ((t218).toNat * 9)).off + 4, none⟩ = some (.int .i64 ((rd_T52 l0_0 t218).f4)) ∧ w'.cell? ⟨(ad219.add ((t218).toNat * 9)).block, (ad219.add ((t218).toNat * 9)).off + 5, none⟩ = some (.int .i64 ((rd_T52 l0_0 t218).f5)) ∧ w'.cell? ⟨(ad219.add ((t218).toNat * 9)).block, (ad219.add ((t218).toNat * 9)).off + 6, none⟩ = some (.int .i64 ((rd_T52 l0_0 t218).f6)) ∧ w'.cell? ⟨(ad219.add ((t218).toNat * 9)).block, (ad219.add ((t218).toNat * 9)).off + 7, none⟩ = some (.slice A219_7 ((rd_T52 l0_0 t218).f7).length c219_7) ∧ w'.cell? ⟨(ad219.add ((t218).toNat * 9)).block, (ad219.add ((t218).toNat * 9)).off + 8, none⟩ = some (.int .i64 ((rd_T52 l0_0 t218).f8)) ∧ w'.cell? (ad219.add ((t218).toNat * 9)) = some (.int .i64 ((rd_T52 l0_0 t218).f0)) ∧ w'.cell? ⟨(ad219.add ((t218).toNat * 9)).block, (ad219.add ((t218).toNat * 9)).off + 1, none⟩ = some (.int .i64 ((rd_T52 l0_0 t218).f1)) ∧ w'.cell? ⟨(ad219.add ((t218).toNat * 9)).block, (ad219.add ((t218).toNat * 9)).off + 2, none⟩ = some (.string ((rd_T52 l0_0 t218).f2)) ∧ w'.cell? ⟨(ad219.add ((t218).toNat * 9)).block, (ad219.add ((t218).toNat * 9)).off + 3, none⟩ = some (.bool ((rd_T52 l0_0 t218).f3)) ∧ w'.cell? ⟨(ad219.add ((t218).toNat * 9)).block, (ad219.add ((t218).toNat * 9)).off + 4, none⟩ = some (.int .i64 ((rd_T52 l0_0 t218).f4)) ∧ w'.cell? ⟨(ad219.add ((t218).toNat * 9)).block, (ad219.add ((t218).toNat * 9)).off + 5, none⟩ = some (.int .i64 ((rd_T52 l0_0 t218).f5)) ∧ w'.cell? ⟨(ad219.add ((t218).toNat * 9)).block, (ad219.add ((t218).toNat * 9)).off + 6, none⟩ = some (.int .i64 ((rd_T52 l0_0 t218).f6)) ∧ w'.cell? ⟨(ad219.add ((t218).toNat * 9)).block, (ad219.add ((t218).toNat * 9)).off + 7, none⟩ = some (.slice A219_7 ((rd_T52 l0_0 t218).f7).length c219_7) ∧ w'.cell? ⟨(ad219.add ((t218).toNat * 9)).block, (ad219.add ((t218).toNat * 9)).off + 8, none⟩ = some (.int .i64 ((rd_T52 l0_0 t218).f8)) ∧ w'.cell? (ad219.add ((t218).toNat * 9)) = some (.int .i64 ((rd_T52 l0_0 t218).f0)) ∧ w'.cell? ⟨(ad219.add ((t218).toNat * 9)).block, (ad219.add ((t218).toNat * 9)).off + 1, none⟩ = some (.int .i64 ((rd_T52 l0_0 t218).f1)) ∧ w'.cell? ⟨(ad219.add ((t218).toNat * 9)).block, (ad219.add ((t218).toNat * 9)).off + 2, none⟩ = some (.string ((rd_T52 l0_0 t218).f2)) ∧ w'.cell? ⟨(ad219.add ((t218).toNat * 9)).block, (ad219.add ((t218).toNat * 9)).off + 3, none⟩ = some (.bool ((rd_T52 l0_0 t218).f3)) ∧ w'.cell? ⟨(ad219.add ((t218).toNat * 9)).block, (ad219.add ((t218).toNat * 9)).off + 4, none⟩ = some (.int .i64 ((rd_T52 l0_0 t218).f4)) ∧ w'.cell? ⟨(ad219.add ((t218).toNat * 9)).block, (ad219.add ((t218).toNat * 9)).off + 5, none⟩ = some (.int .i64 ((rd_T52 l0_0 t218).f5)) ∧ w'.cell? ⟨(ad219.add ((t218).toNat * 9)).block, (ad219.add ((t218).toNat * 9)).off + 6, none⟩ = some (.int .i64 ((rd_T52 l0_0 t218).f6)) ∧ w'.cell? ⟨(ad219.add ((t218).toNat * 9)).block, (ad219.add ((t218).toNat * 9)).off + 7, none⟩ = some (.slice A219_7 ((rd_T52 l0_0 t218).f7).length c219_7) ∧ w'.cell? ⟨(ad219.add ((t218).toNat * 9)).block, (ad219.add ((t218).toNat * 9)).off + 8, none⟩ = some (.int .i64 ((rd_T52 l0_0 t218).f8))) (ds := []) #[O,O,O,O,O,O,O,O,O,O,O,O,O,O,O,O,O,O,O,O,O,O,O,O,O,O,O,O,O] (by kernel_rfl) rfl rfl ⟨(blk_cell BK216.out 0).trans rfl, (blk_cell BK216.out 1).trans rfl, ((HB.out.cell (World.block_lt_of_cell? w _ hw219_0)).trans hw219_0), ((HB.out.cell (World.block_lt_of_cell? w _ hw219_1)).trans hw219_1), ((HB.out.cell (World.block_lt_of_cell? w _ hw219_2)).trans hw219_2), ((HB.out.cell (World.block_lt_of_cell? w _ hw219_3)).trans hw219_3), ((HB.out.cell (World.block_lt_of_cell? w _ hw219_4)).trans hw219_4), ((HB.out.cell (World.block_lt_of_cell? w _ hw219_5)).trans hw219_5), ((HB.out.cell (World.block_lt_of_cell? w _ hw219_6)).trans hw219_6), ((HB.out.cell (World.block_lt_of_cell? w _ hw219_7)).trans hw219_7), ((HB.out.cell (World.block_lt_of_cell? w _ hw219_8)).trans hw219_8), ((HB.out.cell (World.block_lt_of_cell? w _ hw220_0)).trans hw220_0), ((HB.out.cell (World.block_lt_of_cell? w _ hw220_1)).trans hw220_1), ((HB.out.cell (World.block_lt_of_cell? w _ hw220_2)).trans hw220_2), ((HB.out.cell (World.block_lt_of_cell? w _ hw220_3)).trans hw220_3), ((HB.out.cell (World.block_lt_of_cell? w _ hw220_4)).trans hw220_4), ((HB.out.cell (World.block_lt_of_cell? w _ hw220_5)).trans hw220_5), ((HB.out.cell (World.block_lt_of_cell? w _ hw220_6)).trans hw220_6), ((HB.out.cell (World.block_lt_of_cell? w _ hw220_7)).trans hw220_7), ((HB.out.cell (World.block_lt_of_cell? w _ hw220_8)).trans hw220_8), ((HB.out.cell (World.block_lt_of_cell? w _ hw221_0)).trans hw221_0), ((HB.out.cell (World.block_lt_of_cell? w _ hw221_1)).trans hw221_1), ((HB.out.cell (World.block_lt_of_cell? w _ hw221_2)).trans hw221_2), ((HB.out.cell (World.block_lt_of_cell? w _ hw221_3)).trans hw221_3), ((HB.out.cell (World.block_lt_of_cell? w _ hw221_4)).trans hw221_4), ((HB.out.cell (World.block_lt_of_cell? w _ hw221_5)).trans hw221_5), ((HB.out.cell (World.block_lt_of_cell? w _ hw221_6)).trans hw221_6), ((HB.out.cell (World.block_lt_of_cell? w _ hw221_7)).trans hw221_7), ((HB.out.cell (World.block_lt_of_cell? w _ hw221_8)).trans hw221_8)⟩ (fun hHeld => ?_); refine with_tabW spec_RoomFor.tab9 spec_RoomFor.bits9 (fun HT_ HW_ => ?_)
            generalize w21.drew = w22 at BK216 HB HR219_7 HR220_7 HR221_7 hx219_0 hx219_1 hx219_2 hx219_3 hx219_4 hx219_5 hx219_6 hx219_7 hx219_8 hx220_0 hx220_1 hx220_2 hx220_3 hx220_4 hx220_5 hx220_6 hx220_7 hx220_8 hx221_0 hx221_1 hx221_2 hx221_3 hx221_4 hx221_5 hx221_6 hx221_7 hx221_8 hHeld ⊢
            refine pz 0 23 #[Y,O,O,O,O,O,O,O,O,O,O,O,O,O,O,O,O,O,O,O,O,O,O,O,O,O,O,O,O] HT_ ?_
            refine pure_ (i := 2) (N := some 25) (v := ?_) (a' := ?_) #[Y,O,Y,O,O,O,O,O,O,O,O,O,O,O,O,O,O,O,O,O,O,O,O,O,O,O,O,O,O] rfl rfl (any_of HT_.out (by kernel_rfl)) (fun _ _ _ h => h) (Or.inl ⟨by rfl, ?_⟩) ?_ ?_
            rotate_left
            ·intro w'
             go_simp
             with_reducible rfl
            rotate_left
            ·simp only [Act.put, List.setIfInBounds_toArray, List.set_cons_zero, List.set_cons_succ, i64_w, i32_w]
             rfl
            refine take_ (i := 1) (N := some 24) (v := ?_) (a' := ?_) #[Y,Y,Y,O,O,O,O,O,O,O,O,O,O,O,O,O,O,O,O,O,O,O,O,O,O,O,O,O,O] rfl rfl (take_ofW HT_.out HW_.out (by kernel_rfl)) (fun _ _ _ h => h) (Or.inl ⟨by rfl, ?_⟩) hHeld ?_ ?_
            rotate_left
            ·rintro w' ⟨s0, s1, s2, s3, s4, s5, s6, s7, s8, s9, s10, s11, s12, s13, s14, s15, s16, s17, s18, s19, s20, s21, s22, s23, s24, s25, s26, s27, s28⟩
             go_simp
             with_reducible rfl
            rotate_left
            ·simp only [Act.put, List.setIfInBounds_toArray, List.set_cons_zero, List.set_cons_succ, i64_w, i32_w]
             rfl
            refine pz 3 26 #[Y,Y,Y,Y,O,O,O,O,O,O,O,O,O,O,O,O,O,O,O,O,O,O,O,O,O,O,O,O,O] HT_ ?_
            refine pz 4 27 #[Y,Y,Y,Y,Y,O,O,O,O,O,O,O,O,O,O,O,O,O,O,O,O,O,O,O,O,O,O,O,O] HT_ ?_
            refine tz 5 28 #[Y,Y,Y,Y,Y,Y,O,O,O,O,O,O,O,O,O,O,O,O,O,O,O,O,O,O,O,O,O,O,O] HT_ HW_ hHeld ?_ (hr := by rintro w' ⟨s0, s1, s2, s3, s4, s5, s6, s7, s8, s9, s10, s11, s12, s13, s14, s15, s16, s17, s18, s19, s20, s21, s22, s23, s24, s25, s26, s27, s28⟩; go_simp; with_reducible rfl)
            refine pz 6 29 #[Y,Y,Y,Y,Y,Y,Y,O,O,O,O,O,O,O,O,O,O,O,O,O,O,O,O,O,O,O,O,O,O] HT_ ?_
            refine pz 7 30 #[Y,Y,Y,Y,Y,Y,Y,Y,O,O,O,O,O,O,O,O,O,O,O,O,O,O,O,O,O,O,O,O,O] HT_ ?_
            refine pure_ (i := 9) (N := some 32) (v := ?_) (a' := ?_) #[Y,Y,Y,Y,Y,Y,Y,Y,O,Y,O,O,O,O,O,O,O,O,O,O,O,O,O,O,O,O,O,O,O] rfl rfl (any_of HT_.out (by kernel_rfl)) (fun _ _ _ h => h) (Or.inl ⟨by rfl, ?_⟩) ?_ ?_
            rotate_left
            ·intro w'
             go_simp
             with_reducible rfl
            rotate_left
            ·simp only [Act.put, List.setIfInBounds_toArray, List.set_cons_zero, List.set_cons_succ, i64_w, i32_w]
             rfl
            refine take_ (i := 8) (N := some 31) (v := ?_) (a' := ?_) #[Y,Y,Y,Y,Y,Y,Y,Y,Y,Y,O,O,O,O,O,O,O,O,O,O,O,O,O,O,O,O,O,O,O] rfl rfl (take_ofW HT_.out HW_.out (by kernel_rfl)) (fun _ _ _ h => h) (Or.inl ⟨by rfl, ?_⟩) hHeld ?_ ?_
            rotate_left
            ·rintro w' ⟨s0, s1, s2, s3, s4, s5, s6, s7, s8, s9, s10, s11, s12, s13, s14, s15, s16, s17, s18, s19, s20, s21, s22, s23, s24, s25, s26, s27, s28⟩
             go_simp
             with_reducible rfl
            rotate_left
            ·simp only [Act.put, List.setIfInBounds_toArray, List.set_cons_zero, List.set_cons_succ, i64_w, i32_w]
             rfl
            refine pz 10 33 #[Y,Y,Y,Y,Y,Y,Y,Y,Y,Y,Y,O,O,O,O,O,O,O,O,O,O,O,O,O,O,O,O,O,O] HT_ ?_
            refine pz 11 34 #[Y,Y,Y,Y,Y,Y,Y,Y,Y,Y,Y,Y,O,O,O,O,O,O,O,O,O,O,O,O,O,O,O,O,O] HT_ ?_
            refine tz 12 35 #[Y,Y,Y,Y,Y,Y,Y,Y,Y,Y,Y,Y,Y,O,O,O,O,O,O,O,O,O,O,O,O,O,O,O,O] HT_ HW_ hHeld ?_ (hr := by rintro w' ⟨s0, s1, s2, s3, s4, s5, s6, s7, s8, s9, s10, s11, s12, s13, s14, s15, s16, s17, s18, s19, s20, s21, s22, s23, s24, s25, s26, s27, s28⟩; go_simp; with_reducible rfl)
            refine pz 13 36 #[Y,Y,Y,Y,Y,Y,Y,Y,Y,Y,Y,Y,Y,Y,O,O,O,O,O,O,O,O,O,O,O,O,O,O,O] HT_ ?_
            refine pz 14 37 #[Y,Y,Y,Y,Y,Y,Y,Y,Y,Y,Y,Y,Y,Y,Y,O,O,O,O,O,O,O,O,O,O,O,O,O,O] HT_ ?_
            refine pz 15 38 #[Y,Y,Y,Y,Y,Y,Y,Y,Y,Y,Y,Y,Y,Y,Y,Y,O,O,O,O,O,O,O,O,O,O,O,O,O] HT_ ?_
            refine pz 16 39 #[Y,Y,Y,Y,Y,Y,Y,Y,Y,Y,Y,Y,Y,Y,Y,Y,Y,O,O,O,O,O,O,O,O,O,O,O,O] HT_ ?_
            refine pz 17 40 #[Y,Y,Y,Y,Y,Y,Y,Y,Y,Y,Y,Y,Y,Y,Y,Y,Y,Y,O,O,O,O,O,O,O,O,O,O,O] HT_ ?_
            refine pure_ (i := 19) (N := some 42) (v := ?_) (a' := ?_) #[Y,Y,Y,Y,Y,Y,Y,Y,Y,Y,Y,Y,Y,Y,Y,Y,Y,Y,O,Y,O,O,O,O,O,O,O,O,O] rfl rfl (any_of HT_.out (by kernel_rfl)) (fun _ _ _ h => h) (Or.inl ⟨by rfl, ?_⟩) ?_ ?_
            rotate_left
            ·intro w'
             go_simp
             with_reducible rfl
            rotate_left
            ·simp only [Act.put, List.setIfInBounds_toArray, List.set_cons_zero, List.set_cons_succ, i64_w, i32_w]
             rfl
            refine pure_ (i := 24) (N := some 47) (v := ?_) (a' := ?_) #[Y,Y,Y,Y,Y,Y,Y,Y,Y,Y,Y,Y,Y,Y,Y,Y,Y,Y,O,Y,O,O,O,O,Y,O,O,O,O] rfl rfl (any_of HT_.out (by kernel_rfl)) (fun _ _ _ h => h) (Or.inl ⟨by rfl, ?_⟩) ?_ ?_
            rotate_left
            ·intro w'
             go_simp
             with_reducible rfl
            rotate_left
            ·simp only [Act.put, List.setIfInBounds_toArray, List.set_cons_zero, List.set_cons_succ, i64_w, i32_w]
             rfl
            refine take_ (i := 18) (N := some 41) (v := ?_) (a' := ?_) #[Y,Y,Y,Y,Y,Y,Y,Y,Y,Y,Y,Y,Y,Y,Y,Y,Y,Y,Y,Y,O,O,O,O,Y,O,O,O,O] rfl rfl (take_ofW HT_.out HW_.out (by kernel_rfl)) (fun _ _ _ h => h) (Or.inl ⟨by rfl, ?_⟩) hHeld ?_ ?_
            rotate_left
            ·rintro w' ⟨s0, s1, s2, s3, s4, s5, s6, s7, s8, s9, s10, s11, s12, s13, s14, s15, s16, s17, s18, s19, s20, s21, s22, s23, s24, s25, s26, s27, s28⟩
             go_simp
             with_reducible rfl
            rotate_left
            ·simp only [Act.put, List.setIfInBounds_toArray, List.set_cons_zero, List.set_cons_succ, i64_w, i32_w]
             rfl
            refine pure_ (i := 20) (N := some 43) (v := ?_) (a' := ?_) #[Y,Y,Y,Y,Y,Y,Y,Y,Y,Y,Y,Y,Y,Y,Y,Y,Y,Y,Y,Y,Y,O,O,O,Y,O,O,O,O] rfl rfl (any_of HT_.out (by kernel_rfl)) (fun _ _ _ h => h) (Or.inl ⟨by rfl, ?_⟩) ?_ ?_
            rotate_left
            ·intro w'
             go_simp
             with_reducible rfl
            rotate_left
            ·simp only [Act.put, List.setIfInBounds_toArray, List.set_cons_zero, List.set_cons_succ, i64_w, i32_w]
             rfl
            refine pure_ (i := 21) (N := some 44) (v := ?_) (a' := ?_) #[Y,Y,Y,Y,Y,Y,Y,Y,Y,Y,Y,Y,Y,Y,Y,Y,Y,Y,Y,Y,Y,Y,O,O,Y,O,O,O,O] rfl rfl (any_of HT_.out (by kernel_rfl)) (fun _ _ _ h => h) (Or.inl ⟨by rfl, ?_⟩) ?_ ?_
            rotate_left
            ·intro w'
             go_simp
             with_reducible rfl
            rotate_left
            ·simp only [Act.put, List.setIfInBounds_toArray, List.set_cons_zero, List.set_cons_succ, i64_w, i32_w]
             rfl
            refine take_ (i := 22) (N := some 45) (v := ?_) (a' := ?_) #[Y,Y,Y,Y,Y,Y,Y,Y,Y,Y,Y,Y,Y,Y,Y,Y,Y,Y,Y,Y,Y,Y,Y,O,Y,O,O,O,O] rfl rfl (take_ofW HT_.out HW_.out (by kernel_rfl)) (fun _ _ _ h => h) (Or.inl ⟨by rfl, ?_⟩) hHeld ?_ ?_
            rotate_left
            ·rintro w' ⟨s0, s1, s2, s3, s4, s5, s6, s7, s8, s9, s10, s11, s12, s13, s14, s15, s16, s17, s18, s19, s20, s21, s22, s23, s24, s25, s26, s27, s28⟩
             go_simp
             with_reducible rfl
            rotate_left
            ·simp only [Act.put, List.setIfInBounds_toArray, List.set_cons_zero, List.set_cons_succ, i64_w, i32_w]
             rfl
            refine take_ (i := 23) (N := some 46) (v := ?_) (a' := ?_) #[Y,Y,Y,Y,Y,Y,Y,Y,Y,Y,Y,Y,Y,Y,Y,Y,Y,Y,Y,Y,Y,Y,Y,Y,Y,O,O,O,O] rfl rfl (take_ofW HT_.out HW_.out (by kernel_rfl)) (fun _ _ _ h => h) (Or.inl ⟨by rfl, ?_⟩) hHeld ?_ ?_
            rotate_left
            ·rintro w' ⟨s0, s1, s2, s3, s4, s5, s6, s7, s8, s9, s10, s11, s12, s13, s14, s15, s16, s17, s18, s19, s20, s21, s22, s23, s24, s25, s26, s27, s28⟩
             go_simp
             with_reducible rfl
            rotate_left
            ·simp only [Act.put, List.setIfInBounds_toArray, List.set_cons_zero, List.set_cons_succ, i64_w, i32_w]
             rfl
            refine one_ (i := 25) (N := some 48) #[Y,Y,Y,Y,Y,Y,Y,Y,Y,Y,Y,Y,Y,Y,Y,Y,Y,Y,Y,Y,Y,Y,Y,Y,Y,Y,O,O,O] rfl rfl (one_of HT_.out (by kernel_rfl)) (by decide) (fun K hK => ?_)
            refine goes_ Try.func18 (by kernel_rfl) rfl #[.agg #[.slice (some ad219) l0_0.length c0_0, .int .i64 a0_1], .int .i64 x1_1] (by rfl) rfl rfl (by (try simp only [List.map_toArray, List.map_cons, List.map_nil]); first | done | rfl | (simp only [List.length_drop, List.length_take]; rfl)) ?_
            with_reducible refine (spec_UsedBelow.calls k1 _ _ l0_0 a0_1 x1_1 t222 _ ?side1 ?side2 A18.out).mono ?_
            (case side1 => exact pc (Kd.C_below HR0_0.out HB.out))
            (case side2 => exact HC0_0.out)
            rintro e w23 ⟨rfl, hb⟩
            refine ⟨_, rfl, ?_⟩
            have n0_ := Aside0.mk (pb BK216.out hb)
            have n1_ := Aside0.mk (below_step (pl1 HB.out GE216.out) hb)
            clear BK216
            clear HB
            have BK216 := n0_
            have HB := n1_
            clear n0_ n1_
            (try clear hb)
            (try clear hb2)
            (try clear hk)
            (try clear hi)
            refine hK.out _ _ ⟨(blk_cell BK216.out 0).trans rfl, (blk_cell BK216.out 1).trans rfl, ((HB.out.cell (World.block_lt_of_cell? w _ hw219_0)).trans hw219_0), ((HB.out.cell (World.block_lt_of_cell? w _ hw219_1)).trans hw219_1), ((HB.out.cell (World.block_lt_of_cell? w _ hw219_2)).trans hw219_2), ((HB.out.cell (World.block_lt_of_cell? w _ hw219_3)).trans hw219_3), ((HB.out.cell (World.block_lt_of_cell? w _ hw219_4)).trans hw219_4), ((HB.out.cell (World.block_lt_of_cell? w _ hw219_5)).trans hw219_5), ((HB.out.cell (World.block_lt_of_cell? w _ hw219_6)).trans hw219_6), ((HB.out.cell (World.block_lt_of_cell? w _ hw219_7)).trans hw219_7), ((HB.out.cell (World.block_lt_of_cell? w _ hw219_8)).trans hw219_8), ((HB.out.cell (World.block_lt_of_cell? w _ hw220_0)).trans hw220_0), ((HB.out.cell (World.block_lt_of_cell? w _ hw220_1)).trans hw220_1), ((HB.out.cell (World.block_lt_of_cell? w _ hw220_2)).trans hw220_2), ((HB.out.cell (World.block_lt_of_cell? w _ hw220_3)).trans hw220_3), ((HB.out.cell (World.block_lt_of_cell? w _ hw220_4)).trans hw220_4), ((HB.out.cell (World.block_lt_of_cell? w _ hw220_5)).trans hw220_5), ((HB.out.cell (World.block_lt_of_cell? w _ hw220_6)).trans hw220_6), ((HB.out.cell (World.block_lt_of_cell? w _ hw220_7)).trans hw220_7), ((HB.out.cell (World.block_lt_of_cell? w _ hw220_8)).trans hw220_8), ((HB.out.cell (World.block_lt_of_cell? w _ hw221_0)).trans hw221_0), ((HB.out.cell (World.block_lt_of_cell? w _ hw221_1)).trans hw221_1), ((HB.out.cell (World.block_lt_of_cell? w _ hw221_2)).trans hw221_2), ((HB.out.cell (World.block_lt_of_cell? w _ hw221_3)).trans hw221_3), ((HB.out.cell (World.block_lt_of_cell? w _ hw221_4)).trans hw221_4), ((HB.out.cell (World.block_lt_of_cell? w _ hw221_5)).trans hw221_5), ((HB.out.cell (World.block_lt_of_cell? w _ hw221_6)).trans hw221_6), ((HB.out.cell (World.block_lt_of_cell? w _ hw221_7)).trans hw221_7), ((HB.out.cell (World.block_lt_of_cell? w _ hw221_8)).trans hw221_8)⟩ (fun hHeld => ?_)
            clear hK K
            refine norm_ (a' := ?_) ?_ ?_
            rotate_left
            ·show Act.put _ (some 48) _ = _
             simp only [Act.put, List.setIfInBounds_toArray, List.set_cons_zero, List.set_cons_succ, i64_w, i32_w]
             rfl
            refine pz 26 49 #[Y,Y,Y,Y,Y,Y,Y,Y,Y,Y,Y,Y,Y,Y,Y,Y,Y,Y,Y,Y,Y,Y,Y,Y,Y,Y,Y,O,O] HT_ ?_
            refine pz 27 50 #[Y,Y,Y,Y,Y,Y,Y,Y,Y,Y,Y,Y,Y,Y,Y,Y,Y,Y,Y,Y,Y,Y,Y,Y,Y,Y,Y,Y,O] HT_ ?_
            refine pz 28 51 #[Y,Y,Y,Y,Y,Y,Y,Y,Y,Y,Y,Y,Y,Y,Y,Y,Y,Y,Y,Y,Y,Y,Y,Y,Y,Y,Y,Y,Y] HT_ ?_
            refine done_ (done_of HT_.out (by kernel_rfl)) ?_
            try go_wp2
            go_ret
            exact ⟨erq, pl1 HB.out GE216.out⟩
           ·rw [if_neg c19] at H
            have c19b0 : decide ((wrap64 (((rd_T52 l0_0 t218).f5) - t222)) < a2) = false := decide_eq_false c19
            clear c19
            have H' := Aside0.mk H
            clear H
            obtain ⟨hcz24_0, hcz24_1, hfz24_0, hfz24_1⟩ := z2 BK216.out
            try go_wp2_with (first | ((with_reducible refine gate_callee (f := 48) rfl ?_); refine goesL_ (some 18) rfl rfl Try.func48 (by kernel_rfl) rfl #[.agg #[.slice A0_0 l0_0.length c0_0, .int .i64 a0_1], .int .i64 x1_1] rfl (by (try simp only [List.map_toArray, List.map_cons, List.map_nil]); first | done | rfl | (simp only [List.length_drop, List.length_take]; rfl)) ?_; (with_reducible refine (spec_l10At.calls k1 _ _ l0_0 a0_1 x1_1 t218 _ ?side1 ?side2 A10.out).mono ?_); (case side1 => exact pc (Kd.C_below HR0_0.out HB.out)); (case side2 => exact HC0_0.out); rintro e w25 ⟨rfl, hb⟩; refine ⟨_, rfl, ?_⟩; have n0_ := Aside0.mk (pb BK216.out hb); have n1_ := Aside0.mk (below_step (pl1 HB.out GE216.out) hb); clear BK216; clear HB; have BK216 := n0_; have HB := n1_; clear n0_ n1_; (try clear hb); (try clear hb2); (try clear hk); (try clear hi)))
            have n0_ := Aside0.mk (blk_drew BK216.out)
            have n1_ := Aside0.mk (below_drew1 HB.out)
            clear BK216
            clear HB
            have BK216 := n0_
            have HB := n1_
            clear n0_ n1_
            have p219 : 0 ≤ (t218 : Int) := oda
            have q219 : t218 < (l0_0.length : Int) := oda
            obtain ⟨ad219, A219_7, c219_7, e219, hx219_0, hx219_1, hx219_2, hx219_3, hx219_4, hx219_5, hx219_6, hx219_7, hx219_8, hl219_7, hi219_7⟩ := at_T52 HR0_0.out t218 p219 q219
            have hw219_8 := hx219_8
            have hw219_7 := hx219_7
            have hw219_6 := hx219_6
            have hw219_5 := hx219_5
            have hw219_4 := hx219_4
            have hw219_3 := hx219_3
            have hw219_2 := hx219_2
            have hw219_1 := hx219_1
            have hw219_0 := hx219_0
            cases e219
            replace hx219_0 := hbc HB.out hx219_0
            replace hx219_1 := hbc HB.out hx219_1
            replace hx219_2 := hbc HB.out hx219_2
            replace hx219_3 := hbc HB.out hx219_3
            replace hx219_4 := hbc HB.out hx219_4
            replace hx219_5 := hbc HB.out hx219_5
            replace hx219_6 := hbc HB.out hx219_6
            replace hx219_7 := hbc HB.out hx219_7
            replace hx219_8 := hbc HB.out hx219_8
            have HR219_7 := Aside0.mk hi219_7
            have HC219_7 := Aside0.mk hl219_7
            clear hi219_7 hl219_7
            replace p219 := eq_true p219
            replace q219 := eq_true q219
            have p220 : 0 ≤ (t218 : Int) := oda
            have q220 : t218 < (l0_0.length : Int) := oda
            obtain ⟨ad220, A220_7, c220_7, e220, hx220_0, hx220_1, hx220_2, hx220_3, hx220_4, hx220_5, hx220_6, hx220_7, hx220_8, hl220_7, hi220_7⟩ := at_T52 HR0_0.out t218 p220 q220
            have hw220_8 := hx220_8
            have hw220_7 := hx220_7
            have hw220_6 := hx220_6
            have hw220_5 := hx220_5
            have hw220_4 := hx220_4
            have hw220_3 := hx220_3
            have hw220_2 := hx220_2
            have hw220_1 := hx220_1
            have hw220_0 := hx220_0
            obtain rfl : ad219 = ad220 := (by injection e220)
            replace hx220_0 := hbc HB.out hx220_0
            replace hx220_1 := hbc HB.out hx220_1
            replace hx220_2 := hbc HB.out hx220_2
            replace hx220_3 := hbc HB.out hx220_3
            replace hx220_4 := hbc HB.out hx220_4
            replace hx220_5 := hbc HB.out hx220_5
            replace hx220_6 := hbc HB.out hx220_6
            replace hx220_7 := hbc HB.out hx220_7
            replace hx220_8 := hbc HB.out hx220_8
            have HR220_7 := Aside0.mk hi220_7
            have HC220_7 := Aside0.mk hl220_7
            clear hi220_7 hl220_7
            replace p220 := eq_true p220
            replace q220 := eq_true q220
            have ea_ := Option.some.inj (hx219_7.symm.trans hx220_7)
            injection ea_ with ea_ en_ ec_
            subst ea_
            subst ec_
            clear en_
            have p221 : 0 ≤ (t218 : Int) := oda
            have q221 : t218 < (l0_0.length : Int) := oda
            obtain ⟨ad221, A221_7, c221_7, e221, hx221_0, hx221_1, hx221_2, hx221_3, hx221_4, hx221_5, hx221_6, hx221_7, hx221_8, hl221_7, hi221_7⟩ := at_T52 HR0_0.out t218 p221 q221
            have hw221_8 := hx221_8
            have hw221_7 := hx221_7
            have hw221_6 := hx221_6
            have hw221_5 := hx221_5
            have hw221_4 := hx221_4
            have hw221_3 := hx221_3
            have hw221_2 := hx221_2
            have hw221_1 := hx221_1
            have hw221_0 := hx221_0
            obtain rfl : ad219 = ad221 := (by injection e221)
            replace hx221_0 := hbc HB.out hx221_0
            replace hx221_1 := hbc HB.out hx221_1
            replace hx221_2 := hbc HB.out hx221_2
            replace hx221_3 := hbc HB.out hx221_3
            replace hx221_4 := hbc HB.out hx221_4
            replace hx221_5 := hbc HB.out hx221_5
            replace hx221_6 := hbc HB.out hx221_6
            replace hx221_7 := hbc HB.out hx221_7
            replace hx221_8 := hbc HB.out hx221_8
            have HR221_7 := Aside0.mk hi221_7
            have HC221_7 := Aside0.mk hl221_7
            clear hi221_7 hl221_7
            replace p221 := eq_true p221
            replace q221 := eq_true q221
            have ea_ := Option.some.inj (hx219_7.symm.trans hx221_7)
            injection ea_ with ea_ en_ ec_
            subst ea_
            subst ec_
            clear en_
            refine start_ (n := 29) (S := fun w' => w'.cell? ⟨gb216, 0, none⟩ = some (.slice (some ad219) l0_0.length c0_0) ∧ w'.cell? ⟨gb216, 1, none⟩ = some (.int .i64 a0_1) ∧ w'.cell? (ad219.add ((t218).toNat * 9)) = some (.int .i64 ((rd_T52 l0_0 t218).f0)) ∧ w'.cell? ⟨(ad219.add ((t218).toNat * 9)).block, (ad219.add ((t218).toNat * 9)).off + 1, none⟩ = some (.int .i64 ((rd_T52 l0_0 t218).f1)) ∧ w'.cell? ⟨(ad219.add ((t218).toNat * 9)).block, (ad219.add ((t218).toNat * 9)).off + 2, none⟩ = some (.string ((rd_T52 l0_0 t218).f2)) ∧ w'.cell? ⟨(ad219.add ((t218).toNat * 9)).block, (ad219.add ((t218).toNat * 9)).off + 3, none⟩ = some (.bool ((rd_T52 l0_0 t218).f3)) ∧ w'.cell? ⟨(ad219.add ((t218).toNat * 9)).block, (ad219.add ((t218).toNat * 9)).off + 4, none⟩ = some (.int .i64 ((rd_T52 l0_0 t218).f4)) ∧ w'.cell? ⟨(ad219.add ((t218).toNat * 9)).block, (ad219.add ((t218).toNat * 9)).off + 5, none⟩ = some (.int .i64 ((rd_T52 l0_0 t218).f5)) ∧ w'.cell? ⟨(ad219.add ((t218).toNat * 9)).block, (ad219.add ((t218).toNat * 9)).off + 6, none⟩ = some (.int .i64 ((rd_T52 l0_0 t218).f6)) ∧ w'.cell? ⟨(ad219.add ((t218).toNat * 9)).block, (ad219.add ((t218).toNat * 9)).off + 7, none⟩ = some (.slice A219_7 ((rd_T52 l0_0 t218).f7).length c219_7) ∧ w'.cell? ⟨(ad219.add ((t218).toNat * 9)).block, (ad219.add ((t218).toNat * 9)).off + 8, none⟩ = some (.int .i64 ((rd_T52 l0_0 t218).f8)) ∧ w'.cell? (ad219.add ((t218).toNat * 9)) = some (.int .i64 ((rd_T52 l0_0 t218).f0)) ∧ w'.cell? ⟨(ad219.add ((t218).toNat * 9)).block, (ad219.add ((t218).toNat * 9)).off + 1, none⟩ = some (.int .i64 ((rd_T52 l0_0 t218).f1)) ∧ w'.cell? ⟨(ad219.add ((t218).toNat * 9)).block, (ad219.add ((t218).toNat * 9)).off + 2, none⟩ = some (.string ((rd_T52 l0_0 t218).f2)) ∧ w'.cell? ⟨(ad219.add ((t218).toNat * 9)).block, (ad219.add ((t218).toNat * 9)).off + 3, none⟩ = some (.bool ((rd_T52 l0_0 t218).f3)) ∧ w'.cell? ⟨(ad219.add ((t218).toNat * 9)).block, (ad219.add ((t218).toNat * 9)).off + 4, none⟩ = some (.int .i64 ((rd_T52 l0_0 t218).f4)) ∧ w'.cell? ⟨(ad219.add ((t218).toNat * 9)).block, (ad219.add ((t218).toNat * 9)).off + 5, none⟩ = some (.int .i64 ((rd_T52 l0_0 t218).f5)) ∧ w'.cell? ⟨(ad219.add ((t218).toNat * 9)).block, (ad219.add ((t218).toNat * 9)).off + 6, none⟩ = some (.int .i64 ((rd_T52 l0_0 t218).f6)) ∧ w'.cell? ⟨(ad219.add ((t218).toNat * 9)).block, (ad219.add ((t218).toNat * 9)).off + 7, none⟩ = some (.slice A219_7 ((rd_T52 l0_0 t218).f7).length c219_7) ∧ w'.cell? ⟨(ad219.add ((t218).toNat * 9)).block, (ad219.add ((t218).toNat * 9)).off + 8, none⟩ = some (.int .i64 ((rd_T52 l0_0 t218).f8)) ∧ w'.cell? (ad219.add ((t218).toNat * 9)) = some (.int .i64 ((rd_T52 l0_0 t218).f0)) ∧ w'.cell? ⟨(ad219.add ((t218).toNat * 9)).block, (ad219.add ((t218).toNat * 9)).off + 1, none⟩ = some (.int .i64 ((rd_T52 l0_0 t218).f1)) ∧ w'.cell? ⟨(ad219.add ((t218).toNat * 9)).block, (ad219.add ((t218).toNat * 9)).off + 2, none⟩ = some (.string ((rd_T52 l0_0 t218).f2)) ∧ w'.cell? ⟨(ad219.add ((t218).toNat * 9)).block, (ad219.add ((t218).toNat * 9)).off + 3, none⟩ = some (.bool ((rd_T52 l0_0 t218).f3)) ∧ w'.cell? ⟨(ad219.add ((t218).toNat * 9)).block, (ad219.add ((t218).toNat * 9)).off + 4, none⟩ = some (.int .i64 ((rd_T52 l0_0 t218).f4)) ∧ w'.cell? ⟨(ad219.add ((t218).toNat * 9)).block, (ad219.add ((t218).toNat * 9)).off + 5, none⟩ = some (.int .i64 ((rd_T52 l0_0 t218).f5)) ∧ w'.cell? ⟨(ad219.add ((t218).toNat * 9)).block, (ad219.add ((t218).toNat * 9)).off + 6, none⟩ = some (.int .i64 ((rd_T52 l0_0 t218).f6)) ∧ w'.cell? ⟨(ad219.add ((t218).toNat * 9)).block, (ad219.add ((t218).toNat * 9)).off + 7, none⟩ = some (.slice A219_7 ((rd_T52 l0_0 t218).f7).length c219_7) ∧ w'.cell? ⟨(ad219.add ((t218).toNat * 9)).block, (ad219.add ((t218).toNat * 9)).off + 8, none⟩ = some (.int .i64 ((rd_T52 l0_0 t218).f8))) (ds := []) #[O,O,O,O,O,O,O,O,O,O,O,O,O,O,O,O,O,O,O,O,O,O,O,O,O,O,O,O,O] (by kernel_rfl) rfl rfl ⟨(blk_cell BK216.out 0).trans rfl, (blk_cell BK216.out 1).trans rfl, ((HB.out.cell (World.block_lt_of_cell? w _ hw219_0)).trans hw219_0), ((HB.out.cell (World.block_lt_of_cell? w _ hw219_1)).trans hw219_1), ((HB.out.cell (World.block_lt_of_cell? w _ hw219_2)).trans hw219_2), ((HB.out.cell (World.block_lt_of_cell? w _ hw219_3)).trans hw219_3), ((HB.out.cell (World.block_lt_of_cell? w _ hw219_4)).trans hw219_4), ((HB.out.cell (World.block_lt_of_cell? w _ hw219_5)).trans hw219_5), ((HB.out.cell (World.block_lt_of_cell? w _ hw219_6)).trans hw219_6), ((HB.out.cell (World.block_lt_of_cell? w _ hw219_7)).trans hw219_7), ((HB.out.cell (World.block_lt_of_cell? w _ hw219_8)).trans hw219_8), ((HB.out.cell (World.block_lt_of_cell? w _ hw220_0)).trans hw220_0), ((HB.out.cell (World.block_lt_of_cell? w _ hw220_1)).trans hw220_1), ((HB.out.cell (World.block_lt_of_cell? w _ hw220_2)).trans hw220_2), ((HB.out.cell (World.block_lt_of_cell? w _ hw220_3)).trans hw220_3), ((HB.out.cell (World.block_lt_of_cell? w _ hw220_4)).trans hw220_4), ((HB.out.cell (World.block_lt_of_cell? w _ hw220_5)).trans hw220_5), ((HB.out.cell (World.block_lt_of_cell? w _ hw220_6)).trans hw220_6), ((HB.out.cell (World.block_lt_of_cell? w _ hw220_7)).trans hw220_7), ((HB.out.cell (World.block_lt_of_cell? w _ hw220_8)).trans hw220_8), ((HB.out.cell (World.block_lt_of_cell? w _ hw221_0)).trans hw221_0), ((HB.out.cell (World.block_lt_of_cell? w _ hw221_1)).trans hw221_1), ((HB.out.cell (World.block_lt_of_cell? w _ hw221_2)).trans hw221_2), ((HB.out.cell (World.block_lt_of_cell? w _ hw221_3)).trans hw221_3), ((HB.out.cell (World.block_lt_of_cell? w _ hw221_4)).trans hw221_4), ((HB.out.cell (World.block_lt_of_cell? w _ hw221_5)).trans hw221_5), ((HB.out.cell (World.block_lt_of_cell? w _ hw221_6)).trans hw221_6), ((HB.out.cell (World.block_lt_of_cell? w _ hw221_7)).trans hw221_7), ((HB.out.cell (World.block_lt_of_cell? w _ hw221_8)).trans hw221_8)⟩ (fun hHeld => ?_); refine with_tabW spec_RoomFor.tab9 spec_RoomFor.bits9 (fun HT_ HW_ => ?_)
            generalize w25.drew = w26 at BK216 HB HR219_7 HR220_7 HR221_7 hx219_0 hx219_1 hx219_2 hx219_3 hx219_4 hx219_5 hx219_6 hx219_7 hx219_8 hx220_0 hx220_1 hx220_2 hx220_3 hx220_4 hx220_5 hx220_6 hx220_7 hx220_8 hx221_0 hx221_1 hx221_2 hx221_3 hx221_4 hx221_5 hx221_6 hx221_7 hx221_8 hHeld ⊢
            refine pz 0 23 #[Y,O,O,O,O,O,O,O,O,O,O,O,O,O,O,O,O,O,O,O,O,O,O,O,O,O,O,O,O] HT_ ?_
            refine pure_ (i := 2) (N := some 25) (v := ?_) (a' := ?_) #[Y,O,Y,O,O,O,O,O,O,O,O,O,O,O,O,O,O,O,O,O,O,O,O,O,O,O,O,O,O] rfl rfl (any_of HT_.out (by kernel_rfl)) (fun _ _ _ h => h) (Or.inl ⟨by rfl, ?_⟩) ?_ ?_
            rotate_left
            ·intro w'
             go_simp
             with_reducible rfl
            rotate_left
            ·simp only [Act.put, List.setIfInBounds_toArray, List.set_cons_zero, List.set_cons_succ, i64_w, i32_w]
             rfl
            refine take_ (i := 1) (N := some 24) (v := ?_) (a' := ?_) #[Y,Y,Y,O,O,O,O,O,O,O,O,O,O,O,O,O,O,O,O,O,O,O,O,O,O,O,O,O,O] rfl rfl (take_ofW HT_.out HW_.out (by kernel_rfl)) (fun _ _ _ h => h) (Or.inl ⟨by rfl, ?_⟩) hHeld ?_ ?_
            rotate_left
            ·rintro w' ⟨s0, s1, s2, s3, s4, s5, s6, s7, s8, s9, s10, s11, s12, s13, s14, s15, s16, s17, s18, s19, s20, s21, s22, s23, s24, s25, s26, s27, s28⟩
             go_simp
             with_reducible rfl
            rotate_left
            ·simp only [Act.put, List.setIfInBounds_toArray, List.set_cons_zero, List.set_cons_succ, i64_w, i32_w]
             rfl
            refine pz 3 26 #[Y,Y,Y,Y,O,O,O,O,O,O,O,O,O,O,O,O,O,O,O,O,O,O,O,O,O,O,O,O,O] HT_ ?_
            refine pz 4 27 #[Y,Y,Y,Y,Y,O,O,O,O,O,O,O,O,O,O,O,O,O,O,O,O,O,O,O,O,O,O,O,O] HT_ ?_
            refine tz 5 28 #[Y,Y,Y,Y,Y,Y,O,O,O,O,O,O,O,O,O,O,O,O,O,O,O,O,O,O,O,O,O,O,O] HT_ HW_ hHeld ?_ (hr := by rintro w' ⟨s0, s1, s2, s3, s4, s5, s6, s7, s8, s9, s10, s11, s12, s13, s14, s15, s16, s17, s18, s19, s20, s21, s22, s23, s24, s25, s26, s27, s28⟩; go_simp; with_reducible rfl)
            refine pz 6 29 #[Y,Y,Y,Y,Y,Y,Y,O,O,O,O,O,O,O,O,O,O,O,O,O,O,O,O,O,O,O,O,O,O] HT_ ?_
            refine pz 7 30 #[Y,Y,Y,Y,Y,Y,Y,Y,O,O,O,O,O,O,O,O,O,O,O,O,O,O,O,O,O,O,O,O,O] HT_ ?_
            refine pure_ (i := 9) (N := some 32) (v := ?_) (a' := ?_) #[Y,Y,Y,Y,Y,Y,Y,Y,O,Y,O,O,O,O,O,O,O,O,O,O,O,O,O,O,O,O,O,O,O] rfl rfl (any_of HT_.out (by kernel_rfl)) (fun _ _ _ h => h) (Or.inl ⟨by rfl, ?_⟩) ?_ ?_
            rotate_left
            ·intro w'
             go_simp
             with_reducible rfl
            rotate_left
            ·simp only [Act.put, List.setIfInBounds_toArray, List.set_cons_zero, List.set_cons_succ, i64_w, i32_w]
             rfl
            refine take_ (i := 8) (N := some 31) (v := ?_) (a' := ?_) #[Y,Y,Y,Y,Y,Y,Y,Y,Y,Y,O,O,O,O,O,O,O,O,O,O,O,O,O,O,O,O,O,O,O] rfl rfl (take_ofW HT_.out HW_.out (by kernel_rfl)) (fun _ _ _ h => h) (Or.inl ⟨by rfl, ?_⟩) hHeld ?_ ?_
            rotate_left
            ·rintro w' ⟨s0, s1, s2, s3, s4, s5, s6, s7, s8, s9, s10, s11, s12, s13, s14, s15, s16, s17, s18, s19, s20, s21, s22, s23, s24, s25, s26, s27, s28⟩
             go_simp
             with_reducible rfl
            rotate_left
            ·simp only [Act.put, List.setIfInBounds_toArray, List.set_cons_zero, List.set_cons_succ, i64_w, i32_w]
             rfl
            refine pz 10 33 #[Y,Y,Y,Y,Y,Y,Y,Y,Y,Y,Y,O,O,O,O,O,O,O,O,O,O,O,O,O,O,O,O,O,O] HT_ ?_
            refine pz 11 34 #[Y,Y,Y,Y,Y,Y,Y,Y,Y,Y,Y,Y,O,O,O,O,O,O,O,O,O,O,O,O,O,O,O,O,O] HT_ ?_
            refine tz 12 35 #[Y,Y,Y,Y,Y,Y,Y,Y,Y,Y,Y,Y,Y,O,O,O,O,O,O,O,O,O,O,O,O,O,O,O,O] HT_ HW_ hHeld ?_ (hr := by rintro w' ⟨s0, s1, s2, s3, s4, s5, s6, s7, s8, s9, s10, s11, s12, s13, s14, s15, s16, s17, s18, s19, s20, s21, s22, s23, s24, s25, s26, s27, s28⟩; go_simp; with_reducible rfl)
            refine pz 13 36 #[Y,Y,Y,Y,Y,Y,Y,Y,Y,Y,Y,Y,Y,Y,O,O,O,O,O,O,O,O,O,O,O,O,O,O,O] HT_ ?_
            refine pz 14 37 #[Y,Y,Y,Y,Y,Y,Y,Y,Y,Y,Y,Y,Y,Y,Y,O,O,O,O,O,O,O,O,O,O,O,O,O,O] HT_ ?_
            refine pz 15 38 #[Y,Y,Y,Y,Y,Y,Y,Y,Y,Y,Y,Y,Y,Y,Y,Y,O,O,O,O,O,O,O,O,O,O,O,O,O] HT_ ?_
            refine pz 16 39 #[Y,Y,Y,Y,Y,Y,Y,Y,Y,Y,Y,Y,Y,Y,Y,Y,Y,O,O,O,O,O,O,O,O,O,O,O,O] HT_ ?_
            refine pz 17 40 #[Y,Y,Y,Y,Y,Y,Y,Y,Y,Y,Y,Y,Y,Y,Y,Y,Y,Y,O,O,O,O,O,O,O,O,O,O,O] HT_ ?_
            refine pure_ (i := 19) (N := some 42) (v := ?_) (a' := ?_) #[Y,Y,Y,Y,Y,Y,Y,Y,Y,Y,Y,Y,Y,Y,Y,Y,Y,Y,O,Y,O,O,O,O,O,O,O,O,O] rfl rfl (any_of HT_.out (by kernel_rfl)) (fun _ _ _ h => h) (Or.inl ⟨by rfl, ?_⟩) ?_ ?_
            rotate_left
            ·intro w'
             go_simp
             with_reducible rfl
            rotate_left
            ·simp only [Act.put, List.setIfInBounds_toArray, List.set_cons_zero, List.set_cons_succ, i64_w, i32_w]
             rfl
            refine pure_ (i := 24) (N := some 47) (v := ?_) (a' := ?_) #[Y,Y,Y,Y,Y,Y,Y,Y,Y,Y,Y,Y,Y,Y,Y,Y,Y,Y,O,Y,O,O,O,O,Y,O,O,O,O] rfl rfl (any_of HT_.out (by kernel_rfl)) (fun _ _ _ h => h) (Or.inl ⟨by rfl, ?_⟩) ?_ ?_
            rotate_left
            ·intro w'
             go_simp
             with_reducible rfl
            rotate_left
            ·simp only [Act.put, List.setIfInBounds_toArray, List.set_cons_zero, List.set_cons_succ, i64_w, i32_w]
             rfl
            refine take_ (i := 18) (N := some 41) (v := ?_) (a' := ?_) #[Y,Y,Y,Y,Y,Y,Y,Y,Y,Y,Y,Y,Y,Y,Y,Y,Y,Y,Y,Y,O,O,O,O,Y,O,O,O,O] rfl rfl (take_ofW HT_.out HW_.out (by kernel_rfl)) (fun _ _ _ h => h) (Or.inl ⟨by rfl, ?_⟩) hHeld ?_ ?_
            rotate_left
            ·rintro w' ⟨s0, s1, s2, s3, s4, s5, s6, s7, s8, s9, s10, s11, s12, s13, s14, s15, s16, s17, s18, s19, s20, s21, s22, s23, s24, s25, s26, s27, s28⟩
             go_simp
             with_reducible rfl
            rotate_left
            ·simp only [Act.put, List.setIfInBounds_toArray, List.set_cons_zero, List.set_cons_succ, i64_w, i32_w]
             rfl
            refine pure_ (i := 20) (N := some 43) (v := ?_) (a' := ?_) #[Y,Y,Y,Y,Y,Y,Y,Y,Y,Y,Y,Y,Y,Y,Y,Y,Y,Y,Y,Y,Y,O,O,O,Y,O,O,O,O] rfl rfl (any_of HT_.out (by kernel_rfl)) (fun _ _ _ h => h) (Or.inl ⟨by rfl, ?_⟩) ?_ ?_
            rotate_left
            ·intro w'
             go_simp
             with_reducible rfl
            rotate_left
            ·simp only [Act.put, List.setIfInBounds_toArray, List.set_cons_zero, List.set_cons_succ, i64_w, i32_w]
             rfl
            refine pure_ (i := 21) (N := some 44) (v := ?_) (a' := ?_) #[Y,Y,Y,Y,Y,Y,Y,Y,Y,Y,Y,Y,Y,Y,Y,Y,Y,Y,Y,Y,Y,Y,O,O,Y,O,O,O,O] rfl rfl (any_of HT_.out (by kernel_rfl)) (fun _ _ _ h => h) (Or.inl ⟨by rfl, ?_⟩) ?_ ?_
            rotate_left
            ·intro w'
             go_simp
             with_reducible rfl
            rotate_left
            ·simp only [Act.put, List.setIfInBounds_toArray, List.set_cons_zero, List.set_cons_succ, i64_w, i32_w]
             rfl
            refine take_ (i := 22) (N := some 45) (v := ?_) (a' := ?_) #[Y,Y,Y,Y,Y,Y,Y,Y,Y,Y,Y,Y,Y,Y,Y,Y,Y,Y,Y,Y,Y,Y,Y,O,Y,O,O,O,O] rfl rfl (take_ofW HT_.out HW_.out (by kernel_rfl)) (fun _ _ _ h => h) (Or.inl ⟨by rfl, ?_⟩) hHeld ?_ ?_
            rotate_left
            ·rintro w' ⟨s0, s1, s2, s3, s4, s5, s6, s7, s8, s9, s10, s11, s12, s13, s14, s15, s16, s17, s18, s19, s20, s21, s22, s23, s24, s25, s26, s27, s28⟩
             go_simp
             with_reducible rfl
            rotate_left
            ·simp only [Act.put, List.setIfInBounds_toArray, List.set_cons_zero, List.set_cons_succ, i64_w, i32_w]
             rfl
            refine take_ (i := 23) (N := some 46) (v := ?_) (a' := ?_) #[Y,Y,Y,Y,Y,Y,Y,Y,Y,Y,Y,Y,Y,Y,Y,Y,Y,Y,Y,Y,Y,Y,Y,Y,Y,O,O,O,O] rfl rfl (take_ofW HT_.out HW_.out (by kernel_rfl)) (fun _ _ _ h => h) (Or.inl ⟨by rfl, ?_⟩) hHeld ?_ ?_
            rotate_left
            ·rintro w' ⟨s0, s1, s2, s3, s4, s5, s6, s7, s8, s9, s10, s11, s12, s13, s14, s15, s16, s17, s18, s19, s20, s21, s22, s23, s24, s25, s26, s27, s28⟩
             go_simp
             with_reducible rfl
            rotate_left
            ·simp only [Act.put, List.setIfInBounds_toArray, List.set_cons_zero, List.set_cons_succ, i64_w, i32_w]
             rfl
            refine one_ (i := 25) (N := some 48) #[Y,Y,Y,Y,Y,Y,Y,Y,Y,Y,Y,Y,Y,Y,Y,Y,Y,Y,Y,Y,Y,Y,Y,Y,Y,Y,O,O,O] rfl rfl (one_of HT_.out (by kernel_rfl)) (by decide) (fun K hK => ?_)
            refine goes_ Try.func18 (by kernel_rfl) rfl #[.agg #[.slice (some ad219) l0_0.length c0_0, .int .i64 a0_1], .int .i64 x1_1] (by rfl) rfl rfl (by (try simp only [List.map_toArray, List.map_cons, List.map_nil]); first | done | rfl | (simp only [List.length_drop, List.length_take]; rfl)) ?_
            with_reducible refine (spec_UsedBelow.calls k1 _ _ l0_0 a0_1 x1_1 t222 _ ?side1 ?side2 A18.out).mono ?_
            (case side1 => exact pc (Kd.C_below HR0_0.out HB.out))
            (case side2 => exact HC0_0.out)
            rintro e w27 ⟨rfl, hb⟩
            refine ⟨_, rfl, ?_⟩
            have n0_ := Aside0.mk (pb BK216.out hb)
            have n1_ := Aside0.mk (below_step (pl1 HB.out GE216.out) hb)
            clear BK216
            clear HB
            have BK216 := n0_
            have HB := n1_
            clear n0_ n1_
            (try clear hb)
            (try clear hb2)
            (try clear hk)
            (try clear hi)
            refine hK.out _ _ ⟨(blk_cell BK216.out 0).trans rfl, (blk_cell BK216.out 1).trans rfl, ((HB.out.cell (World.block_lt_of_cell? w _ hw219_0)).trans hw219_0), ((HB.out.cell (World.block_lt_of_cell? w _ hw219_1)).trans hw219_1), ((HB.out.cell (World.block_lt_of_cell? w _ hw219_2)).trans hw219_2), ((HB.out.cell (World.block_lt_of_cell? w _ hw219_3)).trans hw219_3), ((HB.out.cell (World.block_lt_of_cell? w _ hw219_4)).trans hw219_4), ((HB.out.cell (World.block_lt_of_cell? w _ hw219_5)).trans hw219_5), ((HB.out.cell (World.block_lt_of_cell? w _ hw219_6)).trans hw219_6), ((HB.out.cell (World.block_lt_of_cell? w _ hw219_7)).trans hw219_7), ((HB.out.cell (World.block_lt_of_cell? w _ hw219_8)).trans hw219_8), ((HB.out.cell (World.block_lt_of_cell? w _ hw220_0)).trans hw220_0), ((HB.out.cell (World.block_lt_of_cell? w _ hw220_1)).trans hw220_1), ((HB.out.cell (World.block_lt_of_cell? w _ hw220_2)).trans hw220_2), ((HB.out.cell (World.block_lt_of_cell? w _ hw220_3)).trans hw220_3), ((HB.out.cell (World.block_lt_of_cell? w _ hw220_4)).trans hw220_4), ((HB.out.cell (World.block_lt_of_cell? w _ hw220_5)).trans hw220_5), ((HB.out.cell (World.block_lt_of_cell? w _ hw220_6)).trans hw220_6), ((HB.out.cell (World.block_lt_of_cell? w _ hw220_7)).trans hw220_7), ((HB.out.cell (World.block_lt_of_cell? w _ hw220_8)).trans hw220_8), ((HB.out.cell (World.block_lt_of_cell? w _ hw221_0)).trans hw221_0), ((HB.out.cell (World.block_lt_of_cell? w _ hw221_1)).trans hw221_1), ((HB.out.cell (World.block_lt_of_cell? w _ hw221_2)).trans hw221_2), ((HB.out.cell (World.block_lt_of_cell? w _ hw221_3)).trans hw221_3), ((HB.out.cell (World.block_lt_of_cell? w _ hw221_4)).trans hw221_4), ((HB.out.cell (World.block_lt_of_cell? w _ hw221_5)).trans hw221_5), ((HB.out.cell (World.block_lt_of_cell? w _ hw221_6)).trans hw221_6), ((HB.out.cell (World.block_lt_of_cell? w _ hw221_7)).trans hw221_7), ((HB.out.cell (World.block_lt_of_cell? w _ hw221_8)).trans hw221_8)⟩ (fun hHeld => ?_)
            clear hK K
            refine norm_ (a' := ?_) ?_ ?_
            rotate_left
            ·show Act.put _ (some 48) _ = _
             simp only [Act.put, List.setIfInBounds_toArray, List.set_cons_zero, List.set_cons_succ, i64_w, i32_w]
             rfl
            refine pz 26 49 #[Y,Y,Y,Y,Y,Y,Y,Y,Y,Y,Y,Y,Y,Y,Y,Y,Y,Y,Y,Y,Y,Y,Y,Y,Y,Y,Y,O,O] HT_ ?_
            refine pz 27 50 #[Y,Y,Y,Y,Y,Y,Y,Y,Y,Y,Y,Y,Y,Y,Y,Y,Y,Y,Y,Y,Y,Y,Y,Y,Y,Y,Y,Y,O] HT_ ?_
            refine pz 28 51 #[Y,Y,Y,Y,Y,Y,Y,Y,Y,Y,Y,Y,Y,Y,Y,Y,Y,Y,Y,Y,Y,Y,Y,Y,Y,Y,Y,Y,Y] HT_ ?_
            refine done_ (done_of HT_.out (by kernel_rfl)) ?_
            obtain ⟨hcz28_0, hcz28_1, hfz28_0, hfz28_1⟩ := z2 BK216.out
            have p223 : 0 ≤ (t218 : Int) := oda
            have q223 : t218 < (l0_0.length : Int) := oda
            obtain ⟨ad223, A223_7, c223_7, e223, hx223_0, hx223_1, hx223_2, hx223_3, hx223_4, hx223_5, hx223_6, hx223_7, hx223_8, hl223_7, hi223_7⟩ := at_T52 HR0_0.out t218 p223 q223
            obtain rfl : ad219 = ad223 := (by injection e223)
            replace hx223_1 := hbc HB.out hx223_1
            have HR223_7 := Aside0.mk hi223_7
            have HC223_7 := Aside0.mk hl223_7
            clear hi223_7 hl223_7
            replace p223 := eq_true p223
            replace q223 := eq_true q223
            try go_wp2
            go_roundg k1
            case measure => have := HK1.out; omega
            case rel => exact ⟨((rd_T52 l0_0 t218).f1), (wrap64 (x7_1 + 1)), eqa, eqa, H', ⟨by have := HK1.out; omega⟩, ⟨pk BK216.out⟩, ⟨pl1 HB.out GE216.out⟩⟩
          ·rw [if_neg c17] at H
           have c17b0 : decide (0 < ((rd_T52 l0_0 t218).f5)) = false := decide_eq_false c17
           clear c17
           have H' := Aside0.mk H
           clear H
           obtain ⟨hcz29_0, hcz29_1, hfz29_0, hfz29_1⟩ := z2 BK216.out
           try go_wp2_with (first | ((with_reducible refine gate_callee (f := 48) rfl ?_); refine goesL_ (some 18) rfl rfl Try.func48 (by kernel_rfl) rfl #[.agg #[.slice A0_0 l0_0.length c0_0, .int .i64 a0_1], .int .i64 x1_1] rfl (by (try simp only [List.map_toArray, List.map_cons, List.map_nil]); first | done | rfl | (simp only [List.length_drop, List.length_take]; rfl)) ?_; (with_reducible refine (spec_l10At.calls k1 _ _ l0_0 a0_1 x1_1 t218 _ ?side1 ?side2 A10.out).mono ?_); (case side1 => exact pc (Kd.C_below HR0_0.out HB.out)); (case side2 => exact HC0_0.out); rintro e w30 ⟨rfl, hb⟩; refine ⟨_, rfl, ?_⟩; have n0_ := Aside0.mk (pb BK216.out hb); have n1_ := Aside0.mk (below_step (pl1 HB.out GE216.out) hb); clear BK216; clear HB; have BK216 := n0_; have HB := n1_; clear n0_ n1_; (try clear hb); (try clear hb2); (try clear hk); (try clear hi)))
           have n0_ := Aside0.mk (blk_drew BK216.out)
           have n1_ := Aside0.mk (below_drew1 HB.out)
           clear BK216
           clear HB
           have BK216 := n0_
           have HB := n1_
           clear n0_ n1_
           have p219 : 0 ≤ (t218 : Int) := oda
           have q219 : t218 < (l0_0.length : Int) := oda
           obtain ⟨ad219, A219_7, c219_7, e219, hx219_0, hx219_1, hx219_2, hx219_3, hx219_4, hx219_5, hx219_6, hx219_7, hx219_8, hl219_7, hi219_7⟩ := at_T52 HR0_0.out t218 p219 q219
           have hw219_8 := hx219_8
           have hw219_7 := hx219_7
           have hw219_6 := hx219_6
           have hw219_5 := hx219_5
           have hw219_4 := hx219_4
           have hw219_3 := hx219_3
           have hw219_2 := hx219_2
           have hw219_1 := hx219_1
           have hw219_0 := hx219_0
           cases e219
           replace hx219_0 := hbc HB.out hx219_0
           replace hx219_1 := hbc HB.out hx219_1
           replace hx219_2 := hbc HB.out hx219_2
           replace hx219_3 := hbc HB.out hx219_3
           replace hx219_4 := hbc HB.out hx219_4
           replace hx219_5 := hbc HB.out hx219_5
           replace hx219_6 := hbc HB.out hx219_6
           replace hx219_7 := hbc HB.out hx219_7
           replace hx219_8 := hbc HB.out hx219_8
           have HR219_7 := Aside0.mk hi219_7
           have HC219_7 := Aside0.mk hl219_7
           clear hi219_7 hl219_7
           replace p219 := eq_true p219
           replace q219 := eq_true q219
           have p220 : 0 ≤ (t218 : Int) := oda
           have q220 : t218 < (l0_0.length : Int) := oda
           obtain ⟨ad220, A220_7, c220_7, e220, hx220_0, hx220_1, hx220_2, hx220_3, hx220_4, hx220_5, hx220_6, hx220_7, hx220_8, hl220_7, hi220_7⟩ := at_T52 HR0_0.out t218 p220 q220
           have hw220_8 := hx220_8
           have hw220_7 := hx220_7
           have hw220_6 := hx220_6
           have hw220_5 := hx220_5
           have hw220_4 := hx220_4
           have hw220_3 := hx220_3
           have hw220_2 := hx220_2
           have hw220_1 := hx220_1
           have hw220_0 := hx220_0
           obtain rfl : ad219 = ad220 := (by injection e220)
           replace hx220_0 := hbc HB.out hx220_0
           replace hx220_1 := hbc HB.out hx220_1
           replace hx220_2 := hbc HB.out hx220_2
           replace hx220_3 := hbc HB.out hx220_3
           replace hx220_4 := hbc HB.out hx220_4
           replace hx220_5 := hbc HB.out hx220_5
           replace hx220_6 := hbc HB.out hx220_6
           replace hx220_7 := hbc HB.out hx220_7
           replace hx220_8 := hbc HB.out hx220_8
           have HR220_7 := Aside0.mk hi220_7
           have HC220_7 := Aside0.mk hl220_7
           clear hi220_7 hl220_7
           replace p220 := eq_true p220
           replace q220 := eq_true q220
           have ea_ := Option.some.inj (hx219_7.symm.trans hx220_7)
           injection ea_ with ea_ en_ ec_
           subst ea_
           subst ec_
           clear en_
           refine start_ (n := 29) (S := fun w' => w'.cell? ⟨gb216, 0, none⟩ = some (.slice (some ad219) l0_0.length c0_0) ∧ w'.cell? ⟨gb216, 1, none⟩ = some (.int .i64 a0_1) ∧ w'.cell? (ad219.add ((t218).toNat * 9)) = some (.int .i64 ((rd_T52 l0_0 t218).f0)) ∧ w'.cell? ⟨(ad219.add ((t218).toNat * 9)).block, (ad219.add ((t218).toNat * 9)).off + 1, none⟩ = some (.int .i64 ((rd_T52 l0_0 t218).f1)) ∧ w'.cell? ⟨(ad219.add ((t218).toNat * 9)).block, (ad219.add ((t218).toNat * 9)).off + 2, none⟩ = some (.string ((rd_T52 l0_0 t218).f2)) ∧ w'.cell? ⟨(ad219.add ((t218).toNat * 9)).block, (ad219.add ((t218).toNat * 9)).off + 3, none⟩ = some (.bool ((rd_T52 l0_0 t218).f3)) ∧ w'.cell? ⟨(ad219.add ((t218).toNat * 9)).block, (ad219.add ((t218).toNat * 9)).off + 4, none⟩ = some (.int .i64 ((rd_T52 l0_0 t218).f4)) ∧ w'.cell? ⟨(ad219.add ((t218).toNat * 9)).block, (ad219.add ((t218).toNat * 9)).off + 5, none⟩ = some (.int .i64 ((rd_T52 l0_0 t218).f5)) ∧ w'.cell? ⟨(ad219.add ((t218).toNat * 9)).block, (ad219.add ((t218).toNat * 9)).off + 6, none⟩ = some (.int .i64 ((rd_T52 l0_0 t218).f6)) ∧ w'.cell? ⟨(ad219.add ((t218).toNat * 9)).block, (ad219.add ((t218).toNat * 9)).off + 7, none⟩ = some (.slice A219_7 ((rd_T52 l0_0 t218).f7).length c219_7) ∧ w'.cell? ⟨(ad219.add ((t218).toNat * 9)).block, (ad219.add ((t218).toNat * 9)).off + 8, none⟩ = some (.int .i64 ((rd_T52 l0_0 t218).f8)) ∧ w'.cell? (ad219.add ((t218).toNat * 9)) = some (.int .i64 ((rd_T52 l0_0 t218).f0)) ∧ w'.cell? ⟨(ad219.add ((t218).toNat * 9)).block, (ad219.add ((t218).toNat * 9)).off + 1, none⟩ = some (.int .i64 ((rd_T52 l0_0 t218).f1)) ∧ w'.cell? ⟨(ad219.add ((t218).toNat * 9)).block, (ad219.add ((t218).toNat * 9)).off + 2, none⟩ = some (.string ((rd_T52 l0_0 t218).f2)) ∧ w'.cell? ⟨(ad219.add ((t218).toNat * 9)).block, (ad219.add ((t218).toNat * 9)).off + 3, none⟩ = some (.bool ((rd_T52 l0_0 t218).f3)) ∧ w'.cell? ⟨(ad219.add ((t218).toNat * 9)).block, (ad219.add ((t218).toNat * 9)).off + 4, none⟩ = some (.int .i64 ((rd_T52 l0_0 t218).f4)) ∧ w'.cell? ⟨(ad219.add ((t218).toNat * 9)).block, (ad219.add ((t218).toNat * 9)).off + 5, none⟩ = some (.int .i64 ((rd_T52 l0_0 t218).f5)) ∧ w'.cell? ⟨(ad219.add ((t218).toNat * 9)).block, (ad219.add ((t218).toNat * 9)).off + 6, none⟩ = some (.int .i64 ((rd_T52 l0_0 t218).f6)) ∧ w'.cell? ⟨(ad219.add ((t218).toNat * 9)).block, (ad219.add ((t218).toNat * 9)).off + 7, none⟩ = some (.slice A219_7 ((rd_T52 l0_0 t218).f7).length c219_7) ∧ w'.cell? ⟨(ad219.add ((t218).toNat * 9)).block, (ad219.add ((t218).toNat * 9)).off + 8, none⟩ = some (.int .i64 ((rd_T52 l0_0 t218).f8))) (ds := []) #[O,O,O,O,O,O,O,O,O,O,O,O,O,O,O,O,O,O,O,O,O,O,O,O,O,O,O,O,O] (by kernel_rfl) rfl rfl ⟨(blk_cell BK216.out 0).trans rfl, (blk_cell BK216.out 1).trans rfl, ((HB.out.cell (World.block_lt_of_cell? w _ hw219_0)).trans hw219_0), ((HB.out.cell (World.block_lt_of_cell? w _ hw219_1)).trans hw219_1), ((HB.out.cell (World.block_lt_of_cell? w _ hw219_2)).trans hw219_2), ((HB.out.cell (World.block_lt_of_cell? w _ hw219_3)).trans hw219_3), ((HB.out.cell (World.block_lt_of_cell? w _ hw219_4)).trans hw219_4), ((HB.out.cell (World.block_lt_of_cell? w _ hw219_5)).trans hw219_5), ((HB.out.cell (World.block_lt_of_cell? w _ hw219_6)).trans hw219_6), ((HB.out.cell (World.block_lt_of_cell? w _ hw219_7)).trans hw219_7), ((HB.out.cell (World.block_lt_of_cell? w _ hw219_8)).trans hw219_8), ((HB.out.cell (World.block_lt_of_cell? w _ hw220_0)).trans hw220_0), ((HB.out.cell (World.block_lt_of_cell? w _ hw220_1)).trans hw220_1), ((HB.out.cell (World.block_lt_of_cell? w _ hw220_2)).trans hw220_2), ((HB.out.cell (World.block_lt_of_cell? w _ hw220_3)).trans hw220_3), ((HB.out.cell (World.block_lt_of_cell? w _ hw220_4)).trans hw220_4), ((HB.out.cell (World.block_lt_of_cell? w _ hw220_5)).trans hw220_5), ((HB.out.cell (World.block_lt_of_cell? w _ hw220_6)).trans hw220_6), ((HB.out.cell (World.block_lt_of_cell? w _ hw220_7)).trans hw220_7), ((HB.out.cell (World.block_lt_of_cell? w _ hw220_8)).trans hw220_8)⟩ (fun hHeld => ?_); refine with_tabW spec_RoomFor.tab9 spec_RoomFor.bits9 (fun HT_ HW_ => ?_)
           generalize w30.drew = w31 at BK216 HB HR219_7 HR220_7 hx219_0 hx219_1 hx219_2 hx219_3 hx219_4 hx219_5 hx219_6 hx219_7 hx219_8 hx220_0 hx220_1 hx220_2 hx220_3 hx220_4 hx220_5 hx220_6 hx220_7 hx220_8 hHeld ⊢
           refine pz 0 23 #[Y,O,O,O,O,O,O,O,O,O,O,O,O,O,O,O,O,O,O,O,O,O,O,O,O,O,O,O,O] HT_ ?_
           refine pure_ (i := 2) (N := some 25) (v := ?_) (a' := ?_) #[Y,O,Y,O,O,O,O,O,O,O,O,O,O,O,O,O,O,O,O,O,O,O,O,O,O,O,O,O,O] rfl rfl (any_of HT_.out (by kernel_rfl)) (fun _ _ _ h => h) (Or.inl ⟨by rfl, ?_⟩) ?_ ?_
           rotate_left
           ·intro w'
            go_simp
            with_reducible rfl
           rotate_left
           ·simp only [Act.put, List.setIfInBounds_toArray, List.set_cons_zero, List.set_cons_succ, i64_w, i32_w]
            rfl
           refine take_ (i := 1) (N := some 24) (v := ?_) (a' := ?_) #[Y,Y,Y,O,O,O,O,O,O,O,O,O,O,O,O,O,O,O,O,O,O,O,O,O,O,O,O,O,O] rfl rfl (take_ofW HT_.out HW_.out (by kernel_rfl)) (fun _ _ _ h => h) (Or.inl ⟨by rfl, ?_⟩) hHeld ?_ ?_
           rotate_left
           ·rintro w' ⟨s0, s1, s2, s3, s4, s5, s6, s7, s8, s9, s10, s11, s12, s13, s14, s15, s16, s17, s18, s19⟩
            go_simp
            with_reducible rfl
           rotate_left
           ·simp only [Act.put, List.setIfInBounds_toArray, List.set_cons_zero, List.set_cons_succ, i64_w, i32_w]
            rfl
           refine pz 3 26 #[Y,Y,Y,Y,O,O,O,O,O,O,O,O,O,O,O,O,O,O,O,O,O,O,O,O,O,O,O,O,O] HT_ ?_
           refine pz 4 27 #[Y,Y,Y,Y,Y,O,O,O,O,O,O,O,O,O,O,O,O,O,O,O,O,O,O,O,O,O,O,O,O] HT_ ?_
           refine tz 5 28 #[Y,Y,Y,Y,Y,Y,O,O,O,O,O,O,O,O,O,O,O,O,O,O,O,O,O,O,O,O,O,O,O] HT_ HW_ hHeld ?_ (hr := by rintro w' ⟨s0, s1, s2, s3, s4, s5, s6, s7, s8, s9, s10, s11, s12, s13, s14, s15, s16, s17, s18, s19⟩; go_simp; with_reducible rfl)
           refine pz 6 29 #[Y,Y,Y,Y,Y,Y,Y,O,O,O,O,O,O,O,O,O,O,O,O,O,O,O,O,O,O,O,O,O,O] HT_ ?_
           refine pz 7 30 #[Y,Y,Y,Y,Y,Y,Y,Y,O,O,O,O,O,O,O,O,O,O,O,O,O,O,O,O,O,O,O,O,O] HT_ ?_
           refine pure_ (i := 9) (N := some 32) (v := ?_) (a' := ?_) #[Y,Y,Y,Y,Y,Y,Y,Y,O,Y,O,O,O,O,O,O,O,O,O,O,O,O,O,O,O,O,O,O,O] rfl rfl (any_of HT_.out (by kernel_rfl)) (fun _ _ _ h => h) (Or.inl ⟨by rfl, ?_⟩) ?_ ?_
           rotate_left
           ·intro w'
            go_simp
            with_reducible rfl
           rotate_left
           ·simp only [Act.put, List.setIfInBounds_toArray, List.set_cons_zero, List.set_cons_succ, i64_w, i32_w]
            rfl
           refine take_ (i := 8) (N := some 31) (v := ?_) (a' := ?_) #[Y,Y,Y,Y,Y,Y,Y,Y,Y,Y,O,O,O,O,O,O,O,O,O,O,O,O,O,O,O,O,O,O,O] rfl rfl (take_ofW HT_.out HW_.out (by kernel_rfl)) (fun _ _ _ h => h) (Or.inl ⟨by rfl, ?_⟩) hHeld ?_ ?_
           rotate_left
           ·rintro w' ⟨s0, s1, s2, s3, s4, s5, s6, s7, s8, s9, s10, s11, s12, s13, s14, s15, s16, s17, s18, s19⟩
            go_simp
            with_reducible rfl
           rotate_left
           ·simp only [Act.put, List.setIfInBounds_toArray, List.set_cons_zero, List.set_cons_succ, i64_w, i32_w]
            rfl
           refine pz 10 33 #[Y,Y,Y,Y,Y,Y,Y,Y,Y,Y,Y,O,O,O,O,O,O,O,O,O,O,O,O,O,O,O,O,O,O] HT_ ?_
           refine pz 11 34 #[Y,Y,Y,Y,Y,Y,Y,Y,Y,Y,Y,Y,O,O,O,O,O,O,O,O,O,O,O,O,O,O,O,O,O] HT_ ?_
           refine tz 12 35 #[Y,Y,Y,Y,Y,Y,Y,Y,Y,Y,Y,Y,Y,O,O,O,O,O,O,O,O,O,O,O,O,O,O,O,O] HT_ HW_ hHeld ?_ (hr := by rintro w' ⟨s0, s1, s2, s3, s4, s5, s6, s7, s8, s9, s10, s11, s12, s13, s14, s15, s16, s17, s18, s19⟩; go_simp; with_reducible rfl)
           refine pz 13 36 #[Y,Y,Y,Y,Y,Y,Y,Y,Y,Y,Y,Y,Y,Y,O,O,O,O,O,O,O,O,O,O,O,O,O,O,O] HT_ ?_
           refine pz 14 37 #[Y,Y,Y,Y,Y,Y,Y,Y,Y,Y,Y,Y,Y,Y,Y,O,O,O,O,O,O,O,O,O,O,O,O,O,O] HT_ ?_
           refine pz 15 38 #[Y,Y,Y,Y,Y,Y,Y,Y,Y,Y,Y,Y,Y,Y,Y,Y,O,O,O,O,O,O,O,O,O,O,O,O,O] HT_ ?_
           refine uz 16 39 #[Y,Y,Y,Y,Y,Y,Y,Y,Y,Y,Y,Y,Y,Y,Y,Y,Y,O,O,O,O,O,O,O,O,O,O,O,O] HT_ ?_
           refine uz 17 40 #[Y,Y,Y,Y,Y,Y,Y,Y,Y,Y,Y,Y,Y,Y,Y,Y,Y,Y,O,O,O,O,O,O,O,O,O,O,O] HT_ ?_
           refine uz 18 41 #[Y,Y,Y,Y,Y,Y,Y,Y,Y,Y,Y,Y,Y,Y,Y,Y,Y,Y,Y,O,O,O,O,O,O,O,O,O,O] HT_ ?_
           refine uz 19 42 #[Y,Y,Y,Y,Y,Y,Y,Y,Y,Y,Y,Y,Y,Y,Y,Y,Y,Y,Y,Y,O,O,O,O,O,O,O,O,O] HT_ ?_
           refine uz 20 43 #[Y,Y,Y,Y,Y,Y,Y,Y,Y,Y,Y,Y,Y,Y,Y,Y,Y,Y,Y,Y,Y,O,O,O,O,O,O,O,O] HT_ ?_
           refine uz 21 44 #[Y,Y,Y,Y,Y,Y,Y,Y,Y,Y,Y,Y,Y,Y,Y,Y,Y,Y,Y,Y,Y,Y,O,O,O,O,O,O,O] HT_ ?_
           refine uz 22 45 #[Y,Y,Y,Y,Y,Y,Y,Y,Y,Y,Y,Y,Y,Y,Y,Y,Y,Y,Y,Y,Y,Y,Y,O,O,O,O,O,O] HT_ ?_
           refine uz 23 46 #[Y,Y,Y,Y,Y,Y,Y,Y,Y,Y,Y,Y,Y,Y,Y,Y,Y,Y,Y,Y,Y,Y,Y,Y,O,O,O,O,O] HT_ ?_
           refine uz 24 47 #[Y,Y,Y,Y,Y,Y,Y,Y,Y,Y,Y,Y,Y,Y,Y,Y,Y,Y,Y,Y,Y,Y,Y,Y,Y,O,O,O,O] HT_ ?_
           refine uz 25 48 #[Y,Y,Y,Y,Y,Y,Y,Y,Y,Y,Y,Y,Y,Y,Y,Y,Y,Y,Y,Y,Y,Y,Y,Y,Y,Y,O,O,O] HT_ ?_
           refine uz 26 49 #[Y,Y,Y,Y,Y,Y,Y,Y,Y,Y,Y,Y,Y,Y,Y,Y,Y,Y,Y,Y,Y,Y,Y,Y,Y,Y,Y,O,O] HT_ ?_
           refine uz 27 50 #[Y,Y,Y,Y,Y,Y,Y,Y,Y,Y,Y,Y,Y,Y,Y,Y,Y,Y,Y,Y,Y,Y,Y,Y,Y,Y,Y,Y,O] HT_ ?_
           refine pz 28 51 #[Y,Y,Y,Y,Y,Y,Y,Y,Y,Y,Y,Y,Y,Y,Y,Y,Y,Y,Y,Y,Y,Y,Y,Y,Y,Y,Y,Y,Y] HT_ ?_
           refine done_ (done_of HT_.out (by kernel_rfl)) ?_
           obtain ⟨hcz32_0, hcz32_1, hfz32_0, hfz32_1⟩ := z2 BK216.out
           have p224 : 0 ≤ (t218 : Int) := oda
           have q224 : t218 < (l0_0.length : Int) := oda
           obtain ⟨ad224, A224_7, c224_7, e224, hx224_0, hx224_1, hx224_2, hx224_3, hx224_4, hx224_5, hx224_6, hx224_7, hx224_8, hl224_7, hi224_7⟩ := at_T52 HR0_0.out t218 p224 q224
           obtain rfl : ad219 = ad224 := (by injection e224)
           replace hx224_1 := hbc HB.out hx224_1
           replace hx224_7 := hbc HB.out hx224_7
           have HR224_7 := Aside0.mk hi224_7
           have HC224_7 := Aside0.mk hl224_7
           clear hi224_7 hl224_7
           replace p224 := eq_true p224
           replace q224 := eq_true q224
           have ea_ := Option.some.inj (hx219_7.symm.trans hx224_7)
           injection ea_ with ea_ en_ ec_
           subst ea_
           subst ec_
           clear en_
           try go_wp2
           go_roundg k1
           case measure => have := HK1.out; omega
           case rel => exact ⟨((rd_T52 l0_0 t218).f1), (wrap64 (x7_1 + 1)), eqa, eqa, H', ⟨by have := HK1.out; omega⟩, ⟨pk BK216.out⟩, ⟨pl1 HB.out GE216.out⟩⟩
         ·rw [if_neg c16] at H
          have c16b0 : (rd_T52 l0_0 t218).f3 = false := by simpa using c16
          clear c16
          have H' := Aside0.mk H
          clear H
          obtain ⟨hcz33_0, hcz33_1, hfz33_0, hfz33_1⟩ := z2 BK216.out
          try go_wp2_with (first | ((with_reducible refine gate_callee (f := 48) rfl ?_); refine goesL_ (some 18) rfl rfl Try.func48 (by kernel_rfl) rfl #[.agg #[.slice A0_0 l0_0.length c0_0, .int .i64 a0_1], .int .i64 x1_1] rfl (by (try simp only [List.map_toArray, List.map_cons, List.map_nil]); first | done | rfl | (simp only [List.length_drop, List.length_take]; rfl)) ?_; (with_reducible refine (spec_l10At.calls k1 _ _ l0_0 a0_1 x1_1 t218 _ ?side1 ?side2 A10.out).mono ?_); (case side1 => exact pc (Kd.C_below HR0_0.out HB.out)); (case side2 => exact HC0_0.out); rintro e w34 ⟨rfl, hb⟩; refine ⟨_, rfl, ?_⟩; have n0_ := Aside0.mk (pb BK216.out hb); have n1_ := Aside0.mk (below_step (pl1 HB.out GE216.out) hb); clear BK216; clear HB; have BK216 := n0_; have HB := n1_; clear n0_ n1_; (try clear hb); (try clear hb2); (try clear hk); (try clear hi)))
          have n0_ := Aside0.mk (blk_drew BK216.out)
          have n1_ := Aside0.mk (below_drew1 HB.out)
          clear BK216
          clear HB
          have BK216 := n0_
          have HB := n1_
          clear n0_ n1_
          have p219 : 0 ≤ (t218 : Int) := oda
          have q219 : t218 < (l0_0.length : Int) := oda
          obtain ⟨ad219, A219_7, c219_7, e219, hx219_0, hx219_1, hx219_2, hx219_3, hx219_4, hx219_5, hx219_6, hx219_7, hx219_8, hl219_7, hi219_7⟩ := at_T52 HR0_0.out t218 p219 q219
          have hw219_8 := hx219_8
          have hw219_7 := hx219_7
          have hw219_6 := hx219_6
          have hw219_5 := hx219_5
          have hw219_4 := hx219_4
          have hw219_3 := hx219_3
          have hw219_2 := hx219_2
          have hw219_1 := hx219_1
          have hw219_0 := hx219_0
          cases e219
          replace hx219_0 := hbc HB.out hx219_0
          replace hx219_1 := hbc HB.out hx219_1
          replace hx219_2 := hbc HB.out hx219_2
          replace hx219_3 := hbc HB.out hx219_3
          replace hx219_4 := hbc HB.out hx219_4
          replace hx219_5 := hbc HB.out hx219_5
          replace hx219_6 := hbc HB.out hx219_6
          replace hx219_7 := hbc HB.out hx219_7
          replace hx219_8 := hbc HB.out hx219_8
          have HR219_7 := Aside0.mk hi219_7
          have HC219_7 := Aside0.mk hl219_7
          clear hi219_7 hl219_7
          replace p219 := eq_true p219
          replace q219 := eq_true q219
          refine start_ (n := 29) (S := fun w' => w'.cell? ⟨gb216, 0, none⟩ = some (.slice (some ad219) l0_0.length c0_0) ∧ w'.cell? ⟨gb216, 1, none⟩ = some (.int .i64 a0_1) ∧ w'.cell? (ad219.add ((t218).toNat * 9)) = some (.int .i64 ((rd_T52 l0_0 t218).f0)) ∧ w'.cell? ⟨(ad219.add ((t218).toNat * 9)).block, (ad219.add ((t218).toNat * 9)).off + 1, none⟩ = some (.int .i64 ((rd_T52 l0_0 t218).f1)) ∧ w'.cell? ⟨(ad219.add ((t218).toNat * 9)).block, (ad219.add ((t218).toNat * 9)).off + 2, none⟩ = some (.string ((rd_T52 l0_0 t218).f2)) ∧ w'.cell? ⟨(ad219.add ((t218).toNat * 9)).block, (ad219.add ((t218).toNat * 9)).off + 3, none⟩ = some (.bool ((rd_T52 l0_0 t218).f3)) ∧ w'.cell? ⟨(ad219.add ((t218).toNat * 9)).block, (ad219.add ((t218).toNat * 9)).off + 4, none⟩ = some (.int .i64 ((rd_T52 l0_0 t218).f4)) ∧ w'.cell? ⟨(ad219.add ((t218).toNat * 9)).block, (ad219.add ((t218).toNat * 9)).off + 5, none⟩ = some (.int .i64 ((rd_T52 l0_0 t218).f5)) ∧ w'.cell? ⟨(ad219.add ((t218).toNat * 9)).block, (ad219.add ((t218).toNat * 9)).off + 6, none⟩ = some (.int .i64 ((rd_T52 l0_0 t218).f6)) ∧ w'.cell? ⟨(ad219.add ((t218).toNat * 9)).block, (ad219.add ((t218).toNat * 9)).off + 7, none⟩ = some (.slice A219_7 ((rd_T52 l0_0 t218).f7).length c219_7) ∧ w'.cell? ⟨(ad219.add ((t218).toNat * 9)).block, (ad219.add ((t218).toNat * 9)).off + 8, none⟩ = some (.int .i64 ((rd_T52 l0_0 t218).f8))) (ds := []) #[O,O,O,O,O,O,O,O,O,O,O,O,O,O,O,O,O,O,O,O,O,O,O,O,O,O,O,O,O] (by kernel_rfl) rfl rfl ⟨(blk_cell BK216.out 0).trans rfl, (blk_cell BK216.out 1).trans rfl, ((HB.out.cell (World.block_lt_of_cell? w _ hw219_0)).trans hw219_0), ((HB.out.cell (World.block_lt_of_cell? w _ hw219_1)).trans hw219_1), ((HB.out.cell (World.block_lt_of_cell? w _ hw219_2)).trans hw219_2), ((HB.out.cell (World.block_lt_of_cell? w _ hw219_3)).trans hw219_3), ((HB.out.cell (World.block_lt_of_cell? w _ hw219_4)).trans hw219_4), ((HB.out.cell (World.block_lt_of_cell? w _ hw219_5)).trans hw219_5), ((HB.out.cell (World.block_lt_of_cell? w _ hw219_6)).trans hw219_6), ((HB.out.cell (World.block_lt_of_cell? w _ hw219_7)).trans hw219_7), ((HB.out.cell (World.block_lt_of_cell? w _ hw219_8)).trans hw219_8)⟩ (fun hHeld => ?_); refine with_tabW spec_RoomFor.tab9 spec_RoomFor.bits9 (fun HT_ HW_ => ?_)
          generalize w34.drew = w35 at BK216 HB HR219_7 hx219_0 hx219_1 hx219_2 hx219_3 hx219_4 hx219_5 hx219_6 hx219_7 hx219_8 hHeld ⊢
          refine pz 0 23 #[Y,O,O,O,O,O,O,O,O,O,O,O,O,O,O,O,O,O,O,O,O,O,O,O,O,O,O,O,O] HT_ ?_
          refine pure_ (i := 2) (N := some 25) (v := ?_) (a' := ?_) #[Y,O,Y,O,O,O,O,O,O,O,O,O,O,O,O,O,O,O,O,O,O,O,O,O,O,O,O,O,O] rfl rfl (any_of HT_.out (by kernel_rfl)) (fun _ _ _ h => h) (Or.inl ⟨by rfl, ?_⟩) ?_ ?_
          rotate_left
          ·intro w'
           go_simp
           with_reducible rfl
          rotate_left
          ·simp only [Act.put, List.setIfInBounds_toArray, List.set_cons_zero, List.set_cons_succ, i64_w, i32_w]
           rfl
          refine take_ (i := 1) (N := some 24) (v := ?_) (a' := ?_) #[Y,Y,Y,O,O,O,O,O,O,O,O,O,O,O,O,O,O,O,O,O,O,O,O,O,O,O,O,O,O] rfl rfl (take_ofW HT_.out HW_.out (by kernel_rfl)) (fun _ _ _ h => h) (Or.inl ⟨by rfl, ?_⟩) hHeld ?_ ?_
          rotate_left
          ·rintro w' ⟨s0, s1, s2, s3, s4, s5, s6, s7, s8, s9, s10⟩
           go_simp
           with_reducible rfl
          rotate_left
          ·simp only [Act.put, List.setIfInBounds_toArray, List.set_cons_zero, List.set_cons_succ, i64_w, i32_w]
           rfl
          refine pz 3 26 #[Y,Y,Y,Y,O,O,O,O,O,O,O,O,O,O,O,O,O,O,O,O,O,O,O,O,O,O,O,O,O] HT_ ?_
          refine pz 4 27 #[Y,Y,Y,Y,Y,O,O,O,O,O,O,O,O,O,O,O,O,O,O,O,O,O,O,O,O,O,O,O,O] HT_ ?_
          refine tz 5 28 #[Y,Y,Y,Y,Y,Y,O,O,O,O,O,O,O,O,O,O,O,O,O,O,O,O,O,O,O,O,O,O,O] HT_ HW_ hHeld ?_ (hr := by rintro w' ⟨s0, s1, s2, s3, s4, s5, s6, s7, s8, s9, s10⟩; go_simp; with_reducible rfl)
          refine pz 6 29 #[Y,Y,Y,Y,Y,Y,Y,O,O,O,O,O,O,O,O,O,O,O,O,O,O,O,O,O,O,O,O,O,O] HT_ ?_
          refine uz 7 30 #[Y,Y,Y,Y,Y,Y,Y,Y,O,O,O,O,O,O,O,O,O,O,O,O,O,O,O,O,O,O,O,O,O] HT_ ?_
          refine uz 8 31 #[Y,Y,Y,Y,Y,Y,Y,Y,Y,O,O,O,O,O,O,O,O,O,O,O,O,O,O,O,O,O,O,O,O] HT_ ?_
          refine uz 9 32 #[Y,Y,Y,Y,Y,Y,Y,Y,Y,Y,O,O,O,O,O,O,O,O,O,O,O,O,O,O,O,O,O,O,O] HT_ ?_
          refine uz 10 33 #[Y,Y,Y,Y,Y,Y,Y,Y,Y,Y,Y,O,O,O,O,O,O,O,O,O,O,O,O,O,O,O,O,O,O] HT_ ?_
          refine uz 11 34 #[Y,Y,Y,Y,Y,Y,Y,Y,Y,Y,Y,Y,O,O,O,O,O,O,O,O,O,O,O,O,O,O,O,O,O] HT_ ?_
          refine uz 12 35 #[Y,Y,Y,Y,Y,Y,Y,Y,Y,Y,Y,Y,Y,O,O,O,O,O,O,O,O,O,O,O,O,O,O,O,O] HT_ ?_
          refine uz 13 36 #[Y,Y,Y,Y,Y,Y,Y,Y,Y,Y,Y,Y,Y,Y,O,O,O,O,O,O,O,O,O,O,O,O,O,O,O] HT_ ?_
          refine pz 14 37 #[Y,Y,Y,Y,Y,Y,Y,Y,Y,Y,Y,Y,Y,Y,Y,O,O,O,O,O,O,O,O,O,O,O,O,O,O] HT_ ?_
          refine pz 15 38 #[Y,Y,Y,Y,Y,Y,Y,Y,Y,Y,Y,Y,Y,Y,Y,Y,O,O,O,O,O,O,O,O,O,O,O,O,O] HT_ ?_
          refine uz 16 39 #[Y,Y,Y,Y,Y,Y,Y,Y,Y,Y,Y,Y,Y,Y,Y,Y,Y,O,O,O,O,O,O,O,O,O,O,O,O] HT_ ?_
          refine uz 17 40 #[Y,Y,Y,Y,Y,Y,Y,Y,Y,Y,Y,Y,Y,Y,Y,Y,Y,Y,O,O,O,O,O,O,O,O,O,O,O] HT_ ?_
          refine uz 18 41 #[Y,Y,Y,Y,Y,Y,Y,Y,Y,Y,Y,Y,Y,Y,Y,Y,Y,Y,Y,O,O,O,O,O,O,O,O,O,O] HT_ ?_
          refine uz 19 42 #[Y,Y,Y,Y,Y,Y,Y,Y,Y,Y,Y,Y,Y,Y,Y,Y,Y,Y,Y,Y,O,O,O,O,O,O,O,O,O] HT_ ?_
          refine uz 20 43 #[Y,Y,Y,Y,Y,Y,Y,Y,Y,Y,Y,Y,Y,Y,Y,Y,Y,Y,Y,Y,Y,O,O,O,O,O,O,O,O] HT_ ?_
          refine uz 21 44 #[Y,Y,Y,Y,Y,Y,Y,Y,Y,Y,Y,Y,Y,Y,Y,Y,Y,Y,Y,Y,Y,Y,O,O,O,O,O,O,O] HT_ ?_
          refine uz 22 45 #[Y,Y,Y,Y,Y,Y,Y,Y,Y,Y,Y,Y,Y,Y,Y,Y,Y,Y,Y,Y,Y,Y,Y,O,O,O,O,O,O] HT_ ?_
          refine uz 23 46 #[Y,Y,Y,Y,Y,Y,Y,Y,Y,Y,Y,Y,Y,Y,Y,Y,Y,Y,Y,Y,Y,Y,Y,Y,O,O,O,O,O] HT_ ?_
          refine uz 24 47 #[Y,Y,Y,Y,Y,Y,Y,Y,Y,Y,Y,Y,Y,Y,Y,Y,Y,Y,Y,Y,Y,Y,Y,Y,Y,O,O,O,O] HT_ ?_
          refine uz 25 48 #[Y,Y,Y,Y,Y,Y,Y,Y,Y,Y,Y,Y,Y,Y,Y,Y,Y,Y,Y,Y,Y,Y,Y,Y,Y,Y,O,O,O] HT_ ?_
          refine uz 26 49 #[Y,Y,Y,Y,Y,Y,Y,Y,Y,Y,Y,Y,Y,Y,Y,Y,Y,Y,Y,Y,Y,Y,Y,Y,Y,Y,Y,O,O] HT_ ?_
          refine uz 27 50 #[Y,Y,Y,Y,Y,Y,Y,Y,Y,Y,Y,Y,Y,Y,Y,Y,Y,Y,Y,Y,Y,Y,Y,Y,Y,Y,Y,Y,O] HT_ ?_
          refine pz 28 51 #[Y,Y,Y,Y,Y,Y,Y,Y,Y,Y,Y,Y,Y,Y,Y,Y,Y,Y,Y,Y,Y,Y,Y,Y,Y,Y,Y,Y,Y] HT_ ?_
          refine done_ (done_of HT_.out (by kernel_rfl)) ?_
          obtain ⟨hcz36_0, hcz36_1, hfz36_0, hfz36_1⟩ := z2 BK216.out
          have p225 : 0 ≤ (t218 : Int) := oda
          have q225 : t218 < (l0_0.length : Int) := oda
          obtain ⟨ad225, A225_7, c225_7, e225, hx225_0, hx225_1, hx225_2, hx225_3, hx225_4, hx225_5, hx225_6, hx225_7, hx225_8, hl225_7, hi225_7⟩ := at_T52 HR0_0.out t218 p225 q225
          obtain rfl : ad219 = ad225 := (by injection e225)
          replace hx225_1 := hbc HB.out hx225_1
          replace hx225_7 := hbc HB.out hx225_7
          have HR225_7 := Aside0.mk hi225_7
          have HC225_7 := Aside0.mk hl225_7
          clear hi225_7 hl225_7
          replace p225 := eq_true p225
          replace q225 := eq_true q225
          have ea_ := Option.some.inj (hx219_7.symm.trans hx225_7)
          injection ea_ with ea_ en_ ec_
          subst ea_
          subst ec_
          clear en_
          try go_wp2
          go_roundg k1
          case measure => have := HK1.out; omega
          case rel => exact ⟨((rd_T52 l0_0 t218).f1), (wrap64 (x7_1 + 1)), eqa, eqa, H', ⟨by have := HK1.out; omega⟩, ⟨pk BK216.out⟩, ⟨pl1 HB.out GE216.out⟩⟩
        ·rw [if_neg c15] at H
         exact absurd H (by simp)
       ·rw [if_neg c14] at H
        exact absurd H (by simp)
     ·rw [if_neg c9] at H
      have c9b0 : decide (x7_1 ≤ 14) = false := decide_eq_false c9
      clear c9
      obtain rfl := Option.some.inj H
      go_wp2
      go_ret
      exact ⟨erq, pl1 HB.out GE216.out⟩
  ·replace c5 := Bool.eq_false_iff.mpr c5
   subst c5
   have H1 : (some false) = some r := by rw [if_neg (show ¬ (false = true) by decide)] at H; exact H
   clear H
   have H := H1
   clear H1
   obtain rfl := Option.some.inj H
   go_enter Try.func20, Try.ntmps20
   go_wp2_with (first | ((with_reducible refine gate_dst (N := 3) rfl ?_); refine box_event ?hg (N := 3) ?hd (cs := #[.slice A0_0 l0_0.length c0_0, .int .i64 a0_1]) (t := 29) ?hr ?_; (case hd => rfl); (case hg => rfl); (case hr => first | (go_simp; done) | (go_simp; rfl)); intro gb216 hg w37 hbox hb; have n0_ := Aside0.mk (below_step (pl0 HB.out) hb); have n1_ := Aside0.mk (hbox); have n2_ := Aside0.mk ((by rw [hg]; exact (below_size (pl0 HB.out)) : w.heap.size ≤ gb216)); have n3_ := Aside0.mk ((by rw [hg]; exact (below_size (pl0 HB.out)) : w.heap.size ≤ gb216)); clear HB; have HB := n0_; have BK216 := n1_; have GW216 := n2_; have GE216 := n3_; clear n0_ n1_ n2_ n3_; clear hb hbox hg; have hcz38_0 : w37.cell? ⟨gb216, 0, none⟩ = some (.slice A0_0 l0_0.length c0_0) := (blk_cell BK216.out 0).trans rfl; have hcz38_1 : w37.cell? ⟨gb216, 1, none⟩ = some (.int .i64 a0_1) := (blk_cell BK216.out 1).trans rfl; have hfz38_0 := blk_frozen BK216.out 0; have hfz38_1 := blk_frozen BK216.out 1) | ((with_reducible refine gate_callee (f := 12) rfl ?_); refine goesL_ (some 10) rfl rfl Try.func12 (by kernel_rfl) rfl #[.agg #[.slice A0_0 l0_0.length c0_0, .int .i64 a0_1]] rfl (by (try simp only [List.map_toArray, List.map_cons, List.map_nil]); first | done | rfl | (simp only [List.length_drop, List.length_take]; rfl)) ?_; (with_reducible refine (spec_TreeOk.calls k _ _ l0_0 a0_1 false _ ?side1 ?side2 A4.out).mono ?_); (case side1 => exact pc (Kd.C_below HR0_0.out HB.out)); (case side2 => exact HC0_0.out); rintro e w39 ⟨rfl, hb⟩; refine ⟨_, rfl, ?_⟩; have n0_ := Aside0.mk (pb BK216.out hb); have n1_ := Aside0.mk (below_step (pl1 HB.out GE216.out) hb); clear BK216; clear HB; have BK216 := n0_; have HB := n1_; clear n0_ n1_; (try clear hb); (try clear hb2); (try clear hk); (try clear hi)))
   go_ret
   exact ⟨erq, pl1 HB.out GE216.out⟩

end Go.Proofs.Ytnhbfbgflgplcaa.QTW
