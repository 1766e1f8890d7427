/- Walks, as the kit's print writes them, run with stubs of my own and mended: TW. -/
import Derived.Test.YtnhbfbgflgplcaaQTW0
import Derived.Test.YtnhbfbgflgplcaaQTW12
namespace Go.Proofs.Ytnhbfbgflgplcaa.QTW
open Go.Proofs.YtnhbfbgflgplcaaW Go.Proofs.YtnhbfbgflgplcaaW.Zip
open Go.RowKit Go.Proofs.YtnhbfbgflgplcaaW.PrintWords Go.Proofs.YtnhbfbgflgplcaaW.PrintLast Go.Proofs.YtnhbfbgflgplcaaW.PrintMore
attribute [local go_sem] max2_int min2_int max_two min_two max_three min_three max_four min_four   -- for this text's walks alone
set_option linter.unusedVariables false
set_option linter.unusedSimpArgs false

/-! ### impl_reaches: function 44 -/
mutual
def impl_reaches.l0 : Nat → Int → List (S52) → Int → Int → Int → ByteArray → Bool → Int → Int → Int → List (S64) → Int → Option (Bool)
  | 0, _, _, _, _, _, _, _, _, _, _, _, _ => none
  | k + 1, x5, x245000, x245001, x246000, x246001, x246002, x246003, x246004, x246005, x246006, x246007, x246008 => if x5 < 4 then ((impl_nodeAt.f k x245000 x245001 x246001).bind fun t246 => (if t246 < 0 then (impl_reaches.j1 k x5 t246 true x245000 x245001) else (if 0 ≤ t246 then (if t246 < (x245000.length : Int) then (impl_reaches.j1 k x5 t246 (!((rd_T52 x245000 t246).f3)) x245000 x245001) else (none)) else (none)))) else (some false)
def impl_reaches.j1 : Nat → Int → Int → Bool → List (S52) → Int → Option (Bool)
  | 0, _, _, _, _, _ => none
  | k + 1, x5, x6, x25, x245000, x245001 => if x25 = true then (some false) else (if 0 ≤ x6 then (if x6 < (x245000.length : Int) then (if ((rd_T52 x245000 x6).f0) = 1 then (some true) else (impl_reaches.l0 k (wrap64 (x5 + 1)) x245000 x245001 ((rd_T52 x245000 x6).f0) ((rd_T52 x245000 x6).f1) ((rd_T52 x245000 x6).f2) ((rd_T52 x245000 x6).f3) ((rd_T52 x245000 x6).f4) ((rd_T52 x245000 x6).f5) ((rd_T52 x245000 x6).f6) ((rd_T52 x245000 x6).f7) ((rd_T52 x245000 x6).f8))) else (none)) else (none))
end
def impl_reaches.f (k : Nat) (l0_0 : List (S52)) (a0_1 : Int) (a1_0 : Int) (a1_1 : Int) (a1_2 : ByteArray) (a1_3 : Bool) (a1_4 : Int) (a1_5 : Int) (a1_6 : Int) (l1_7 : List (S64)) (a1_8 : Int) : Option (Bool) := impl_reaches.l0 k 0 l0_0 a0_1 a1_0 a1_1 a1_2 a1_3 a1_4 a1_5 a1_6 l1_7 a1_8
theorem impl_reaches.mono_l : ∀ k, (∀ y0 y1 y2 y3 y4 y5 y6 y7 y8 y9 y10 y11, LeO (impl_reaches.l0 k y0 y1 y2 y3 y4 y5 y6 y7 y8 y9 y10 y11) (impl_reaches.l0 (k + 1) y0 y1 y2 y3 y4 y5 y6 y7 y8 y9 y10 y11)) ∧ (∀ y0 y1 y2 y3 y4, LeO (impl_reaches.j1 k y0 y1 y2 y3 y4) (impl_reaches.j1 (k + 1) y0 y1 y2 y3 y4))
  | 0 => ⟨fun _ _ _ _ _ _ _ _ _ _ _ _ r h => by simp [impl_reaches.l0] at h, fun _ _ _ _ _ r h => by simp [impl_reaches.j1] at h⟩
  | k + 1 => by
    obtain ⟨ih0, ih1⟩ := impl_reaches.mono_l k
    refine ⟨?_, ?_⟩
    · intro y0 y1 y2 y3 y4 y5 y6 y7 y8 y9 y10 y11
      unfold impl_reaches.l0
      repeat' first
      | (with_reducible exact ih0 _ _ _ _ _ _ _ _ _ _ _ _)
      | (with_reducible exact ih1 _ _ _ _ _)
      | (with_reducible exact impl_nodeAt.mono _ _ _ _)
      | (with_reducible exact LeO.refl _)
      | (with_reducible exact LeO.none _)
      | (with_reducible refine LeO.ite ?_ ?_)
      | (with_reducible refine LeO.bind ?_ (fun _ => ?_))
      | exact ih0 _ _ _ _ _ _ _ _ _ _ _ _
      | exact ih1 _ _ _ _ _
      | exact impl_nodeAt.mono _ _ _ _
      | exact LeO.none _
      | refine LeO.ite ?_ ?_
      | refine LeO.bind ?_ (fun _ => ?_)
    · intro y0 y1 y2 y3 y4
      unfold impl_reaches.j1
      repeat' first
      | (with_reducible exact ih0 _ _ _ _ _ _ _ _ _ _ _ _)
      | (with_reducible exact ih1 _ _ _ _ _)
      | (with_reducible exact impl_nodeAt.mono _ _ _ _)
      | (with_reducible exact LeO.refl _)
      | (with_reducible exact LeO.none _)
      | (with_reducible refine LeO.ite ?_ ?_)
      | (with_reducible refine LeO.bind ?_ (fun _ => ?_))
      | exact ih0 _ _ _ _ _ _ _ _ _ _ _ _
      | exact ih1 _ _ _ _ _
      | exact impl_nodeAt.mono _ _ _ _
      | exact LeO.none _
      | refine LeO.ite ?_ ?_
      | refine LeO.bind ?_ (fun _ => ?_)
theorem impl_reaches.mono : ∀ a0 a1 a2 a3 a4 a5 a6 a7 a8 a9 a10 k, LeO (impl_reaches.f k a0 a1 a2 a3 a4 a5 a6 a7 a8 a9 a10) (impl_reaches.f (k + 1) a0 a1 a2 a3 a4 a5 a6 a7 a8 a9 a10) := by
  intro a0 a1 a2 a3 a4 a5 a6 a7 a8 a9 a10 k
  obtain ⟨ih0, ih1⟩ := impl_reaches.mono_l k
  unfold impl_reaches.f
  repeat' first
      | (with_reducible exact ih0 _ _ _ _ _ _ _ _ _ _ _ _)
      | (with_reducible exact ih1 _ _ _ _ _)
      | (with_reducible exact impl_nodeAt.mono _ _ _ _)
      | (with_reducible exact LeO.refl _)
      | (with_reducible exact LeO.none _)
      | (with_reducible refine LeO.ite ?_ ?_)
      | (with_reducible refine LeO.bind ?_ (fun _ => ?_))
      | exact ih0 _ _ _ _ _ _ _ _ _ _ _ _
      | exact ih1 _ _ _ _ _
      | exact impl_nodeAt.mono _ _ _ _
      | exact LeO.none _
      | refine LeO.ite ?_ ?_
      | refine LeO.bind ?_ (fun _ => ?_)
set_option maxHeartbeats 8000000 in
set_option maxRecDepth 100000 in
theorem impl_reaches.calls (k : Nat) (P0_0_ : Nat → Prop) (A0_0 : Option Addr) (c0_0 : Nat) (l0_0 : List (S52)) (a0_1 : Int) (a1_0 : Int) (a1_1 : Int) (a1_2 : ByteArray) (a1_3 : Bool) (a1_4 : Int) (a1_5 : Int) (a1_6 : Int) (P1_7_ : Nat → Prop) (A1_7 : Option Addr) (c1_7 : Nat) (l1_7 : List (S64)) (a1_8 : Int) (r : Bool) (w : World) (hs0_0 : Kd.V k52 52 w w.heap.size (fun k_ => P0_0_ k_) (.slice A0_0 l0_0.length c0_0) l0_0) (hs1_7 : Kd.V k64 64 w w.heap.size (fun k_ => P1_7_ k_) (.slice A1_7 l1_7.length c1_7) l1_7) (h : impl_reaches.f k l0_0 a0_1 a1_0 a1_1 a1_2 a1_3 a1_4 a1_5 a1_6 l1_7 a1_8 = some r) :
    Calls Try.prog 44 #[.agg #[.slice A0_0 l0_0.length c0_0, .int .i64 a0_1], .agg #[.int .i64 a1_0, .int .i64 a1_1, .string a1_2, .bool a1_3, .int .i64 a1_4, .int .i64 a1_5, .int .i64 a1_6, .slice A1_7 l1_7.length c1_7, .int .i64 a1_8]] w fun e w' => e = .returned (.bool r) ∧ Below w.heap.size w w' := by
  have hu29 := Try.underlying29
  have hu52 := Try.underlying52
  have HO0_0 := Aside0.mk (show Kd.V k52 52 w w.heap.size (fun k_ => ((P0_0_ k_ ∨ P1_7_ k_) ∨ w.heap.size ≤ k_)) (.slice A0_0 l0_0.length c0_0) l0_0 from Kd.V_mono hs0_0 (fun k_ hk => .inl (.inl hk)))
  have HO1_7 := Aside0.mk (show Kd.V k64 64 w w.heap.size (fun k_ => ((P0_0_ k_ ∨ P1_7_ k_) ∨ w.heap.size ≤ k_)) (.slice A1_7 l1_7.length c1_7) l1_7 from Kd.V_mono hs1_7 (fun k_ hk => .inl (.inr hk)))
  have HB := Aside0.mk (Below.refl w.heap.size w)
  have H : (impl_reaches.l0 k 0 l0_0 a0_1 a1_0 a1_1 a1_2 a1_3 a1_4 a1_5 a1_6 l1_7 a1_8) = some r := h
  clear h
  have H' := Aside0.mk H
  clear H
  go_enter Try.func44, Try.ntmps44
  go_wp2_with (first | ((with_reducible refine gate_dst (N := 2) rfl ?_); refine box_event ?hg (N := 2) ?hd (cs := #[.slice A0_0 l0_0.length c0_0, .int .i64 a0_1]) (t := 29) ?hr ?_; (case hd => rfl); (case hg => rfl); (case hr => first | (go_simp; done) | (go_simp; rfl)); intro gb244 hg w3 hbox hb; have n0_ := Aside0.mk (Kd.V_below (Kd.V_elderB (by (with_reducible repeat (first | apply Kd.V_alloc | apply Kd.V_drewN | apply Kd.V_drew)); exact HO0_0.out) gb244 (Nat.le_of_eq hg.symm)) hb); have n1_ := Aside0.mk (Kd.V_below (Kd.V_elderB (by (with_reducible repeat (first | apply Kd.V_alloc | apply Kd.V_drewN | apply Kd.V_drew)); exact HO1_7.out) gb244 (Nat.le_of_eq hg.symm)) hb); have n2_ := Aside0.mk (below_step (pl0 HB.out) hb); have n3_ := Aside0.mk (hbox); have n4_ := Aside0.mk ((by rw [hg]; exact (below_size (pl0 HB.out)) : w.heap.size ≤ gb244)); have n5_ := Aside0.mk ((by rw [hg]; exact (below_size (pl0 HB.out)) : w.heap.size ≤ gb244)); clear HO0_0; clear HO1_7; clear HB; have HO0_0 := n0_; have HO1_7 := n1_; have HB := n2_; have BK244 := n3_; have GW244 := n4_; have GE244 := n5_; clear n0_ n1_ n2_ n3_ n4_ n5_; clear hb hbox hg) | ((with_reducible refine gate_dst (N := 3) rfl ?_); refine box_event ?hg (N := 3) ?hd (cs := #[.int .i64 a1_0, .int .i64 a1_1, .string a1_2, .bool a1_3, .int .i64 a1_4, .int .i64 a1_5, .int .i64 a1_6, .slice A1_7 l1_7.length c1_7, .int .i64 a1_8]) (t := 52) ?hr ?_; (case hd => rfl); (case hg => rfl); (case hr => first | (go_simp; done) | (go_simp; rfl)); intro gb245 hg w4 hbox hb; have n0_ := Aside0.mk (Kd.V_below (Kd.V_elderB (by (with_reducible repeat (first | apply Kd.V_alloc | apply Kd.V_drewN | apply Kd.V_drew)); exact HO0_0.out) gb245 (Nat.le_of_eq hg.symm)) hb); have n1_ := Aside0.mk (Kd.V_below (Kd.V_elderB (by (with_reducible repeat (first | apply Kd.V_alloc | apply Kd.V_drewN | apply Kd.V_drew)); exact HO1_7.out) gb245 (Nat.le_of_eq hg.symm)) hb); have n2_ := Aside0.mk (pb BK244.out hb); have n3_ := Aside0.mk (below_step (pl1 HB.out GE244.out) hb); have n4_ := Aside0.mk (hbox); have n5_ := Aside0.mk ((by rw [hg]; exact (below_size (pl1 HB.out GE244.out)) : w.heap.size ≤ gb245)); have n6_ := Aside0.mk ((by rw [hg]; exact (below_size (pl1 HB.out GE244.out)) : w.heap.size ≤ gb245)); have n7_ := Aside0.mk ((by rw [hg]; exact Nat.ne_of_lt (blk_lt (g := gb244) (o := .cells #[.slice A0_0 l0_0.length c0_0, .int .i64 a0_1] 29 (0, 0)) (pk BK244.out)) : gb244 ≠ gb245)); have n8_ := Aside0.mk ((by rw [hg]; exact Nat.ne_of_gt (blk_lt (g := gb244) (o := .cells #[.slice A0_0 l0_0.length c0_0, .int .i64 a0_1] 29 (0, 0)) (pk BK244.out)) : gb245 ≠ gb244)); clear HO0_0; clear HO1_7; clear BK244; clear HB; have HO0_0 := n0_; have HO1_7 := n1_; have BK244 := n2_; have HB := n3_; have BK245 := n4_; have GW245 := n5_; have GE245 := n6_; have NB244_245 := n7_; have NB245_244 := n8_; clear n0_ n1_ n2_ n3_ n4_ n5_ n6_ n7_ n8_; clear hb hbox hg))
  go_loopg [5] k (fun kq v5 w' => ∃ (x5_1 : Int) (x246000_1 : Int) (x246001_1 : Int) (x246002_1 : ByteArray) (x246003_1 : Bool) (x246004_1 : Int) (x246005_1 : Int) (x246006_1 : Int) (x246007_1 : List (S64)) (x246008_1 : Int) (u246007 : Value), v5 = .int .i64 x5_1 ∧ Aside0 (impl_reaches.l0 kq x5_1 l0_0 a0_1 x246000_1 x246001_1 x246002_1 x246003_1 x246004_1 x246005_1 x246006_1 x246007_1 x246008_1 = some r) ∧ Aside0 (kq ≤ k) ∧ Aside0 (Kd.V k52 52 w' w.heap.size (fun k_ => ((P0_0_ k_ ∨ P1_7_ k_) ∨ w.heap.size ≤ k_) ∧ k_ ≠ gb244 ∧ k_ ≠ gb245) (.slice A0_0 l0_0.length c0_0) l0_0) ∧ Aside0 (Kd.V k64 64 w' w.heap.size (fun k_ => ((P0_0_ k_ ∨ P1_7_ k_) ∨ w.heap.size ≤ k_) ∧ k_ ≠ gb244 ∧ k_ ≠ gb245) u246007 x246007_1) ∧ Aside0 (w'.heap[gb244]? = some (.cells #[(.slice A0_0 l0_0.length c0_0), .int .i64 a0_1] 29 (0, 0))) ∧ Aside0 (w'.heap[gb245]? = some (.cells #[.int .i64 x246000_1, .int .i64 x246001_1, .string x246002_1, .bool x246003_1, .int .i64 x246004_1, .int .i64 x246005_1, .int .i64 x246006_1, u246007, .int .i64 x246008_1] 52 (0, 0))) ∧ Aside0 (Below w.heap.size w w'))
  case atStart => exact ⟨(0), (a1_0), (a1_1), (a1_2), (a1_3), (a1_4), (a1_5), (a1_6), (l1_7), (a1_8), (.slice A1_7 l1_7.length c1_7), eqa, H', ⟨Nat.le_refl _⟩, ⟨by (with_reducible repeat (first | apply Kd.V_alloc | apply Kd.V_drewN | apply Kd.V_drew)); exact Kd.V_mono HO0_0.out (fun _ hk => ⟨hk.1.1, ⟨hk.1.2, hk.2⟩⟩)⟩, ⟨by (with_reducible repeat (first | apply Kd.V_alloc | apply Kd.V_drewN | apply Kd.V_drew)); exact Kd.V_mono HO1_7.out (fun _ hk => ⟨hk.1.1, ⟨hk.1.2, hk.2⟩⟩)⟩, ⟨pk BK244.out⟩, ⟨pk BK245.out⟩, ⟨pl2 HB.out GE244.out GE245.out⟩⟩
  case round =>
   clear H'
   obtain ⟨x5_1, x246000_1, x246001_1, x246002_1, x246003_1, x246004_1, x246005_1, x246006_1, x246007_1, x246008_1, u246007, rfl, HA, HK1, HO_245000, HO_246007, BK244, BK245, HB⟩ := hrel
   cases gk with
   | zero => exact absurd HA.out (by simp [impl_reaches.l0])
   | succ k1 =>
    have H := HA.out
    clear HA
    simp only [impl_reaches.l0] at H
    by_cases c5 : x5_1 < 4
    ·rw [if_pos c5] at H
     have c5b0 : decide (x5_1 < 4) = true := decide_eq_true c5
     clear c5
     replace H := Option.bind_eq_some_iff.mp H
     obtain ⟨t246, A60, H⟩ := H
     replace H : (if t246 < 0 then (impl_reaches.j1 k1 x5_1 t246 true l0_0 a0_1) else (if 0 ≤ t246 then (if t246 < (l0_0.length : Int) then (impl_reaches.j1 k1 x5_1 t246 (!((rd_T52 l0_0 t246).f3)) l0_0 a0_1) else (none)) else (none))) = some r := H
     have A6 := Aside0.mk A60
     clear A60
     have HC7 := Aside0.mk H
     clear H
     have hnb8 := NB244_245.out
     have hnc8 := NB245_244.out
     obtain ⟨hcz9_0, hcz9_1, hfz9_0, hfz9_1⟩ := z2 BK244.out
     obtain ⟨hcz10_0, hcz10_1, hcz10_2, hcz10_3, hcz10_4, hcz10_5, hcz10_6, hcz10_7, hcz10_8, hfz10_0, hfz10_1, hfz10_2, hfz10_3, hfz10_4, hfz10_5, hfz10_6, hfz10_7, hfz10_8⟩ := z9 BK245.out
     go_upto_region 5 with (first | ((with_reducible refine gate_callee (f := 49) rfl ?_); refine goesL_ (some 14) rfl rfl Try.func49 (by kernel_rfl) rfl #[.agg #[.slice A0_0 l0_0.length c0_0, .int .i64 a0_1], .int .i64 x246001_1] rfl (by (try simp only [List.map_toArray, List.map_cons, List.map_nil]); first | done | rfl | (simp only [List.length_drop, List.length_take]; rfl)) ?_; (with_reducible refine (impl_nodeAt.calls k1 _ _ l0_0 a0_1 x246001_1 t246 _ ?side1 ?side2 A6.out).mono ?_); (case side1 => repeat (first | exact (Kd.V_reads' HO_245000.out).2.2 | (with_reducible refine Kd.C_alloc ?_ _) | (with_reducible refine Kd.C_drewN ?_ _) | (with_reducible refine Kd.C_drew ?_))); (case side2 => exact (Kd.V_reads' HO_245000.out).2.1); rintro e w11 ⟨rfl, hb⟩; refine ⟨_, rfl, ?_⟩; have n0_ := Aside0.mk (Kd.V_below (by (with_reducible repeat (first | apply Kd.V_alloc | apply Kd.V_drewN | apply Kd.V_drew)); exact HO_245000.out) hb); have n1_ := Aside0.mk (Kd.V_below (by (with_reducible repeat (first | apply Kd.V_alloc | apply Kd.V_drewN | apply Kd.V_drew)); exact HO_246007.out) hb); have n2_ := Aside0.mk (pb BK244.out hb); have n3_ := Aside0.mk (pb BK245.out hb); have n4_ := Aside0.mk (below_step (pl2 HB.out GE244.out GE245.out) hb); clear HO_245000; clear HO_246007; clear BK244; clear BK245; clear HB; have HO_245000 := n0_; have HO_246007 := n1_; have BK244 := n2_; have BK245 := n3_; have HB := n4_; clear n0_ n1_ n2_ n3_ n4_; (try clear hb); (try clear hb2); (try clear hk); (try clear hi)))
     (try simp only [Act.put, List.setIfInBounds_toArray, List.set_cons_zero, List.set_cons_succ])
     go_cut [25] (fun v25 wc => ∃ (kq : Nat) (x25_6 : Bool), v25 = .bool x25_6 ∧ Aside0 (impl_reaches.j1 kq x5_1 t246 x25_6 l0_0 a0_1 = some r) ∧ Aside0 (kq ≤ k1) ∧ Aside0 (Kd.V k52 52 wc w.heap.size (fun k_ => ((P0_0_ k_ ∨ P1_7_ k_) ∨ w.heap.size ≤ k_) ∧ k_ ≠ gb244 ∧ k_ ≠ gb245) (.slice A0_0 l0_0.length c0_0) l0_0) ∧ Aside0 (Kd.V k64 64 wc w.heap.size (fun k_ => ((P0_0_ k_ ∨ P1_7_ k_) ∨ w.heap.size ≤ k_) ∧ k_ ≠ gb244 ∧ k_ ≠ gb245) u246007 x246007_1) ∧ Aside0 (wc.heap[gb244]? = some (.cells #[(.slice A0_0 l0_0.length c0_0), .int .i64 a0_1] 29 (0, 0))) ∧ Aside0 (wc.heap[gb245]? = some (.cells #[.int .i64 x246000_1, .int .i64 x246001_1, .string x246002_1, .bool x246003_1, .int .i64 x246004_1, .int .i64 x246005_1, .int .i64 x246006_1, u246007, .int .i64 x246008_1] 52 (0, 0))) ∧ Aside0 (Below w.heap.size w wc))
     case first =>
      have H := HC7.out
      clear HC7
      by_cases c12 : t246 < 0
      ·rw [if_pos c12] at H
       have c12b0 : decide (t246 < 0) = true := decide_eq_true c12
       clear c12
       (first | rw [c12b0] | (simp only [i64_w, i32_w]; rw [c12b0]) | skip)
       have H' := Aside0.mk H
       clear H
       go_wp2
       go_meet
       case rel => exact ⟨_, (true), eqa, H', ⟨by have := HK1.out; first | omega | exact Nat.le_refl _⟩, ⟨by (with_reducible repeat (first | apply Kd.V_alloc | apply Kd.V_drewN | apply Kd.V_drew)); exact HO_245000.out⟩, ⟨by (with_reducible repeat (first | apply Kd.V_alloc | apply Kd.V_drewN | apply Kd.V_drew)); exact HO_246007.out⟩, ⟨pk BK244.out⟩, ⟨pk BK245.out⟩, ⟨pl2 HB.out GE244.out GE245.out⟩⟩
      ·rw [if_neg c12] at H
       have c12b0 : decide (t246 < 0) = false := decide_eq_false c12
       clear c12
       (first | rw [c12b0] | (simp only [i64_w, i32_w]; rw [c12b0]) | skip)
       by_cases c13 : 0 ≤ t246
       ·rw [if_pos c13] at H
        have c13b0 : decide (0 ≤ t246) = true := decide_eq_true c13
        clear c13
        by_cases c14 : t246 < (l0_0.length : Int)
        ·rw [if_pos c14] at H
         have c14b0 : decide (t246 < (l0_0.length : Int)) = true := decide_eq_true c14
         clear c14
         have H' := Aside0.mk H
         clear H
         have hnb15 := NB244_245.out
         have hnc15 := NB245_244.out
         obtain ⟨hcz16_0, hcz16_1, hfz16_0, hfz16_1⟩ := z2 BK244.out
         have p247 : 0 ≤ (t246 : Int) := oda
         have q247 : t246 < (l0_0.length : Int) := oda
         obtain ⟨ad247, A247_7, c247_7, e247, hx247_0, hx247_1, hx247_2, hx247_3, hx247_4, hx247_5, hx247_6, hx247_7, hx247_8, hl247_7, hi247_7⟩ := at_T52 (Kd.V_reads' HO_245000.out).2.2 t246 p247 q247
         cases e247
         obtain ⟨ce247, hce247, hMe247, hcc247⟩ := Kd.V_get HO_245000.out z52 t246 p247 (by first | exact q247 | exact of_decide_eq_true (by first | (with_reducible assumption) | assumption) | (have e_ := (Kd.V_reads' HO_245000.out).1; omega))
         obtain ⟨ua247_7, uc247_7, rfl, ul247_7, ge247_7⟩ := k52_openF hMe247
         have hv247_7 := hcc247 7 _ rfl
         rw [add_field _ _ 7 (by omega)] at hv247_7
         replace hv247_7 := Option.some.inj (hv247_7.symm.trans hx247_7)
         injection hv247_7 with hva_ hvn_ hvc_
         rw [hva_] at ge247_7
         rw [hvc_] at ul247_7
         have HL247_7 := Aside0.mk (show Kd.V k64 64 _ w.heap.size _ _ ((rd_T52 l0_0 t246).f7) from Kd.V_mk ul247_7 ge247_7)
         clear hva_ hvn_ hvc_ ge247_7 ul247_7
         clear hcc247 hce247
         have HR247_7 := Aside0.mk hi247_7
         have HC247_7 := Aside0.mk hl247_7
         clear hi247_7 hl247_7
         replace p247 := eq_true p247
         replace q247 := eq_true q247
         go_wp2
         go_meet
         case rel => exact ⟨_, (!((rd_T52 l0_0 t246).f3)), eqa, H', ⟨by have := HK1.out; first | omega | exact Nat.le_refl _⟩, ⟨by (with_reducible repeat (first | apply Kd.V_alloc | apply Kd.V_drewN | apply Kd.V_drew)); exact HO_245000.out⟩, ⟨by (with_reducible repeat (first | apply Kd.V_alloc | apply Kd.V_drewN | apply Kd.V_drew)); exact HO_246007.out⟩, ⟨pk BK244.out⟩, ⟨pk BK245.out⟩, ⟨pl2 HB.out GE244.out GE245.out⟩⟩
        ·rw [if_neg c14] at H
         exact absurd H (by simp)
       ·rw [if_neg c13] at H
        exact absurd H (by simp)
     case rest =>
      clear HC7
      try clear c5; try clear c5b0; try clear hcz10_0; try clear hcz10_1; try clear hcz10_2; try clear hcz10_3; try clear hcz10_4; try clear hcz10_5; try clear hcz10_6; try clear hcz10_7; try clear hcz10_8; try clear hcz9_0; try clear hcz9_1; try clear hfz10_0; try clear hfz10_1; try clear hfz10_2; try clear hfz10_3; try clear hfz10_4; try clear hfz10_5; try clear hfz10_6; try clear hfz10_7; try clear hfz10_8; try clear hfz9_0; try clear hfz9_1
      obtain ⟨kq, x25_6, rfl, HA, HJ6, HO_245000, HO_246007, BK244, BK245, HB⟩ := hcut
      cases kq with
      | zero => exact absurd HA.out (by simp [impl_reaches.j1])
      | succ kj6 =>
       have H := HA.out
       clear HA
       simp only [impl_reaches.j1] at H
       by_cases c17 : x25_6 = true
       ·subst c17
        have H1 : (some false) = some r := by rw [if_pos rfl] at H; exact H
        clear H
        have H := H1
        clear H1
        obtain rfl := Option.some.inj H
        go_wp2
        go_ret
        exact ⟨erq, pl2 HB.out GE244.out GE245.out⟩
       ·replace c17 := Bool.eq_false_iff.mpr c17
        subst c17
        have H1 : (if 0 ≤ t246 then (if t246 < (l0_0.length : Int) then (if ((rd_T52 l0_0 t246).f0) = 1 then (some true) else (impl_reaches.l0 kj6 (wrap64 (x5_1 + 1)) l0_0 a0_1 ((rd_T52 l0_0 t246).f0) ((rd_T52 l0_0 t246).f1) ((rd_T52 l0_0 t246).f2) ((rd_T52 l0_0 t246).f3) ((rd_T52 l0_0 t246).f4) ((rd_T52 l0_0 t246).f5) ((rd_T52 l0_0 t246).f6) ((rd_T52 l0_0 t246).f7) ((rd_T52 l0_0 t246).f8))) else (none)) else (none)) = some r := by rw [if_neg (show ¬ (false = true) by decide)] at H; exact H
        clear H
        have H := H1
        clear H1
        by_cases c18 : 0 ≤ t246
        ·rw [if_pos c18] at H
         have c18b0 : decide (0 ≤ t246) = true := decide_eq_true c18
         clear c18
         by_cases c19 : t246 < (l0_0.length : Int)
         ·rw [if_pos c19] at H
          have c19b0 : decide (t246 < (l0_0.length : Int)) = true := decide_eq_true c19
          clear c19
          by_cases c20 : ((rd_T52 l0_0 t246).f0) = 1
          ·rw [if_pos c20] at H
           have c20b0 : (((rd_T52 l0_0 t246).f0) == 1) = true := beq_iff_eq.mpr c20
           have c20b1 : (((rd_T52 l0_0 t246).f0) != 1) = false := bne_eq_false_iff_eq.mpr c20
           clear c20
           obtain rfl := Option.some.inj H
           have hnb21 := NB244_245.out
           have hnc21 := NB245_244.out
           obtain ⟨hcz22_0, hcz22_1, hfz22_0, hfz22_1⟩ := z2 BK244.out
           have p248 : 0 ≤ (t246 : Int) := oda
           have q248 : t246 < (l0_0.length : Int) := oda
           obtain ⟨ad248, A248_7, c248_7, e248, hx248_0, hx248_1, hx248_2, hx248_3, hx248_4, hx248_5, hx248_6, hx248_7, hx248_8, hl248_7, hi248_7⟩ := at_T52 (Kd.V_reads' HO_245000.out).2.2 t246 p248 q248
           cases e248
           obtain ⟨ce248, hce248, hMe248, hcc248⟩ := Kd.V_get HO_245000.out z52 t246 p248 (by first | exact q248 | exact of_decide_eq_true (by first | (with_reducible assumption) | assumption) | (have e_ := (Kd.V_reads' HO_245000.out).1; omega))
           obtain ⟨ua248_7, uc248_7, rfl, ul248_7, ge248_7⟩ := k52_openF hMe248
           have hv248_7 := hcc248 7 _ rfl
           rw [add_field _ _ 7 (by omega)] at hv248_7
           replace hv248_7 := Option.some.inj (hv248_7.symm.trans hx248_7)
           injection hv248_7 with hva_ hvn_ hvc_
           rw [hva_] at ge248_7
           rw [hvc_] at ul248_7
           have HL248_7 := Aside0.mk (show Kd.V k64 64 _ w.heap.size _ _ ((rd_T52 l0_0 t246).f7) from Kd.V_mk ul248_7 ge248_7)
           clear hva_ hvn_ hvc_ ge248_7 ul248_7
           clear hcc248 hce248
           have HR248_7 := Aside0.mk hi248_7
           have HC248_7 := Aside0.mk hl248_7
           clear hi248_7 hl248_7
           replace p248 := eq_true p248
           replace q248 := eq_true q248
           obtain ⟨hcz23_0, hcz23_1, hcz23_2, hcz23_3, hcz23_4, hcz23_5, hcz23_6, hcz23_7, hcz23_8, hfz23_0, hfz23_1, hfz23_2, hfz23_3, hfz23_4, hfz23_5, hfz23_6, hfz23_7, hfz23_8⟩ := z9 BK245.out
           go_wp2
           go_ret
           exact ⟨erq, pl2 HB.out GE244.out GE245.out⟩
          ·rw [if_neg c20] at H
           have c20b0 : (((rd_T52 l0_0 t246).f0) == 1) = false := beq_eq_false_iff_ne.mpr c20
           have c20b1 : (((rd_T52 l0_0 t246).f0) != 1) = true := bne_iff_ne.mpr c20
           have H' := Aside0.mk H
           clear H
           have hnb24 := NB244_245.out
           have hnc24 := NB245_244.out
           obtain ⟨hcz25_0, hcz25_1, hfz25_0, hfz25_1⟩ := z2 BK244.out
           have p248 : 0 ≤ (t246 : Int) := oda
           have q248 : t246 < (l0_0.length : Int) := oda
           obtain ⟨ad248, A248_7, c248_7, e248, hx248_0, hx248_1, hx248_2, hx248_3, hx248_4, hx248_5, hx248_6, hx248_7, hx248_8, hl248_7, hi248_7⟩ := at_T52 (Kd.V_reads' HO_245000.out).2.2 t246 p248 q248
           cases e248
           obtain ⟨ce248, hce248, hMe248, hcc248⟩ := Kd.V_get HO_245000.out z52 t246 p248 (by first | exact q248 | exact of_decide_eq_true (by first | (with_reducible assumption) | assumption) | (have e_ := (Kd.V_reads' HO_245000.out).1; omega))
           obtain ⟨ua248_7, uc248_7, rfl, ul248_7, ge248_7⟩ := k52_openF hMe248
           have hv248_7 := hcc248 7 _ rfl
           rw [add_field _ _ 7 (by omega)] at hv248_7
           replace hv248_7 := Option.some.inj (hv248_7.symm.trans hx248_7)
           injection hv248_7 with hva_ hvn_ hvc_
           rw [hva_] at ge248_7
           rw [hvc_] at ul248_7
           have HL248_7 := Aside0.mk (show Kd.V k64 64 _ w.heap.size _ _ ((rd_T52 l0_0 t246).f7) from Kd.V_mk ul248_7 ge248_7)
           clear hva_ hvn_ hvc_ ge248_7 ul248_7
           clear hcc248 hce248
           have HR248_7 := Aside0.mk hi248_7
           have HC248_7 := Aside0.mk hl248_7
           clear hi248_7 hl248_7
           replace p248 := eq_true p248
           replace q248 := eq_true q248
           obtain ⟨hcz26_0, hcz26_1, hcz26_2, hcz26_3, hcz26_4, hcz26_5, hcz26_6, hcz26_7, hcz26_8, hfz26_0, hfz26_1, hfz26_2, hfz26_3, hfz26_4, hfz26_5, hfz26_6, hfz26_7, hfz26_8⟩ := z9 BK245.out
           go_wp2
           go_roundg kj6
           case measure => have := HK1.out; have := HJ6.out; omega
           case rel => exact ⟨(wrap64 (x5_1 + 1)), ((rd_T52 l0_0 t246).f0), ((rd_T52 l0_0 t246).f1), ((rd_T52 l0_0 t246).f2), ((rd_T52 l0_0 t246).f3), ((rd_T52 l0_0 t246).f4), ((rd_T52 l0_0 t246).f5), ((rd_T52 l0_0 t246).f6), ((rd_T52 l0_0 t246).f7), ((rd_T52 l0_0 t246).f8), (.slice A248_7 ((rd_T52 l0_0 t246).f7).length c248_7), eqa, H', ⟨by have := HK1.out; have := HJ6.out; omega⟩, ⟨by (with_reducible repeat (first | apply Kd.V_alloc | apply Kd.V_drewN | apply Kd.V_drew)); exact Kd.V_mono (Kd.V_far (p := ⟨gb245, 8, none⟩) (Kd.V_far (p := ⟨gb245, 7, none⟩) (Kd.V_far (p := ⟨gb245, 6, none⟩) (Kd.V_far (p := ⟨gb245, 5, none⟩) (Kd.V_far (p := ⟨gb245, 4, none⟩) (Kd.V_far (p := ⟨gb245, 3, none⟩) (Kd.V_far (p := ⟨gb245, 2, none⟩) (Kd.V_far (p := ⟨gb245, 1, none⟩) (Kd.V_far (p := ⟨gb245, 0, none⟩) (Kd.V_mono HO_245000.out (fun k_ hk => (⟨hk, hk.2.2⟩ : _ ∧ k_ ≠ gb245))) (fun _ hk => hk.2) (.int .i64 ((rd_T52 l0_0 t246).f0))) (fun _ hk => hk.2) (.int .i64 ((rd_T52 l0_0 t246).f1))) (fun _ hk => hk.2) (.string ((rd_T52 l0_0 t246).f2))) (fun _ hk => hk.2) (.bool ((rd_T52 l0_0 t246).f3))) (fun _ hk => hk.2) (.int .i64 ((rd_T52 l0_0 t246).f4))) (fun _ hk => hk.2) (.int .i64 ((rd_T52 l0_0 t246).f5))) (fun _ hk => hk.2) (.int .i64 ((rd_T52 l0_0 t246).f6))) (fun _ hk => hk.2) (.slice A248_7 ((rd_T52 l0_0 t246).f7).length c248_7)) (fun _ hk => hk.2) (.int .i64 ((rd_T52 l0_0 t246).f8))) (fun _ hk => ⟨hk.1.1, ⟨hk.1.2.1, hk.1.2.2⟩⟩)⟩, ⟨by (with_reducible repeat (first | apply Kd.V_alloc | apply Kd.V_drewN | apply Kd.V_drew)); exact Kd.V_mono (Kd.V_far (p := ⟨gb245, 8, none⟩) (Kd.V_far (p := ⟨gb245, 7, none⟩) (Kd.V_far (p := ⟨gb245, 6, none⟩) (Kd.V_far (p := ⟨gb245, 5, none⟩) (Kd.V_far (p := ⟨gb245, 4, none⟩) (Kd.V_far (p := ⟨gb245, 3, none⟩) (Kd.V_far (p := ⟨gb245, 2, none⟩) (Kd.V_far (p := ⟨gb245, 1, none⟩) (Kd.V_far (p := ⟨gb245, 0, none⟩) (Kd.V_mono HL248_7.out (fun k_ hk => (⟨hk, hk.2.2⟩ : _ ∧ k_ ≠ gb245))) (fun _ hk => hk.2) (.int .i64 ((rd_T52 l0_0 t246).f0))) (fun _ hk => hk.2) (.int .i64 ((rd_T52 l0_0 t246).f1))) (fun _ hk => hk.2) (.string ((rd_T52 l0_0 t246).f2))) (fun _ hk => hk.2) (.bool ((rd_T52 l0_0 t246).f3))) (fun _ hk => hk.2) (.int .i64 ((rd_T52 l0_0 t246).f4))) (fun _ hk => hk.2) (.int .i64 ((rd_T52 l0_0 t246).f5))) (fun _ hk => hk.2) (.int .i64 ((rd_T52 l0_0 t246).f6))) (fun _ hk => hk.2) (.slice A248_7 ((rd_T52 l0_0 t246).f7).length c248_7)) (fun _ hk => hk.2) (.int .i64 ((rd_T52 l0_0 t246).f8))) (fun _ hk => ⟨hk.1.1, ⟨hk.1.2.1, hk.1.2.2⟩⟩)⟩, ⟨by (with_reducible repeat (first | refine blk_drewN ?_ _ | refine blk_drew ?_ | refine blk_alloc ?_ _)); refine blk_far ?_ NB244_245.out _; (with_reducible repeat (first | refine blk_drewN ?_ _ | refine blk_drew ?_ | refine blk_alloc ?_ _)); refine blk_far ?_ NB244_245.out _; (with_reducible repeat (first | refine blk_drewN ?_ _ | refine blk_drew ?_ | refine blk_alloc ?_ _)); refine blk_far ?_ NB244_245.out _; (with_reducible repeat (first | refine blk_drewN ?_ _ | refine blk_drew ?_ | refine blk_alloc ?_ _)); refine blk_far ?_ NB244_245.out _; (with_reducible repeat (first | refine blk_drewN ?_ _ | refine blk_drew ?_ | refine blk_alloc ?_ _)); refine blk_far ?_ NB244_245.out _; (with_reducible repeat (first | refine blk_drewN ?_ _ | refine blk_drew ?_ | refine blk_alloc ?_ _)); refine blk_far ?_ NB244_245.out _; (with_reducible repeat (first | refine blk_drewN ?_ _ | refine blk_drew ?_ | refine blk_alloc ?_ _)); refine blk_far ?_ NB244_245.out _; (with_reducible repeat (first | refine blk_drewN ?_ _ | refine blk_drew ?_ | refine blk_alloc ?_ _)); refine blk_far ?_ NB244_245.out _; (with_reducible repeat (first | refine blk_drewN ?_ _ | refine blk_drew ?_ | refine blk_alloc ?_ _)); refine blk_far ?_ NB244_245.out _; (with_reducible repeat (first | refine blk_drewN ?_ _ | refine blk_drew ?_ | refine blk_alloc ?_ _)); exact BK244.out⟩, ⟨by (with_reducible repeat (first | refine blk_drewN ?_ _ | refine blk_drew ?_ | refine blk_alloc ?_ _)); refine blk_put (cs := #[.int .i64 ((rd_T52 l0_0 t246).f0), .int .i64 ((rd_T52 l0_0 t246).f1), .string ((rd_T52 l0_0 t246).f2), .bool ((rd_T52 l0_0 t246).f3), .int .i64 ((rd_T52 l0_0 t246).f4), .int .i64 ((rd_T52 l0_0 t246).f5), .int .i64 ((rd_T52 l0_0 t246).f6), .slice A248_7 ((rd_T52 l0_0 t246).f7).length c248_7, .int .i64 x246008_1]) ?_ 8 _ rfl; (with_reducible repeat (first | refine blk_drewN ?_ _ | refine blk_drew ?_ | refine blk_alloc ?_ _)); refine blk_put (cs := #[.int .i64 ((rd_T52 l0_0 t246).f0), .int .i64 ((rd_T52 l0_0 t246).f1), .string ((rd_T52 l0_0 t246).f2), .bool ((rd_T52 l0_0 t246).f3), .int .i64 ((rd_T52 l0_0 t246).f4), .int .i64 ((rd_T52 l0_0 t246).f5), .int .i64 ((rd_T52 l0_0 t246).f6), u246007, .int .i64 x246008_1]) ?_ 7 _ rfl; (with_reducible repeat (first | refine blk_drewN ?_ _ | refine blk_drew ?_ | refine blk_alloc ?_ _)); refine blk_put (cs := #[.int .i64 ((rd_T52 l0_0 t246).f0), .int .i64 ((rd_T52 l0_0 t246).f1), .string ((rd_T52 l0_0 t246).f2), .bool ((rd_T52 l0_0 t246).f3), .int .i64 ((rd_T52 l0_0 t246).f4), .int .i64 ((rd_T52 l0_0 t246).f5), .int .i64 x246006_1, u246007, .int .i64 x246008_1]) ?_ 6 _ rfl; (with_reducible repeat (first | refine blk_drewN ?_ _ | refine blk_drew ?_ | refine blk_alloc ?_ _)); refine blk_put (cs := #[.int .i64 ((rd_T52 l0_0 t246).f0), .int .i64 ((rd_T52 l0_0 t246).f1), .string ((rd_T52 l0_0 t246).f2), .bool ((rd_T52 l0_0 t246).f3), .int .i64 ((rd_T52 l0_0 t246).f4), .int .i64 x246005_1, .int .i64 x246006_1, u246007, .int .i64 x246008_1]) ?_ 5 _ rfl; (with_reducible repeat (first | refine blk_drewN ?_ _ | refine blk_drew ?_ | refine blk_alloc ?_ _)); refine blk_put (cs := #[.int .i64 ((rd_T52 l0_0 t246).f0), .int .i64 ((rd_T52 l0_0 t246).f1), .string ((rd_T52 l0_0 t246).f2), .bool ((rd_T52 l0_0 t246).f3), .int .i64 x246004_1, .int .i64 x246005_1, .int .i64 x246006_1, u246007, .int .i64 x246008_1]) ?_ 4 _ rfl; (with_reducible repeat (first | refine blk_drewN ?_ _ | refine blk_drew ?_ | refine blk_alloc ?_ _)); refine blk_put (cs := #[.int .i64 ((rd_T52 l0_0 t246).f0), .int .i64 ((rd_T52 l0_0 t246).f1), .string ((rd_T52 l0_0 t246).f2), .bool x246003_1, .int .i64 x246004_1, .int .i64 x246005_1, .int .i64 x246006_1, u246007, .int .i64 x246008_1]) ?_ 3 _ rfl; (with_reducible repeat (first | refine blk_drewN ?_ _ | refine blk_drew ?_ | refine blk_alloc ?_ _)); refine blk_put (cs := #[.int .i64 ((rd_T52 l0_0 t246).f0), .int .i64 ((rd_T52 l0_0 t246).f1), .string x246002_1, .bool x246003_1, .int .i64 x246004_1, .int .i64 x246005_1, .int .i64 x246006_1, u246007, .int .i64 x246008_1]) ?_ 2 _ rfl; (with_reducible repeat (first | refine blk_drewN ?_ _ | refine blk_drew ?_ | refine blk_alloc ?_ _)); refine blk_put (cs := #[.int .i64 ((rd_T52 l0_0 t246).f0), .int .i64 x246001_1, .string x246002_1, .bool x246003_1, .int .i64 x246004_1, .int .i64 x246005_1, .int .i64 x246006_1, u246007, .int .i64 x246008_1]) ?_ 1 _ rfl; (with_reducible repeat (first | refine blk_drewN ?_ _ | refine blk_drew ?_ | refine blk_alloc ?_ _)); refine blk_put (cs := #[.int .i64 x246000_1, .int .i64 x246001_1, .string x246002_1, .bool x246003_1, .int .i64 x246004_1, .int .i64 x246005_1, .int .i64 x246006_1, u246007, .int .i64 x246008_1]) ?_ 0 _ rfl; (with_reducible repeat (first | refine blk_drewN ?_ _ | refine blk_drew ?_ | refine blk_alloc ?_ _)); exact BK245.out⟩, ⟨pl2 HB.out GE244.out GE245.out⟩⟩
         ·rw [if_neg c19] at H
          exact absurd H (by simp)
        ·rw [if_neg c18] at H
         exact absurd H (by simp)
    ·rw [if_neg c5] at H
     have c5b0 : decide (x5_1 < 4) = false := decide_eq_false c5
     clear c5
     obtain rfl := Option.some.inj H
     go_wp2
     go_ret
     exact ⟨erq, pl2 HB.out GE244.out GE245.out⟩

/-! ### impl_Inode_45: function 45 -/
def impl_dupI.p (a1 : Int) (a2 : ByteArray) (y : S52) : Bool := decide (y.f1 = a1) && decide (y.f2.toList = a2.toList)
def impl_dupI.f (l0 : List S52) (a1 : Int) (a2 : ByteArray) : Option (Bool) := some (l0.any (impl_dupI.p a1 a2))
/-- The closure of TreeOk. -/
theorem impl_dupI.pred (a1 : Int) (a2 : ByteArray) (C : Nat) (w : World) (hC : C < w.heap.size) (c1 : w.cell? ⟨C, 1, none⟩ = some (.int .i64 a1)) (c2 : w.cell? ⟨C, 2, none⟩ = some (.string a2)) :
    PredBelow Try.prog 46 #[.pointer (some ⟨C, 0, none⟩)] (fun x : NodeH => .agg (encI x).toArray) (fun x => impl_dupI.p a1 a2 x.1) w := fun W x hb => by
  have d1 : W.cell? ⟨C, 1, none⟩ = some (.int .i64 a1) := (hb.cell (p := ⟨C, 1, none⟩) hC).trans c1
  have d2 : W.cell? ⟨C, 2, none⟩ = some (.string a2) := (hb.cell (p := ⟨C, 2, none⟩) hC).trans c2
  clear c1 c2 hC
  obtain ⟨⟨f0, f1, f2, f3, f4, f5, f6, f7, f8⟩, A7, c7⟩ := x
  obtain ⟨n7, hn7⟩ : ∃ n7, n7 = f7.length := ⟨_, rfl⟩
  show Calls Try.prog 46 #[.agg #[.int .i64 f0, .int .i64 f1, .string f2, .bool f3, .int .i64 f4, .int .i64 f5, .int .i64 f6, .slice A7 f7.length c7, .int .i64 f8], .pointer (some ⟨C, 0, none⟩)] W _
  rw [← hn7]
  have hp : impl_dupI.p a1 a2 ⟨f0, f1, f2, f3, f4, f5, f6, f7, f8⟩ = (decide (f1 = a1) && decide (f2.toList = a2.toList)) := rfl
  show Calls _ _ _ _ fun e w' => e = .returned (.bool (impl_dupI.p a1 a2 ⟨f0, f1, f2, f3, f4, f5, f6, f7, f8⟩)) ∧ _
  rw [hp]
  clear hn7 hp
  have d1' := Lib.cell?_alloc_some (Obj.cells #[Value.int IntKind.i64 f0, Value.int IntKind.i64 f1, Value.string f2, Value.bool f3, Value.int IntKind.i64 f4, Value.int IntKind.i64 f5, Value.int IntKind.i64 f6, Value.slice A7 n7 c7, Value.int IntKind.i64 f8] 52) d1
  have d2' := Lib.cell?_alloc_some (Obj.cells #[Value.int IntKind.i64 f0, Value.int IntKind.i64 f1, Value.string f2, Value.bool f3, Value.int IntKind.i64 f4, Value.int IntKind.i64 f5, Value.int IntKind.i64 f6, Value.slice A7 n7 c7, Value.int IntKind.i64 f8] 52) d2
  clear d1 d2
  by_cases e0 : f1 = a1
  · subst e0
    by_cases e1 : f2.toList = a2.toList
    · have e1b : (f2.toList == a2.toList) = true := beq_iff_eq.mpr e1
      go_enter Try.func46, Try.ntmps46
      go_wp2
      all_goals (go_ret; exact ⟨by simp [e1], hb.alloc hb.size _⟩)
    · have e1b : (f2.toList == a2.toList) = false := beq_eq_false_iff_ne.mpr e1
      go_enter Try.func46, Try.ntmps46
      go_wp2
      all_goals (go_ret; exact ⟨by simp [e1], hb.alloc hb.size _⟩)
  · have e0b : (f1 == a1) = false := beq_eq_false_iff_ne.mpr e0
    go_enter Try.func46, Try.ntmps46
    go_wp2
    all_goals (go_ret; exact ⟨by simp [e0], hb.alloc hb.size _⟩)
/-- slices.ContainsFunc at nodes, with TreeOk's closure. -/
theorem impl_dupI.calls (A0 : Option Addr) (c0 : Nat) (l0 : List S52) (a1 : Int) (a2 : ByteArray) (r : Bool) (w : World) {C : Nat} (hr0 : Kd.C k52 w A0 l0.length l0) (_ : l0.length ≤ c0) (c1 : w.cell? ⟨C, 1, none⟩ = some (.int .i64 a1)) (c2 : w.cell? ⟨C, 2, none⟩ = some (.string a2)) (h : impl_dupI.f l0 a1 a2 = some r) :
    Calls Try.prog 45 #[.slice A0 l0.length c0, .func (.func 46) #[] #[.pointer (some ⟨C, 0, none⟩)]] w fun e w' => e = .returned (.bool r) ∧ Below w.heap.size w w' := by
  obtain rfl := Option.some.inj h
  clear h
  have hC : C < w.heap.size := World.block_lt_of_cell? _ _ c1
  have eg : ∀ args w, (callFunc 46 args).run Try.prog w = .ok (.enter 46 args) w := enters_of Try.func46 (by kernel_rfl) rfl
  have hcon := Aside0.mk (idxI_calls A0 c0 l0 w hr0 (impl_dupI.p a1 a2) 46 #[.pointer (some ⟨C, 0, none⟩)] eg (impl_dupI.pred a1 a2 C w hC c1 c2))
  rw [show l0.any (impl_dupI.p a1 a2) = decide (0 ≤ Lib.idxBy (fun _ y => impl_dupI.p a1 a2 y) l0 default) from (Lib.idxBy_nonneg_iff (fun _ y => impl_dupI.p a1 a2 y) l0 default).symm]
  generalize Lib.idxBy (fun _ y => impl_dupI.p a1 a2 y) l0 default = q at hcon ⊢
  clear c1 c2 hC eg hr0
  go_enter Try.func45, Try.ntmps45
  go_wp2_with (go_at_call 64; refine hcon.out.mono ?_; rintro e w' ⟨rfl, hb'⟩)
  go_ret
  exact ⟨rfl, hb'⟩


end Go.Proofs.Ytnhbfbgflgplcaa.QTW
