/- Walks, as the kit's print writes them, run with stubs of my own and mended: TP. -/
import Derived.Test.YtnhbfbgflgplcaaQTP0
import Derived.Test.YtnhbfbgflgplcaaQTR0
import Derived.Test.YtnhbfbgflgplcaaQTR1
import Derived.Test.YtnhbfbgflgplcaaQTR10
namespace Go.Proofs.Ytnhbfbgflgplcaa.QTP
open Go.Proofs.Ytnhbfbgflgplcaa.QTR
open Go.Proofs.YtnhbfbgflgplcaaW Go.Proofs.YtnhbfbgflgplcaaW.Zip
open Go.RowKit Go.Proofs.YtnhbfbgflgplcaaW.PrintWords Go.Proofs.YtnhbfbgflgplcaaW.PrintLast Go.Proofs.YtnhbfbgflgplcaaW.PrintMore
attribute [local go_sem] max2_int min2_int max_two min_two max_three min_three max_four min_four   -- for this text's walks alone
set_option linter.unusedVariables false
set_option linter.unusedSimpArgs false

/-! ### spec_JoinPath: function 50 -/
def spec_JoinPath.l0 : Nat → List ByteArray → ByteArray → Int → Option (ByteArray)
  | 0, _, _, _ => none
  | k + 1, x0, x3, x4 => if x4 < (x0.length : Int) then (if x3.size + 1 ≤ 9223372036854775807 then (if 0 ≤ x4 then (if (x3 ++ (⟨#[47]⟩ : ByteArray)).size + (rdOf ByteArray.empty x0 x4).size ≤ 9223372036854775807 then (spec_JoinPath.l0 k x0 ((x3 ++ (⟨#[47]⟩ : ByteArray)) ++ (rdOf ByteArray.empty x0 x4)) (wrap64 (x4 + 1))) else (none)) else (none)) else (none)) else (some x3)
def spec_JoinPath.f (k : Nat) (l0 : List ByteArray) : Option (ByteArray) := if (l0.length : Int) = 0 then (some (⟨#[47]⟩ : ByteArray)) else (spec_JoinPath.l0 k l0 (⟨#[]⟩ : ByteArray) 0)
theorem spec_JoinPath.mono_l : ∀ k, (∀ y0 y1 y2, LeO (spec_JoinPath.l0 k y0 y1 y2) (spec_JoinPath.l0 (k + 1) y0 y1 y2))
  | 0 => fun _ _ _ r h => by simp [spec_JoinPath.l0] at h
  | k + 1 => by
    have ih0 := spec_JoinPath.mono_l k
    · intro y0 y1 y2
      unfold spec_JoinPath.l0
      repeat' first
      | (with_reducible exact ih0 _ _ _)
      | (with_reducible exact LeO.refl _)
      | (with_reducible exact LeO.none _)
      | (with_reducible refine LeO.ite ?_ ?_)
      | (with_reducible refine LeO.bind ?_ (fun _ => ?_))
      | exact ih0 _ _ _
      | exact LeO.none _
      | refine LeO.ite ?_ ?_
      | refine LeO.bind ?_ (fun _ => ?_)
theorem spec_JoinPath.mono : ∀ a0 k, LeO (spec_JoinPath.f k a0) (spec_JoinPath.f (k + 1) a0) := by
  intro a0 k
  have ih0 := spec_JoinPath.mono_l k
  unfold spec_JoinPath.f
  repeat' first
      | (with_reducible exact ih0 _ _ _)
      | (with_reducible exact LeO.refl _)
      | (with_reducible exact LeO.none _)
      | (with_reducible refine LeO.ite ?_ ?_)
      | (with_reducible refine LeO.bind ?_ (fun _ => ?_))
      | exact ih0 _ _ _
      | exact LeO.none _
      | refine LeO.ite ?_ ?_
      | refine LeO.bind ?_ (fun _ => ?_)
set_option maxHeartbeats 8000000 in
set_option maxRecDepth 100000 in
theorem spec_JoinPath.calls (k : Nat) (A0 : Option Addr) (c0 : Nat) (l0 : List ByteArray) (r : ByteArray) (w : World) (hr0 : Kd.C Kd.string w A0 l0.length l0) (hc0 : l0.length ≤ c0) (h : spec_JoinPath.f k l0 = some r) :
    Calls Try.prog 50 #[.slice A0 l0.length c0] w fun e w' => e = .returned (.string r) ∧ Drawn0 w w' := by
  have HR0 := Aside0.mk hr0
  have HC0 := Aside0.mk hc0
  clear hr0 hc0
  have H : (if (l0.length : Int) = 0 then (some (⟨#[47]⟩ : ByteArray)) else (spec_JoinPath.l0 k l0 (⟨#[]⟩ : ByteArray) 0)) = some r := h
  clear h
  by_cases c2 : (l0.length : Int) = 0
  ·rw [if_pos c2] at H
   have c2b0 : ((l0.length : Int) == 0) = true := beq_iff_eq.mpr c2
   have c2b1 : ((l0.length : Int) != 0) = false := bne_eq_false_iff_eq.mpr c2
   clear c2
   obtain rfl := Option.some.inj H
   go_enter Try.func50, Try.ntmps50
   go_wp2
   go_ret
   exact ⟨by first | rfl | (simp; done) | (simp [*]; done), by repeat (first | exact Drawn0.refl _ | apply Drawn0.step)⟩
  ·rw [if_neg c2] at H
   have c2b0 : ((l0.length : Int) == 0) = false := beq_eq_false_iff_ne.mpr c2
   have c2b1 : ((l0.length : Int) != 0) = true := bne_iff_ne.mpr c2
   have c2b2 : ¬ (l0 = []) := fun h_ => c2 (by rw [h_]; rfl)
   have H' := Aside0.mk H
   clear H
   go_enter Try.func50, Try.ntmps50
   go_wp2
   go_loopg [3, 4] k (fun kq v3 v4 w' => ∃ (x3_1 : ByteArray) (x4_1 : Int), v3 = .string x3_1 ∧ v4 = .int .i64 x4_1 ∧ Aside0 (spec_JoinPath.l0 kq l0 x3_1 x4_1 = some r) ∧ Aside0 (kq ≤ k) ∧ Drawn0 w w')
   case atStart => exact ⟨((⟨#[]⟩ : ByteArray)), (0), eqa, eqa, H', ⟨Nat.le_refl _⟩, by repeat (first | exact Drawn0.refl _ | apply Drawn0.step)⟩
   case round =>
    clear H'
    try clear c2; try clear c2b0; try clear c2b1; try clear c2b2
    obtain ⟨x3_1, x4_1, rfl, rfl, HA, HK1, ⟨m1, rfl⟩⟩ := hrel
    cases gk with
    | zero => exact absurd HA.out (by simp [spec_JoinPath.l0])
    | succ k1 =>
     have H := HA.out
     clear HA
     simp only [spec_JoinPath.l0] at H
     by_cases c3 : x4_1 < (l0.length : Int)
     ·rw [if_pos c3] at H
      have c3b0 : decide (x4_1 < (l0.length : Int)) = true := decide_eq_true c3
      clear c3
      by_cases c4 : x3_1.size + 1 ≤ 9223372036854775807
      ·rw [if_pos c4] at H
       have c4b0 := eq_true c4
       have c4b1 : decide (x3_1.size + 1 ≤ 9223372036854775807) = true := decide_eq_true c4
       try have c4b2 : (9223372036854775807 < x3_1.size + 1) = False := eq_false (Nat.not_lt.2 c4)
       by_cases c5 : 0 ≤ x4_1
       ·rw [if_pos c5] at H
        have c5b0 : decide (0 ≤ x4_1) = true := decide_eq_true c5
        clear c5
        by_cases c6 : (x3_1 ++ (⟨#[47]⟩ : ByteArray)).size + (rdOf ByteArray.empty l0 x4_1).size ≤ 9223372036854775807
        ·rw [if_pos c6] at H
         have c6b0 := eq_true c6
         have c6b1 : decide ((x3_1 ++ (⟨#[47]⟩ : ByteArray)).size + (rdOf ByteArray.empty l0 x4_1).size ≤ 9223372036854775807) = true := decide_eq_true c6
         try have c6b2 : (9223372036854775807 < (x3_1 ++ (⟨#[47]⟩ : ByteArray)).size + (rdOf ByteArray.empty l0 x4_1).size) = False := eq_false (Nat.not_lt.2 c6)
         have H' := Aside0.mk H
         clear H
         have p191 : 0 ≤ (x4_1 : Int) := oda
         have q191 : x4_1 < (l0.length : Int) := oda
         obtain ⟨ad191, e191, hx191_0⟩ := Kd.at_string HR0.out x4_1 p191 q191
         cases e191
         replace p191 := eq_true p191
         replace q191 := eq_true q191
         go_wp2
         go_roundg k1
         case measure => have := HK1.out; omega
         case rel => exact ⟨((x3_1 ++ (⟨#[47]⟩ : ByteArray)) ++ (rdOf ByteArray.empty l0 x4_1)), (wrap64 (x4_1 + 1)), eqa, eqa, H', ⟨by have := HK1.out; omega⟩, by repeat (first | exact Drawn0.refl _ | apply Drawn0.step)⟩
        ·rw [if_neg c6] at H
         exact absurd H (by simp)
       ·rw [if_neg c5] at H
        exact absurd H (by simp)
      ·rw [if_neg c4] at H
       exact absurd H (by simp)
     ·rw [if_neg c3] at H
      have c3b0 : decide (x4_1 < (l0.length : Int)) = false := decide_eq_false c3
      clear c3
      obtain rfl := Option.some.inj H
      go_wp2
      go_ret
      exact ⟨by first | rfl | (simp; done) | (simp [*]; done), by repeat (first | exact Drawn0.refl _ | apply Drawn0.step)⟩

/-! ### spec_PathOf: function 22 -/
mutual
def spec_PathOf.l0 : Nat → Int → List ByteArray → Int → List (S52) → Int → Option (ByteArray)
  | 0, _, _, _, _, _ => none
  | k + 1, x1, x5, x6, x193000, x193001 => if x6 ≤ 14 then (if x1 = 1 then ((spec_l10At.f k x193000 x193001 1).bind fun t197 => (spec_PathOf.j1 k x1 x5 x6 (decide (t197 ≥ 0)) x193000 x193001)) else (spec_PathOf.j1 k x1 x5 x6 false x193000 x193001)) else (some (⟨#[]⟩ : ByteArray))
def spec_PathOf.j1 : Nat → Int → List ByteArray → Int → Bool → List (S52) → Int → Option (ByteArray)
  | 0, _, _, _, _, _, _ => none
  | k + 1, x1, x5, x6, x22, x193000, x193001 => if x22 = true then ((spec_JoinPath.f k x5).bind fun t198 => (some t198)) else ((spec_l10At.f k x193000 x193001 x1).bind fun t199 => (if t199 < 0 then (some (⟨#[]⟩ : ByteArray)) else (if 0 ≤ t199 then (if t199 < (x193000.length : Int) then ((some (([(rd_T52 x193000 t199).f2] : List ByteArray) : List ByteArray)).bind fun y201 => (if y201.length + x5.length < 8796093022208 then (spec_PathOf.l0 k ((rd_T52 x193000 t199).f1) (y201 ++ x5) (wrap64 (x6 + 1)) x193000 x193001) else (none))) else (none)) else (none))))
end
def spec_PathOf.f (k : Nat) (l0_0 : List (S52)) (a0_1 : Int) (a1 : Int) : Option (ByteArray) := (spec_TreeOk.f k l0_0 a0_1).bind fun t193 => (if t193 = true then (spec_PathOf.l0 k a1 (([] : List ByteArray)) 0 l0_0 a0_1) else (some (⟨#[]⟩ : ByteArray)))
theorem spec_PathOf.mono_l : ∀ k, (∀ y0 y1 y2 y3 y4, LeO (spec_PathOf.l0 k y0 y1 y2 y3 y4) (spec_PathOf.l0 (k + 1) y0 y1 y2 y3 y4)) ∧ (∀ y0 y1 y2 y3 y4 y5, LeO (spec_PathOf.j1 k y0 y1 y2 y3 y4 y5) (spec_PathOf.j1 (k + 1) y0 y1 y2 y3 y4 y5))
  | 0 => ⟨fun _ _ _ _ _ r h => by simp [spec_PathOf.l0] at h, fun _ _ _ _ _ _ r h => by simp [spec_PathOf.j1] at h⟩
  | k + 1 => by
    obtain ⟨ih0, ih1⟩ := spec_PathOf.mono_l k
    refine ⟨?_, ?_⟩
    · intro y0 y1 y2 y3 y4
      unfold spec_PathOf.l0
      repeat' first
      | (with_reducible exact ih0 _ _ _ _ _)
      | (with_reducible exact ih1 _ _ _ _ _ _)
      | (with_reducible exact spec_JoinPath.mono _ _)
      | (with_reducible exact spec_TreeOk.mono _ _ _)
      | (with_reducible exact spec_l10At.mono _ _ _ _)
      | (with_reducible exact LeO.refl _)
      | (with_reducible exact LeO.none _)
      | (with_reducible refine LeO.ite ?_ ?_)
      | (with_reducible refine LeO.bind ?_ (fun _ => ?_))
      | exact ih0 _ _ _ _ _
      | exact ih1 _ _ _ _ _ _
      | exact spec_JoinPath.mono _ _
      | exact spec_TreeOk.mono _ _ _
      | exact spec_l10At.mono _ _ _ _
      | exact LeO.none _
      | refine LeO.ite ?_ ?_
      | refine LeO.bind ?_ (fun _ => ?_)
    · intro y0 y1 y2 y3 y4 y5
      unfold spec_PathOf.j1
      repeat' first
      | (with_reducible exact ih0 _ _ _ _ _)
      | (with_reducible exact ih1 _ _ _ _ _ _)
      | (with_reducible exact spec_JoinPath.mono _ _)
      | (with_reducible exact spec_TreeOk.mono _ _ _)
      | (with_reducible exact spec_l10At.mono _ _ _ _)
      | (with_reducible exact LeO.refl _)
      | (with_reducible exact LeO.none _)
      | (with_reducible refine LeO.ite ?_ ?_)
      | (with_reducible refine LeO.bind ?_ (fun _ => ?_))
      | exact ih0 _ _ _ _ _
      | exact ih1 _ _ _ _ _ _
      | exact spec_JoinPath.mono _ _
      | exact spec_TreeOk.mono _ _ _
      | exact spec_l10At.mono _ _ _ _
      | exact LeO.none _
      | refine LeO.ite ?_ ?_
      | refine LeO.bind ?_ (fun _ => ?_)
theorem spec_PathOf.mono : ∀ a0 a1 a2 k, LeO (spec_PathOf.f k a0 a1 a2) (spec_PathOf.f (k + 1) a0 a1 a2) := by
  intro a0 a1 a2 k
  obtain ⟨ih0, ih1⟩ := spec_PathOf.mono_l k
  unfold spec_PathOf.f
  repeat' first
      | (with_reducible exact ih0 _ _ _ _ _)
      | (with_reducible exact ih1 _ _ _ _ _ _)
      | (with_reducible exact spec_JoinPath.mono _ _)
      | (with_reducible exact spec_TreeOk.mono _ _ _)
      | (with_reducible exact spec_l10At.mono _ _ _ _)
      | (with_reducible exact LeO.refl _)
      | (with_reducible exact LeO.none _)
      | (with_reducible refine LeO.ite ?_ ?_)
      | (with_reducible refine LeO.bind ?_ (fun _ => ?_))
      | exact ih0 _ _ _ _ _
      | exact ih1 _ _ _ _ _ _
      | exact spec_JoinPath.mono _ _
      | exact spec_TreeOk.mono _ _ _
      | exact spec_l10At.mono _ _ _ _
      | exact LeO.none _
      | refine LeO.ite ?_ ?_
      | refine LeO.bind ?_ (fun _ => ?_)
set_option maxHeartbeats 8000000 in
set_option maxRecDepth 100000 in
theorem spec_PathOf.calls (k : Nat) (A0_0 : Option Addr) (c0_0 : Nat) (l0_0 : List (S52)) (a0_1 : Int) (a1 : Int) (r : ByteArray) (w : World) (hr0_0 : Kd.C k52 w A0_0 l0_0.length l0_0) (hc0_0 : l0_0.length ≤ c0_0) (h : spec_PathOf.f k l0_0 a0_1 a1 = some r) :
    Calls Try.prog 22 #[.agg #[.slice A0_0 l0_0.length c0_0, .int .i64 a0_1], .int .i64 a1] w fun e w' => e = .returned (.string r) ∧ Below w.heap.size w w' := by
  have hu29 := Try.underlying29
  have HR0_0 := Aside0.mk hr0_0
  have HC0_0 := Aside0.mk hc0_0
  clear hr0_0 hc0_0
  have HB := Aside0.mk (Below.refl w.heap.size w)
  have H : ((spec_TreeOk.f k l0_0 a0_1).bind fun t193 => (if t193 = true then (spec_PathOf.l0 k a1 (([] : List ByteArray)) 0 l0_0 a0_1) else (some (⟨#[]⟩ : ByteArray)))) = some r := h
  clear h
  replace H := Option.bind_eq_some_iff.mp H
  obtain ⟨t193, A30, H⟩ := H
  replace H : (if t193 = true then (spec_PathOf.l0 k a1 (([] : List ByteArray)) 0 l0_0 a0_1) else (some (⟨#[]⟩ : ByteArray))) = some r := H
  have A3 := Aside0.mk A30
  clear A30
  by_cases c4 : t193 = true
  ·subst c4
   have H1 : (spec_PathOf.l0 k a1 (([] : List ByteArray)) 0 l0_0 a0_1) = some r := by rw [if_pos rfl] at H; exact H
   clear H
   have H := H1
   clear H1
   obtain ⟨y194, hy194⟩ : ∃ y_ : List ByteArray, y_ = (([] : List ByteArray)) := ⟨_, rfl⟩
   replace H : (spec_PathOf.l0 k a1 y194 0 l0_0 a0_1) = some r := by first | (rw [hy194]; with_reducible exact H) | (have H2_ := (Option.bind_some _ _).symm.trans H; rw [hy194]; with_reducible exact H2_) | (have H2_ := (Option.bind_some _ _).symm.trans H; with_reducible exact H2_) | with_reducible exact H | (rw [hy194]; exact H) | exact H
   have Ny194 := Aside0.mk hy194
   clear hy194
   have H' := Aside0.mk H
   clear H
   go_enter Try.func22, Try.ntmps22
   go_wp2_with (first | ((with_reducible refine gate_dst (N := 2) rfl ?_); refine box_event ?hg (N := 2) ?hd (cs := #[.slice A0_0 l0_0.length c0_0, .int .i64 a0_1]) (t := 29) ?hr ?_; (case hd => rfl); (case hg => rfl); (case hr => first | (go_simp; done) | (go_simp; rfl)); intro gb192 hg w5 hbox hb; have n0_ := Aside0.mk (below_step (pl0 HB.out) hb); have n1_ := Aside0.mk (hbox); have n2_ := Aside0.mk ((by rw [hg]; exact (below_size (pl0 HB.out)) : w.heap.size ≤ gb192)); have n3_ := Aside0.mk ((by rw [hg]; exact (below_size (pl0 HB.out)) : w.heap.size ≤ gb192)); clear HB; have HB := n0_; have BK192 := n1_; have GW192 := n2_; have GE192 := n3_; clear n0_ n1_ n2_ n3_; clear hb hbox hg; have hcz6_0 : w5.cell? ⟨gb192, 0, none⟩ = some (.slice A0_0 l0_0.length c0_0) := (blk_cell BK192.out 0).trans rfl; have hcz6_1 : w5.cell? ⟨gb192, 1, none⟩ = some (.int .i64 a0_1) := (blk_cell BK192.out 1).trans rfl; have hfz6_0 := blk_frozen BK192.out 0; have hfz6_1 := blk_frozen BK192.out 1) | ((with_reducible refine gate_callee (f := 12) rfl ?_); refine goesL_ (some 9) rfl rfl Try.func12 (by kernel_rfl) rfl #[.agg #[.slice A0_0 l0_0.length c0_0, .int .i64 a0_1]] rfl (by (try simp only [List.map_toArray, List.map_cons, List.map_nil]); first | done | rfl | (simp only [List.length_drop, List.length_take]; rfl)) ?_; (with_reducible refine (spec_TreeOk.calls k _ _ l0_0 a0_1 true _ ?side1 ?side2 A3.out).mono ?_); (case side1 => exact pc (Kd.C_below HR0_0.out HB.out)); (case side2 => exact HC0_0.out); rintro e w7 ⟨rfl, hb⟩; refine ⟨_, rfl, ?_⟩; have n0_ := Aside0.mk (pb BK192.out hb); have n1_ := Aside0.mk (below_step (pl1 HB.out GE192.out) hb); clear BK192; clear HB; have BK192 := n0_; have HB := n1_; clear n0_ n1_; (try clear hb); (try clear hb2); (try clear hk); (try clear hi)) | ((with_reducible refine gate_dst (N := 11) rfl ?_); refine Kd.R_lit Kd.string _ 9 ?hg (N := 11) ?hd (xs := ([] : List ByteArray)) (inner := []) (ok := fun _ => True) (okp := fun _ => True) ?hr ?hp (fun _ hk => hk) trivial (Below.refl _ _) (Nat.le_refl _) (by simp) ?_; (case hd => rfl); (case hg => rfl); (case hr => first | (go_simp; done) | (go_simp; rfl)); (case hp => exact (Reps.none _ _)); intro v195 w8 ho9 hb hg_ hnew_; clear hg_ hnew_; (first | rw [← Ny194.out] at ho9 | (simp only [Int.reduceToNat] at ho9; rw [← Ny194.out] at ho9)); have n0_ := Aside0.mk (Kd.R_lower ho9 (below_size (pl1 HB.out GE192.out))); have n1_ := Aside0.mk (pb BK192.out hb); have n2_ := Aside0.mk (below_step (pl1 HB.out GE192.out) hb); clear BK192; clear HB; have HO196 := n0_; have BK192 := n1_; have HB := n2_; clear n0_ n1_ n2_; clear hb ho9))
   go_loopg [1, 5, 6] k (fun kq v1 v5 v6 w' => ∃ (x1_1 : Int) (x5_1 : List ByteArray) (x6_1 : Int), v1 = .int .i64 x1_1 ∧ v6 = .int .i64 x6_1 ∧ Aside0 (spec_PathOf.l0 kq x1_1 x5_1 x6_1 l0_0 a0_1 = some r) ∧ Aside0 (kq ≤ k) ∧ Aside0 (Kd.R Kd.string 9 w' w.heap.size (fun _ => True) v5 x5_1) ∧ Aside0 (w'.heap[gb192]? = some (.cells #[(.slice A0_0 l0_0.length c0_0), .int .i64 a0_1] 29 (0, 0))) ∧ Aside0 (Below w.heap.size w w'))
   case atStart => exact ⟨(a1), (y194), (0), eqa, eqa, H', ⟨Nat.le_refl _⟩, ⟨by (with_reducible repeat (first | apply Kd.R_alloc | apply Kd.R_drewN | apply Kd.R_drew)); exact HO196.out⟩, ⟨pk BK192.out⟩, ⟨pl1 HB.out GE192.out⟩⟩
   case round =>
    clear H'
    try clear c4; try clear hcz6_0; try clear hcz6_1; try clear hfz6_0; try clear hfz6_1
    obtain ⟨x1_1, x5_1, x6_1, rfl, rfl, HA, HK1, HO_5, BK192, HB⟩ := hrel
    cases gk with
    | zero => exact absurd HA.out (by simp [spec_PathOf.l0])
    | succ k1 =>
     have H := HA.out
     clear HA
     simp only [spec_PathOf.l0] at H
     by_cases c10 : x6_1 ≤ 14
     ·rw [if_pos c10] at H
      have c10b0 : decide (x6_1 ≤ 14) = true := decide_eq_true c10
      clear c10
      have HC11 := Aside0.mk H
      clear H
      go_upto_region 7 with (fail)
      go_cut [22] (fun v22 wc => ∃ (kq : Nat) (x22_10 : Bool), v22 = .bool x22_10 ∧ Aside0 (spec_PathOf.j1 kq x1_1 x5_1 x6_1 x22_10 l0_0 a0_1 = some r) ∧ Aside0 (kq ≤ k1) ∧ Aside0 (Kd.R Kd.string 9 wc w.heap.size (fun _ => True) u5 x5_1) ∧ Aside0 (wc.heap[gb192]? = some (.cells #[(.slice A0_0 l0_0.length c0_0), .int .i64 a0_1] 29 (0, 0))) ∧ Aside0 (Below w.heap.size w wc))
      case first =>
       have H := HC11.out
       clear HC11
       by_cases c12 : x1_1 = 1
       ·rw [if_pos c12] at H
        have c12b0 : (x1_1 == 1) = true := beq_iff_eq.mpr c12
        have c12b1 : (x1_1 != 1) = false := bne_eq_false_iff_eq.mpr c12
        clear c12
        (first | rw [c12b0] | (simp only [i64_w, i32_w]; rw [c12b0]) | skip)
        replace H := Option.bind_eq_some_iff.mp H
        obtain ⟨t197, A130, H⟩ := H
        replace H : (spec_PathOf.j1 k1 x1_1 x5_1 x6_1 (decide (t197 ≥ 0)) l0_0 a0_1) = some r := H
        have A13 := Aside0.mk A130
        clear A130
        have H' := Aside0.mk H
        clear H
        obtain ⟨hcz14_0, hcz14_1, hfz14_0, hfz14_1⟩ := z2 BK192.out
        go_wp2_with (first | (go_at_call 48; (with_reducible refine (spec_l10At.calls k1 _ _ l0_0 a0_1 1 t197 _ ?side1 ?side2 A13.out).mono ?_); (case side1 => exact pc (Kd.C_below HR0_0.out HB.out)); (case side2 => exact HC0_0.out); rintro e w15 ⟨rfl, hb⟩; have n0_ := Aside0.mk (Kd.R_below (by (with_reducible repeat (first | apply Kd.R_alloc | apply Kd.R_drewN | apply Kd.R_drew)); exact HO_5.out) hb); have n1_ := Aside0.mk (pb BK192.out hb); have n2_ := Aside0.mk (below_step (pl1 HB.out GE192.out) hb); clear HO_5; clear BK192; clear HB; have HO_5 := n0_; have BK192 := n1_; have HB := n2_; clear n0_ n1_ n2_; (try clear hb); (try clear hb2); (try clear hk); (try clear hi)))
        go_meet
        case rel => exact ⟨_, (decide (t197 ≥ 0)), eqa, H', ⟨by have := HK1.out; first | omega | exact Nat.le_refl _⟩, ⟨by (with_reducible repeat (first | apply Kd.R_alloc | apply Kd.R_drewN | apply Kd.R_drew)); exact HO_5.out⟩, ⟨pk BK192.out⟩, ⟨pl1 HB.out GE192.out⟩⟩
       ·rw [if_neg c12] at H
        have c12b0 : (x1_1 == 1) = false := beq_eq_false_iff_ne.mpr c12
        have c12b1 : (x1_1 != 1) = true := bne_iff_ne.mpr c12
        (first | rw [c12b0] | (simp only [i64_w, i32_w]; rw [c12b0]) | skip)
        have H' := Aside0.mk H
        clear H
        go_wp2
        go_meet
        case rel => exact ⟨_, (false), eqa, H', ⟨by have := HK1.out; first | omega | exact Nat.le_refl _⟩, ⟨by (with_reducible repeat (first | apply Kd.R_alloc | apply Kd.R_drewN | apply Kd.R_drew)); exact HO_5.out⟩, ⟨pk BK192.out⟩, ⟨pl1 HB.out GE192.out⟩⟩
      case rest =>
       clear HC11
       try clear c10; try clear c10b0
       obtain ⟨kq, x22_10, rfl, HA, HJ10, HO_5, BK192, HB⟩ := hcut
       cases kq with
       | zero => exact absurd HA.out (by simp [spec_PathOf.j1])
       | succ kj10 =>
        have H := HA.out
        clear HA
        simp only [spec_PathOf.j1] at H
        by_cases c16 : x22_10 = true
        ·subst c16
         have H1 : ((spec_JoinPath.f kj10 x5_1).bind fun t198 => (some t198)) = some r := by rw [if_pos rfl] at H; exact H
         clear H
         have H := H1
         clear H1
         replace H := Option.bind_eq_some_iff.mp H
         obtain ⟨t198, A170, H⟩ := H
         replace H : (some t198) = some r := H
         have A17 := Aside0.mk A170
         clear A170
         obtain rfl := Option.some.inj H
         obtain ⟨Ao18, co18, eo18⟩ := Kd.R_slice HO_5.out
         subst eo18
         go_wp2_with (first | ((with_reducible refine gate_callee (f := 50) rfl ?_); refine goesL_ (some 24) rfl rfl Try.func50 (by kernel_rfl) rfl #[.slice Ao18 x5_1.length co18] rfl (by (try simp only [List.map_toArray, List.map_cons, List.map_nil]); first | done | rfl | (simp only [List.length_drop, List.length_take]; rfl)) ?_; (with_reducible refine (spec_JoinPath.calls kj10 _ _ x5_1 t198 _ ?side1 ?side2 A17.out).mono ?_); (case side1 => repeat (first | exact (Kd.R_reads' HO_5.out).2.2 | (with_reducible refine Kd.C_alloc ?_ _) | (with_reducible refine Kd.C_drewN ?_ _) | (with_reducible refine Kd.C_drew ?_))); (case side2 => exact (Kd.R_reads' HO_5.out).2.1); rintro e w' ⟨rfl, ⟨nd, rfl⟩⟩; refine ⟨_, rfl, ?_⟩))
         go_ret
         exact ⟨by first | rfl | (simp [errW_none, errW_some] <;> rfl) | (simp [*, errW_none, errW_some] <;> rfl), by repeat (first | (with_reducible first | exact HB.out | apply below_alloc | apply pw_below_drewN | apply below_drew1 | refine below_set ?_ GE192.out) | exact HB.out)⟩
        ·replace c16 := Bool.eq_false_iff.mpr c16
         subst c16
         have H1 : ((spec_l10At.f kj10 l0_0 a0_1 x1_1).bind fun t199 => (if t199 < 0 then (some (⟨#[]⟩ : ByteArray)) else (if 0 ≤ t199 then (if t199 < (l0_0.length : Int) then ((some (([(rd_T52 l0_0 t199).f2] : List ByteArray) : List ByteArray)).bind fun y201 => (if y201.length + x5_1.length < 8796093022208 then (spec_PathOf.l0 kj10 ((rd_T52 l0_0 t199).f1) (y201 ++ x5_1) (wrap64 (x6_1 + 1)) l0_0 a0_1) else (none))) else (none)) else (none)))) = some r := by rw [if_neg (show ¬ (false = true) by decide)] at H; exact H
         clear H
         have H := H1
         clear H1
         replace H := Option.bind_eq_some_iff.mp H
         obtain ⟨t199, A190, H⟩ := H
         replace H : (if t199 < 0 then (some (⟨#[]⟩ : ByteArray)) else (if 0 ≤ t199 then (if t199 < (l0_0.length : Int) then ((some (([(rd_T52 l0_0 t199).f2] : List ByteArray) : List ByteArray)).bind fun y201 => (if y201.length + x5_1.length < 8796093022208 then (spec_PathOf.l0 kj10 ((rd_T52 l0_0 t199).f1) (y201 ++ x5_1) (wrap64 (x6_1 + 1)) l0_0 a0_1) else (none))) else (none)) else (none))) = some r := H
         have A19 := Aside0.mk A190
         clear A190
         by_cases c20 : t199 < 0
         ·rw [if_pos c20] at H
          have c20b0 : decide (t199 < 0) = true := decide_eq_true c20
          clear c20
          obtain rfl := Option.some.inj H
          obtain ⟨hcz21_0, hcz21_1, hfz21_0, hfz21_1⟩ := z2 BK192.out
          go_wp2_with (first | ((with_reducible refine gate_callee (f := 48) rfl ?_); refine goesL_ (some 27) rfl rfl Try.func48 (by kernel_rfl) rfl #[.agg #[.slice A0_0 l0_0.length c0_0, .int .i64 a0_1], .int .i64 x1_1] rfl (by (try simp only [List.map_toArray, List.map_cons, List.map_nil]); first | done | rfl | (simp only [List.length_drop, List.length_take]; rfl)) ?_; (with_reducible refine (spec_l10At.calls kj10 _ _ l0_0 a0_1 x1_1 t199 _ ?side1 ?side2 A19.out).mono ?_); (case side1 => exact pc (Kd.C_below HR0_0.out HB.out)); (case side2 => exact HC0_0.out); rintro e w22 ⟨rfl, hb⟩; refine ⟨_, rfl, ?_⟩; have n0_ := Aside0.mk (Kd.R_below (by (with_reducible repeat (first | apply Kd.R_alloc | apply Kd.R_drewN | apply Kd.R_drew)); exact HO_5.out) hb); have n1_ := Aside0.mk (pb BK192.out hb); have n2_ := Aside0.mk (below_step (pl1 HB.out GE192.out) hb); clear HO_5; clear BK192; clear HB; have HO_5 := n0_; have BK192 := n1_; have HB := n2_; clear n0_ n1_ n2_; (try clear hb); (try clear hb2); (try clear hk); (try clear hi)))
          go_ret
          exact ⟨by first | rfl | (simp [errW_none, errW_some] <;> rfl) | (simp [*, errW_none, errW_some] <;> rfl), by repeat (first | (with_reducible first | exact HB.out | apply below_alloc | apply pw_below_drewN | apply below_drew1 | refine below_set ?_ GE192.out) | exact HB.out)⟩
         ·rw [if_neg c20] at H
          have c20b0 : decide (t199 < 0) = false := decide_eq_false c20
          clear c20
          by_cases c23 : 0 ≤ t199
          ·rw [if_pos c23] at H
           have c23b0 : decide (0 ≤ t199) = true := decide_eq_true c23
           clear c23
           by_cases c24 : t199 < (l0_0.length : Int)
           ·rw [if_pos c24] at H
            have c24b0 : decide (t199 < (l0_0.length : Int)) = true := decide_eq_true c24
            clear c24
            obtain ⟨y201, hy201⟩ : ∃ y_ : List ByteArray, y_ = (([(rd_T52 l0_0 t199).f2] : List ByteArray)) := ⟨_, rfl⟩
            replace H : (if y201.length + x5_1.length < 8796093022208 then (spec_PathOf.l0 kj10 ((rd_T52 l0_0 t199).f1) (y201 ++ x5_1) (wrap64 (x6_1 + 1)) l0_0 a0_1) else (none)) = some r := by first | (rw [hy201]; with_reducible exact H) | (have H2_ := (Option.bind_some _ _).symm.trans H; rw [hy201]; with_reducible exact H2_) | (have H2_ := (Option.bind_some _ _).symm.trans H; with_reducible exact H2_) | with_reducible exact H | (rw [hy201]; exact H) | exact H
            have Ny201 := Aside0.mk hy201
            clear hy201
            by_cases c25 : y201.length + x5_1.length < 8796093022208
            ·rw [if_pos c25] at H
             have LMc25 := Aside0.mk c25
             clear c25
             obtain ⟨y204, hy204⟩ : ∃ y_ : List ByteArray, y_ = (y201 ++ x5_1) := ⟨_, rfl⟩
             replace H : (spec_PathOf.l0 kj10 ((rd_T52 l0_0 t199).f1) y204 (wrap64 (x6_1 + 1)) l0_0 a0_1) = some r := by first | (rw [hy204]; with_reducible exact H) | (have H2_ := (Option.bind_some _ _).symm.trans H; rw [hy204]; with_reducible exact H2_) | (have H2_ := (Option.bind_some _ _).symm.trans H; with_reducible exact H2_) | with_reducible exact H | (rw [hy204]; exact H) | exact H
             have Ny204 := Aside0.mk hy204
             clear hy204
             have H' := Aside0.mk H
             clear H
             obtain ⟨hcz26_0, hcz26_1, hfz26_0, hfz26_1⟩ := z2 BK192.out
             go_wp2_with (first | ((with_reducible refine gate_callee (f := 48) rfl ?_); refine goesL_ (some 27) rfl rfl Try.func48 (by kernel_rfl) rfl #[.agg #[.slice A0_0 l0_0.length c0_0, .int .i64 a0_1], .int .i64 x1_1] rfl (by (try simp only [List.map_toArray, List.map_cons, List.map_nil]); first | done | rfl | (simp only [List.length_drop, List.length_take]; rfl)) ?_; (with_reducible refine (spec_l10At.calls kj10 _ _ l0_0 a0_1 x1_1 t199 _ ?side1 ?side2 A19.out).mono ?_); (case side1 => exact pc (Kd.C_below HR0_0.out HB.out)); (case side2 => exact HC0_0.out); rintro e w27 ⟨rfl, hb⟩; refine ⟨_, rfl, ?_⟩; have n0_ := Aside0.mk (Kd.R_below (by (with_reducible repeat (first | apply Kd.R_alloc | apply Kd.R_drewN | apply Kd.R_drew)); exact HO_5.out) hb); have n1_ := Aside0.mk (pb BK192.out hb); have n2_ := Aside0.mk (below_step (pl1 HB.out GE192.out) hb); clear HO_5; clear BK192; clear HB; have HO_5 := n0_; have BK192 := n1_; have HB := n2_; clear n0_ n1_ n2_; (try clear hb); (try clear hb2); (try clear hk); (try clear hi); have hcz28_0 : w27.cell? ⟨gb192, 0, none⟩ = some (.slice A0_0 l0_0.length c0_0) := (blk_cell BK192.out 0).trans rfl; have hcz28_1 : w27.cell? ⟨gb192, 1, none⟩ = some (.int .i64 a0_1) := (blk_cell BK192.out 1).trans rfl; have hfz28_0 := blk_frozen BK192.out 0; have hfz28_1 := blk_frozen BK192.out 1; have p200 : 0 ≤ (t199 : Int) := oda; have q200 : t199 < (l0_0.length : Int) := oda; obtain ⟨ad200, A200_7, c200_7, e200, hx200_0, hx200_1, hx200_2, hx200_3, hx200_4, hx200_5, hx200_6, hx200_7, hx200_8, hl200_7, hi200_7⟩ := at_T52 HR0_0.out t199 p200 q200; cases e200; replace hx200_0 := hbc HB.out hx200_0; replace hx200_1 := hbc HB.out hx200_1; replace hx200_2 := hbc HB.out hx200_2; replace hx200_3 := hbc HB.out hx200_3; replace hx200_4 := hbc HB.out hx200_4; replace hx200_5 := hbc HB.out hx200_5; replace hx200_6 := hbc HB.out hx200_6; replace hx200_7 := hbc HB.out hx200_7; replace hx200_8 := hbc HB.out hx200_8; have HR200_7 := Aside0.mk hi200_7; have HC200_7 := Aside0.mk hl200_7; clear hi200_7 hl200_7; replace p200 := eq_true p200; replace q200 := eq_true q200) | ((with_reducible refine gate_dst (N := 36) rfl ?_); refine Kd.R_lit Kd.string _ 9 ?hg (N := 36) ?hd (xs := ([(rd_T52 l0_0 t199).f2] : List ByteArray)) (inner := [.string ((rd_T52 l0_0 t199).f2)]) (ok := fun _ => True) (okp := fun _ => True) ?hr ?hp (fun _ hk => hk) trivial (Below.refl _ _) (Nat.le_refl _) (by simp) ?_; (case hd => rfl); (case hg => rfl); (case hr => first | (go_simp; done) | (go_simp; rfl)); (case hp => exact (Reps.one (show Kd.M Kd.string _ _ _ ((rd_T52 l0_0 t199).f2) [.string ((rd_T52 l0_0 t199).f2)] from rfl) (Reps.none _ _))); intro v202 w29 ho30 hb hg_ hnew_; clear hg_ hnew_; (first | rw [← Ny201.out] at ho30 | (simp only [Int.reduceToNat] at ho30; rw [← Ny201.out] at ho30)); have n0_ := Aside0.mk (Kd.R_elder' (by (with_reducible repeat (first | apply Kd.R_alloc | apply Kd.R_drewN | apply Kd.R_drew)); exact HO_5.out) (Kd.R_base ho30) hb); have n1_ := Aside0.mk (Kd.R_lower (Kd.R_new' ho30 (Kd.R_lt (by (with_reducible repeat (first | apply Kd.R_alloc | apply Kd.R_drewN | apply Kd.R_drew)); exact HO_5.out))) (below_size (pl1 HB.out GE192.out))); have n2_ := Aside0.mk (pb BK192.out hb); have n3_ := Aside0.mk (below_step (pl1 HB.out GE192.out) hb); clear HO_5; clear BK192; clear HB; have HO_5 := n0_; have HO203 := n1_; have BK192 := n2_; have HB := n3_; clear n0_ n1_ n2_ n3_; clear hb ho30; obtain ⟨Ao32, co32, eo32⟩ := Kd.R_slice HO_5.out; subst eo32) | ((with_reducible refine gate_builtin (b := .append) (xs := #[.tmp 36, .tmp 37]) rfl ?_); at_builtin; refine Kd.R_append_rows Kd.string (w0 := w) w.heap.size rfl (.tmp 36) (.tmp 37) 42 9 (.string ⟨#[]⟩) 16 rfl Try.underlying42 info9 rfl (by decide) (by omega) v202 y201 x5_1 _ _ _ (fun k_ => some k_ ≠ (.slice Ao32 x5_1.length co32 : Value).ownBlock) (fun _ => False) rfl rfl ?aO ?aR (fun _ _ h => h) (fun _ h => h.elim) ?aF ?aB ?aS ?aL ?_; (case aR => repeat (first | exact (Kd.R_reads' HO_5.out).2.2 | (with_reducible refine Kd.C_alloc ?_ _) | (with_reducible refine Kd.C_drewN ?_ _) | (with_reducible refine Kd.C_drew ?_))); (case aB => exact (pl1 HB.out GE192.out)); (case aF => exact (fun k_ hk => Kd.fresh' (Kd.R_lt (by (with_reducible repeat (first | apply Kd.R_alloc | apply Kd.R_drewN | apply Kd.R_drew)); exact HO_5.out)) k_ hk)); (case aO => exact (by (with_reducible repeat (first | apply Kd.R_alloc | apply Kd.R_drewN | apply Kd.R_drew)); exact Kd.R_mono HO203.out (fun _ hk => hk.2))); (case aS => exact (below_size (pl1 HB.out GE192.out))); (case aL => have := LMc25.out; omega); intro v205 w31 ho hb hg hat; rw [← Ny204.out] at ho; have n0_ := Aside0.mk (Kd.R_after (ok := (fun _ => True)) (by (with_reducible repeat (first | apply Kd.R_alloc | apply Kd.R_drewN | apply Kd.R_drew)); exact HO_5.out) hg hat); have n1_ := Aside0.mk (blk_grown (g := gb192) (o := .cells #[.slice (some ad200) l0_0.length c0_0, .int .i64 a0_1] 29 (0, 0)) (pk BK192.out) hg (Kd.R_ne HO203.out BK192.out (by decide))); have n2_ := Aside0.mk (hb); have n3_ := Aside0.mk (ho); clear HO_5; clear BK192; clear HB; clear HO203; have HO_5 := n0_; have BK192 := n1_; have HB := n2_; have HO206 := n3_; clear n0_ n1_ n2_ n3_; clear ho hb hg hat; have hcz33_0 : w31.cell? ⟨gb192, 0, none⟩ = some (.slice (some ad200) l0_0.length c0_0) := (blk_cell BK192.out 0).trans rfl; have hcz33_1 : w31.cell? ⟨gb192, 1, none⟩ = some (.int .i64 a0_1) := (blk_cell BK192.out 1).trans rfl; have hfz33_0 := blk_frozen BK192.out 0; have hfz33_1 := blk_frozen BK192.out 1; have p207 : 0 ≤ (t199 : Int) := oda; have q207 : t199 < (l0_0.length : Int) := oda; obtain ⟨ad207, A207_7, c207_7, e207, hx207_0, hx207_1, hx207_2, hx207_3, hx207_4, hx207_5, hx207_6, hx207_7, hx207_8, hl207_7, hi207_7⟩ := at_T52 HR0_0.out t199 p207 q207; obtain rfl : ad200 = ad207 := (by injection e207); replace hx207_0 := hbc HB.out hx207_0; replace hx207_1 := hbc HB.out hx207_1; replace hx207_2 := hbc HB.out hx207_2; replace hx207_3 := hbc HB.out hx207_3; replace hx207_4 := hbc HB.out hx207_4; replace hx207_5 := hbc HB.out hx207_5; replace hx207_6 := hbc HB.out hx207_6; replace hx207_7 := hbc HB.out hx207_7; replace hx207_8 := hbc HB.out hx207_8; have HR207_7 := Aside0.mk hi207_7; have HC207_7 := Aside0.mk hl207_7; clear hi207_7 hl207_7; replace p207 := eq_true p207; replace q207 := eq_true q207))
             go_roundg kj10
             case measure => have := HK1.out; have := HJ10.out; omega
             case rel => exact ⟨((rd_T52 l0_0 t199).f1), (y204), (wrap64 (x6_1 + 1)), eqa, eqa, H', ⟨by have := HK1.out; have := HJ10.out; omega⟩, ⟨by (with_reducible repeat (first | apply Kd.R_alloc | apply Kd.R_drewN | apply Kd.R_drew)); exact Kd.R_mono HO206.out (fun _ hk => trivial)⟩, ⟨pk BK192.out⟩, ⟨pl1 HB.out GE192.out⟩⟩
            ·rw [if_neg c25] at H
             exact absurd H (by simp)
           ·rw [if_neg c24] at H
            exact absurd H (by simp)
          ·rw [if_neg c23] at H
           exact absurd H (by simp)
     ·rw [if_neg c10] at H
      have c10b0 : decide (x6_1 ≤ 14) = false := decide_eq_false c10
      clear c10
      obtain rfl := Option.some.inj H
      go_wp2
      go_ret
      exact ⟨by first | rfl | (simp [errW_none, errW_some] <;> rfl) | (simp [*, errW_none, errW_some] <;> rfl), by repeat (first | (with_reducible first | exact HB.out | apply below_alloc | apply pw_below_drewN | apply below_drew1 | refine below_set ?_ GE192.out) | exact HB.out)⟩
  ·replace c4 := Bool.eq_false_iff.mpr c4
   subst c4
   have H1 : (some (⟨#[]⟩ : ByteArray)) = some r := by rw [if_neg (show ¬ (false = true) by decide)] at H; exact H
   clear H
   have H := H1
   clear H1
   obtain rfl := Option.some.inj H
   go_enter Try.func22, Try.ntmps22
   go_wp2_with (first | ((with_reducible refine gate_dst (N := 2) rfl ?_); refine box_event ?hg (N := 2) ?hd (cs := #[.slice A0_0 l0_0.length c0_0, .int .i64 a0_1]) (t := 29) ?hr ?_; (case hd => rfl); (case hg => rfl); (case hr => first | (go_simp; done) | (go_simp; rfl)); intro gb192 hg w34 hbox hb; have n0_ := Aside0.mk (below_step (pl0 HB.out) hb); have n1_ := Aside0.mk (hbox); have n2_ := Aside0.mk ((by rw [hg]; exact (below_size (pl0 HB.out)) : w.heap.size ≤ gb192)); have n3_ := Aside0.mk ((by rw [hg]; exact (below_size (pl0 HB.out)) : w.heap.size ≤ gb192)); clear HB; have HB := n0_; have BK192 := n1_; have GW192 := n2_; have GE192 := n3_; clear n0_ n1_ n2_ n3_; clear hb hbox hg; have hcz35_0 : w34.cell? ⟨gb192, 0, none⟩ = some (.slice A0_0 l0_0.length c0_0) := (blk_cell BK192.out 0).trans rfl; have hcz35_1 : w34.cell? ⟨gb192, 1, none⟩ = some (.int .i64 a0_1) := (blk_cell BK192.out 1).trans rfl; have hfz35_0 := blk_frozen BK192.out 0; have hfz35_1 := blk_frozen BK192.out 1) | ((with_reducible refine gate_callee (f := 12) rfl ?_); refine goesL_ (some 9) rfl rfl Try.func12 (by kernel_rfl) rfl #[.agg #[.slice A0_0 l0_0.length c0_0, .int .i64 a0_1]] rfl (by (try simp only [List.map_toArray, List.map_cons, List.map_nil]); first | done | rfl | (simp only [List.length_drop, List.length_take]; rfl)) ?_; (with_reducible refine (spec_TreeOk.calls k _ _ l0_0 a0_1 false _ ?side1 ?side2 A3.out).mono ?_); (case side1 => exact pc (Kd.C_below HR0_0.out HB.out)); (case side2 => exact HC0_0.out); rintro e w36 ⟨rfl, hb⟩; refine ⟨_, rfl, ?_⟩; have n0_ := Aside0.mk (pb BK192.out hb); have n1_ := Aside0.mk (below_step (pl1 HB.out GE192.out) hb); clear BK192; clear HB; have BK192 := n0_; have HB := n1_; clear n0_ n1_; (try clear hb); (try clear hb2); (try clear hk); (try clear hi)))
   go_ret
   exact ⟨by first | rfl | (simp [errW_none, errW_some] <;> rfl) | (simp [*, errW_none, errW_some] <;> rfl), by repeat (first | (with_reducible first | exact HB.out | apply below_alloc | apply pw_below_drewN | apply below_drew1 | refine below_set ?_ GE192.out) | exact HB.out)⟩

/-! ### impl_JoinPath: function 51 -/
def impl_JoinPath.f (k : Nat) (l0 : List ByteArray) : Option (ByteArray) := if l0.length ≤ 140737488355328 ∧ (Lib.join (l0.map (·.data.toList)) [47]).length ≤ 140737488355328 then some ((⟨#[47]⟩ : ByteArray) ++ ⟨(Lib.join (l0.map (·.data.toList)) [47]).toArray⟩) else none
theorem impl_JoinPath.mono : ∀ a0 k, LeO (impl_JoinPath.f k a0) (impl_JoinPath.f (k + 1) a0) := fun _ _ => LeO.refl _
/-- strings.Join at a list of texts that is told by its cells. -/
theorem impl_JoinPath.joins (A0 : Option Addr) (c0 : Nat) (l0 : List ByteArray) (w : World) (hr0 : Kd.C Kd.string w A0 l0.length l0) (hc0 : l0.length ≤ c0) (hN : l0.length ≤ 140737488355328) (hlen : (Lib.join (l0.map (·.data.toList)) [47]).length ≤ 140737488355328) :
    Calls Try.prog 67 #[.slice A0 l0.length c0, .string ⟨#[47]⟩] w fun e w' => e = .returned (.string ⟨(Lib.join (l0.map (·.data.toList)) [47]).toArray⟩) ∧ Below w.heap.size w w' := by
  cases l0 with
  | nil =>
    refine (Try.strings_Join_none A0 c0 ⟨#[47]⟩ w).mono ?_
    rintro e w' ⟨rfl, rfl⟩
    exact ⟨rfl, Below.refl _ _⟩
  | cons x l =>
    obtain ⟨ad, rfl, hc⟩ := hr0.2.2 (by simp)
    have cell : ∀ (j : Nat) y, (x :: l)[j]? = some y → w.cell? (ad.add j) = some (.string y) := by
      intro j y hy
      obtain ⟨c, h1, h2, h3⟩ := hc j y hy
      obtain rfl : c = [.string y] := h2
      have := h3 0 (.string y) rfl
      simpa [Kd.string, Kd.scalar] using this
    obtain ⟨b, o, s⟩ := ad
    have c0_ := cell 0 x rfl
    have hs : s = none := by
      unfold World.cell? Addr.add at c0_
      cases s with
      | none => rfl
      | some v =>
        exfalso
        simp only [if_true] at c0_
        split at c0_
        · simp at c0_
        · simp at c0_
    subst hs
    have hb : b < w.heap.size := by
      unfold World.cell? Addr.add at c0_
      simp only [if_true] at c0_
      refine Nat.lt_of_not_le fun hle => ?_
      rw [Array.getElem?_eq_none hle] at c0_
      simp at c0_
    have ha : ∀ j, (⟨b, o, none⟩ : Addr).add j = ⟨b, o + j, none⟩ := fun j => by
      unfold Addr.add
      by_cases hj : j = 0
      · subst hj; rfl
      · rw [if_neg hj]
    exact Try.strings_Join b o c0 (x :: l) ⟨#[47]⟩ w (fun j y hy => by rw [← ha]; exact cell j y hy) hb hN hc0 hlen
set_option maxHeartbeats 8000000 in
set_option maxRecDepth 100000 in
theorem impl_JoinPath.calls (k : Nat) (A0 : Option Addr) (c0 : Nat) (l0 : List ByteArray) (r : ByteArray) (w : World) (hr0 : Kd.C Kd.string w A0 l0.length l0) (hc0 : l0.length ≤ c0) (h : impl_JoinPath.f k l0 = some r) :
    Calls Try.prog 51 #[.slice A0 l0.length c0] w fun e w' => e = .returned (.string r) ∧ Below w.heap.size w w' := by
  unfold impl_JoinPath.f at h
  by_cases hb : l0.length ≤ 140737488355328 ∧ (Lib.join (l0.map (·.data.toList)) [47]).length ≤ 140737488355328
  · rw [if_pos hb] at h
    obtain rfl := Option.some.inj h
    clear h
    have J := impl_JoinPath.joins A0 c0 l0 w hr0 hc0 hb.1 hb.2
    obtain ⟨S, hS, hz⟩ : ∃ S : ByteArray, ByteArray.mk (Lib.join (l0.map (·.data.toList)) [47]).toArray = S ∧ S.size ≤ 140737488355328 := ⟨_, rfl, by simpa [ByteArray.size] using hb.2⟩
    rw [hS] at J ⊢
    clear hS hb
    have z1 : 1 + S.size ≤ 9223372036854775807 := by omega
    have z1b0 := eq_true z1
    have z1b1 : decide (1 + S.size ≤ 9223372036854775807) = true := decide_eq_true z1
    have z1b2 : (9223372036854775807 < 1 + S.size) = False := eq_false (Nat.not_lt.2 z1)
    have HJ := Aside0.mk J
    clear J
    go_enter Try.func51, Try.ntmps51
    go_wp2_with (first | ((with_reducible refine gate_callee (f := 67) rfl ?_); refine goesL_ (some 4) rfl rfl Try.func67 (by kernel_rfl) rfl #[.slice A0 l0.length c0, .string ⟨#[47]⟩] rfl (by (try simp only [List.map_toArray, List.map_cons, List.map_nil]); first | done | rfl | (simp only [List.length_drop, List.length_take]; rfl)) ?_; (with_reducible refine (HJ.out).mono ?_); rintro e w16 ⟨rfl, hb⟩; refine ⟨_, rfl, ?_⟩; have HB := Aside0.mk hb; clear hb))
    go_ret
    exact ⟨by first | rfl | (simp; done) | (simp [*]; done), by repeat (first | (with_reducible first | exact HB.out | apply below_alloc | apply pw_below_drewN | apply below_drew1) | exact HB.out)⟩
  · rw [if_neg hb] at h
    cases h


end Go.Proofs.Ytnhbfbgflgplcaa.QTP
