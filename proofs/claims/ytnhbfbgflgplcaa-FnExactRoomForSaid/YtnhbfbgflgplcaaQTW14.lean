/- Walks, as the kit's print writes them, run with stubs of my own and mended: TW. -/
import Derived.Test.YtnhbfbgflgplcaaQTW0
import Derived.Test.YtnhbfbgflgplcaaQTW11
import Derived.Test.YtnhbfbgflgplcaaQTW12
import Derived.Test.YtnhbfbgflgplcaaQTW13
namespace Go.Proofs.Ytnhbfbgflgplcaa.QTW
open Go.Proofs.YtnhbfbgflgplcaaW Go.Proofs.YtnhbfbgflgplcaaW.Zip
open Go.RowKit Go.Proofs.YtnhbfbgflgplcaaW.PrintWords Go.Proofs.YtnhbfbgflgplcaaW.PrintLast Go.Proofs.YtnhbfbgflgplcaaW.PrintMore
attribute [local go_sem] max2_int min2_int max_two min_two max_three min_three max_four min_four   -- for this text's walks alone
set_option linter.unusedVariables false
set_option linter.unusedSimpArgs false

/-! ### impl_TreeOk: function 14 -/
mutual
def impl_TreeOk.j0 : Nat → Bool → List (S52) → Int → Option (Bool)
  | 0, _, _, _ => none
  | k + 1, x15, x250000, x250001 => if x15 = true then (some false) else (if 0 < (x250000.length : Int) then (if ((rd_T52 x250000 0).f0) = 1 then (if ((rd_T52 x250000 0).f1) = 0 then (if ((rd_T52 x250000 0).f2).toList = ([] : List UInt8) then (if ((rd_T52 x250000 0).f3 = true) then (impl_TreeOk.j1 k (((rd_T52 x250000 0).f4) == 0) x250000 x250001) else (impl_TreeOk.j1 k true x250000 x250001)) else (impl_TreeOk.j1 k true x250000 x250001)) else (impl_TreeOk.j1 k true x250000 x250001)) else (impl_TreeOk.j1 k true x250000 x250001)) else (none))
def impl_TreeOk.j1 : Nat → Bool → List (S52) → Int → Option (Bool)
  | 0, _, _, _ => none
  | k + 1, x42, x250000, x250001 => if x42 = true then (some false) else (impl_TreeOk.l0 k x250000 (x250000.length : Int) 0 x250000 x250001)
def impl_TreeOk.l0 : Nat → List (S52) → Int → Int → List (S52) → Int → Option (Bool)
  | 0, _, _, _, _, _ => none
  | k + 1, x44, x45, x46, x250000, x250001 => if x46 < x45 then (if 0 ≤ x46 then (if x46 < (x44.length : Int) then ((impl_inodeOk.f k ((rd_T52 x44 x46).f0) ((rd_T52 x44 x46).f1) ((rd_T52 x44 x46).f2) ((rd_T52 x44 x46).f3) ((rd_T52 x44 x46).f4) ((rd_T52 x44 x46).f5) ((rd_T52 x44 x46).f6) ((rd_T52 x44 x46).f7) ((rd_T52 x44 x46).f8)).bind fun t255 => (if t255 = true then (if ((rd_T52 x44 x46).f0) ≥ x250001 then (impl_TreeOk.j3 k x46 x44 x45 x46 true x250000 x250001 ((rd_T52 x44 x46).f0) ((rd_T52 x44 x46).f1) ((rd_T52 x44 x46).f2) ((rd_T52 x44 x46).f3) ((rd_T52 x44 x46).f4) ((rd_T52 x44 x46).f5) ((rd_T52 x44 x46).f6) ((rd_T52 x44 x46).f7) ((rd_T52 x44 x46).f8)) else (if x46 > 0 then (if 0 ≤ (wrap64 (x46 - 1)) then (if (wrap64 (x46 - 1)) < (x250000.length : Int) then (impl_TreeOk.j3 k x46 x44 x45 x46 (decide (((rd_T52 x250000 (wrap64 (x46 - 1))).f0) ≥ ((rd_T52 x44 x46).f0))) x250000 x250001 ((rd_T52 x44 x46).f0) ((rd_T52 x44 x46).f1) ((rd_T52 x44 x46).f2) ((rd_T52 x44 x46).f3) ((rd_T52 x44 x46).f4) ((rd_T52 x44 x46).f5) ((rd_T52 x44 x46).f6) ((rd_T52 x44 x46).f7) ((rd_T52 x44 x46).f8)) else (none)) else (none)) else (impl_TreeOk.j3 k x46 x44 x45 x46 false x250000 x250001 ((rd_T52 x44 x46).f0) ((rd_T52 x44 x46).f1) ((rd_T52 x44 x46).f2) ((rd_T52 x44 x46).f3) ((rd_T52 x44 x46).f4) ((rd_T52 x44 x46).f5) ((rd_T52 x44 x46).f6) ((rd_T52 x44 x46).f7) ((rd_T52 x44 x46).f8)))) else (impl_TreeOk.j3 k x46 x44 x45 x46 true x250000 x250001 ((rd_T52 x44 x46).f0) ((rd_T52 x44 x46).f1) ((rd_T52 x44 x46).f2) ((rd_T52 x44 x46).f3) ((rd_T52 x44 x46).f4) ((rd_T52 x44 x46).f5) ((rd_T52 x44 x46).f6) ((rd_T52 x44 x46).f7) ((rd_T52 x44 x46).f8)))) else (none)) else (none)) else (some true)
def impl_TreeOk.j3 : Nat → Int → List (S52) → Int → Int → Bool → List (S52) → Int → Int → Int → ByteArray → Bool → Int → Int → Int → List (S64) → Int → Option (Bool)
  | 0, _, _, _, _, _, _, _, _, _, _, _, _, _, _, _, _ => none
  | k + 1, x4, x44, x45, x46, x76, x250000, x250001, x255000, x255001, x255002, x255003, x255004, x255005, x255006, x255007, x255008 => if x76 = true then (some false) else (if x4 > 0 then ((impl_NameOk.f k x255002).bind fun t257 => (if t257 = true then ((impl_reaches.f k x250000 x250001 x255000 x255001 x255002 x255003 x255004 x255005 x255006 x255007 x255008).bind fun t258 => (impl_TreeOk.j4 k x4 x44 x45 x46 (!t258) x250000 x250001 x255000 x255001 x255002 x255003 x255004 x255005 x255006 x255007 x255008)) else (impl_TreeOk.j4 k x4 x44 x45 x46 true x250000 x250001 x255000 x255001 x255002 x255003 x255004 x255005 x255006 x255007 x255008))) else (impl_TreeOk.j4 k x4 x44 x45 x46 false x250000 x250001 x255000 x255001 x255002 x255003 x255004 x255005 x255006 x255007 x255008))
def impl_TreeOk.j4 : Nat → Int → List (S52) → Int → Int → Bool → List (S52) → Int → Int → Int → ByteArray → Bool → Int → Int → Int → List (S64) → Int → Option (Bool)
  | 0, _, _, _, _, _, _, _, _, _, _, _, _, _, _, _, _ => none
  | k + 1, x4, x44, x45, x46, x90, x250000, x250001, x255000, x255001, x255002, x255003, x255004, x255005, x255006, x255007, x255008 => if x90 = true then (some false) else (if 0 ≤ x4 then (if x4 ≤ (x250000.length : Int) then ((impl_dupI.f (x250000.take (x4 : Int).toNat) x255001 x255002).bind fun t263 => (if t263 = true then (some false) else (impl_TreeOk.l0 k x44 x45 (wrap64 (x46 + 1)) x250000 x250001))) else (none)) else (none))
end
def impl_TreeOk.f (k : Nat) (l0_0 : List (S52)) (a0_1 : Int) : Option (Bool) := (impl_within.f (l0_0.length : Int) 1 14).bind fun t250 => (if t250 = true then (impl_TreeOk.j0 k (decide (a0_1 > 100000)) l0_0 a0_1) else (impl_TreeOk.j0 k true l0_0 a0_1))
theorem impl_TreeOk.mono_l : ∀ k, (∀ y0 y1 y2, LeO (impl_TreeOk.j0 k y0 y1 y2) (impl_TreeOk.j0 (k + 1) y0 y1 y2)) ∧ (∀ y0 y1 y2, LeO (impl_TreeOk.j1 k y0 y1 y2) (impl_TreeOk.j1 (k + 1) y0 y1 y2)) ∧ (∀ y0 y1 y2 y3 y4, LeO (impl_TreeOk.l0 k y0 y1 y2 y3 y4) (impl_TreeOk.l0 (k + 1) y0 y1 y2 y3 y4)) ∧ (∀ y0 y1 y2 y3 y4 y5 y6 y7 y8 y9 y10 y11 y12 y13 y14 y15, LeO (impl_TreeOk.j3 k y0 y1 y2 y3 y4 y5 y6 y7 y8 y9 y10 y11 y12 y13 y14 y15) (impl_TreeOk.j3 (k + 1) y0 y1 y2 y3 y4 y5 y6 y7 y8 y9 y10 y11 y12 y13 y14 y15)) ∧ (∀ y0 y1 y2 y3 y4 y5 y6 y7 y8 y9 y10 y11 y12 y13 y14 y15, LeO (impl_TreeOk.j4 k y0 y1 y2 y3 y4 y5 y6 y7 y8 y9 y10 y11 y12 y13 y14 y15) (impl_TreeOk.j4 (k + 1) y0 y1 y2 y3 y4 y5 y6 y7 y8 y9 y10 y11 y12 y13 y14 y15))
  | 0 => ⟨fun _ _ _ r h => by simp [impl_TreeOk.j0] at h, fun _ _ _ r h => by simp [impl_TreeOk.j1] at h, fun _ _ _ _ _ r h => by simp [impl_TreeOk.l0] at h, fun _ _ _ _ _ _ _ _ _ _ _ _ _ _ _ _ r h => by simp [impl_TreeOk.j3] at h, fun _ _ _ _ _ _ _ _ _ _ _ _ _ _ _ _ r h => by simp [impl_TreeOk.j4] at h⟩
  | k + 1 => by
    obtain ⟨ih0, ih1, ih2, ih3, ih4⟩ := impl_TreeOk.mono_l k
    refine ⟨?_, ?_, ?_, ?_, ?_⟩
    · intro y0 y1 y2
      unfold impl_TreeOk.j0
      repeat' first
      | (with_reducible exact ih0 _ _ _)
      | (with_reducible exact ih1 _ _ _)
      | (with_reducible exact ih2 _ _ _ _ _)
      | (with_reducible exact ih3 _ _ _ _ _ _ _ _ _ _ _ _ _ _ _ _)
      | (with_reducible exact ih4 _ _ _ _ _ _ _ _ _ _ _ _ _ _ _ _)
      | (with_reducible exact impl_NameOk.mono _ _)
      | (with_reducible exact impl_inodeOk.mono _ _ _ _ _ _ _ _ _ _)
      | (with_reducible exact impl_reaches.mono _ _ _ _ _ _ _ _ _ _ _ _)
      | (with_reducible exact LeO.refl _)
      | (with_reducible exact LeO.none _)
      | (with_reducible refine LeO.ite ?_ ?_)
      | (with_reducible refine LeO.bind ?_ (fun _ => ?_))
      | exact ih0 _ _ _
      | exact ih1 _ _ _
      | exact ih2 _ _ _ _ _
      | exact ih3 _ _ _ _ _ _ _ _ _ _ _ _ _ _ _ _
      | exact ih4 _ _ _ _ _ _ _ _ _ _ _ _ _ _ _ _
      | exact impl_NameOk.mono _ _
      | exact impl_inodeOk.mono _ _ _ _ _ _ _ _ _ _
      | exact impl_reaches.mono _ _ _ _ _ _ _ _ _ _ _ _
      | exact LeO.none _
      | refine LeO.ite ?_ ?_
      | refine LeO.bind ?_ (fun _ => ?_)
    · intro y0 y1 y2
      unfold impl_TreeOk.j1
      repeat' first
      | (with_reducible exact ih0 _ _ _)
      | (with_reducible exact ih1 _ _ _)
      | (with_reducible exact ih2 _ _ _ _ _)
      | (with_reducible exact ih3 _ _ _ _ _ _ _ _ _ _ _ _ _ _ _ _)
      | (with_reducible exact ih4 _ _ _ _ _ _ _ _ _ _ _ _ _ _ _ _)
      | (with_reducible exact impl_NameOk.mono _ _)
      | (with_reducible exact impl_inodeOk.mono _ _ _ _ _ _ _ _ _ _)
      | (with_reducible exact impl_reaches.mono _ _ _ _ _ _ _ _ _ _ _ _)
      | (with_reducible exact LeO.refl _)
      | (with_reducible exact LeO.none _)
      | (with_reducible refine LeO.ite ?_ ?_)
      | (with_reducible refine LeO.bind ?_ (fun _ => ?_))
      | exact ih0 _ _ _
      | exact ih1 _ _ _
      | exact ih2 _ _ _ _ _
      | exact ih3 _ _ _ _ _ _ _ _ _ _ _ _ _ _ _ _
      | exact ih4 _ _ _ _ _ _ _ _ _ _ _ _ _ _ _ _
      | exact impl_NameOk.mono _ _
      | exact impl_inodeOk.mono _ _ _ _ _ _ _ _ _ _
      | exact impl_reaches.mono _ _ _ _ _ _ _ _ _ _ _ _
      | exact LeO.none _
      | refine LeO.ite ?_ ?_
      | refine LeO.bind ?_ (fun _ => ?_)
    · intro y0 y1 y2 y3 y4
      unfold impl_TreeOk.l0
      repeat' first
      | (with_reducible exact ih0 _ _ _)
      | (with_reducible exact ih1 _ _ _)
      | (with_reducible exact ih2 _ _ _ _ _)
      | (with_reducible exact ih3 _ _ _ _ _ _ _ _ _ _ _ _ _ _ _ _)
      | (with_reducible exact ih4 _ _ _ _ _ _ _ _ _ _ _ _ _ _ _ _)
      | (with_reducible exact impl_NameOk.mono _ _)
      | (with_reducible exact impl_inodeOk.mono _ _ _ _ _ _ _ _ _ _)
      | (with_reducible exact impl_reaches.mono _ _ _ _ _ _ _ _ _ _ _ _)
      | (with_reducible exact LeO.refl _)
      | (with_reducible exact LeO.none _)
      | (with_reducible refine LeO.ite ?_ ?_)
      | (with_reducible refine LeO.bind ?_ (fun _ => ?_))
      | exact ih0 _ _ _
      | exact ih1 _ _ _
      | exact ih2 _ _ _ _ _
      | exact ih3 _ _ _ _ _ _ _ _ _ _ _ _ _ _ _ _
      | exact ih4 _ _ _ _ _ _ _ _ _ _ _ _ _ _ _ _
      | exact impl_NameOk.mono _ _
      | exact impl_inodeOk.mono _ _ _ _ _ _ _ _ _ _
      | exact impl_reaches.mono _ _ _ _ _ _ _ _ _ _ _ _
      | exact LeO.none _
      | refine LeO.ite ?_ ?_
      | refine LeO.bind ?_ (fun _ => ?_)
    · intro y0 y1 y2 y3 y4 y5 y6 y7 y8 y9 y10 y11 y12 y13 y14 y15
      unfold impl_TreeOk.j3
      repeat' first
      | (with_reducible exact ih0 _ _ _)
      | (with_reducible exact ih1 _ _ _)
      | (with_reducible exact ih2 _ _ _ _ _)
      | (with_reducible exact ih3 _ _ _ _ _ _ _ _ _ _ _ _ _ _ _ _)
      | (with_reducible exact ih4 _ _ _ _ _ _ _ _ _ _ _ _ _ _ _ _)
      | (with_reducible exact impl_NameOk.mono _ _)
      | (with_reducible exact impl_inodeOk.mono _ _ _ _ _ _ _ _ _ _)
      | (with_reducible exact impl_reaches.mono _ _ _ _ _ _ _ _ _ _ _ _)
      | (with_reducible exact LeO.refl _)
      | (with_reducible exact LeO.none _)
      | (with_reducible refine LeO.ite ?_ ?_)
      | (with_reducible refine LeO.bind ?_ (fun _ => ?_))
      | exact ih0 _ _ _
      | exact ih1 _ _ _
      | exact ih2 _ _ _ _ _
      | exact ih3 _ _ _ _ _ _ _ _ _ _ _ _ _ _ _ _
      | exact ih4 _ _ _ _ _ _ _ _ _ _ _ _ _ _ _ _
      | exact impl_NameOk.mono _ _
      | exact impl_inodeOk.mono _ _ _ _ _ _ _ _ _ _
      | exact impl_reaches.mono _ _ _ _ _ _ _ _ _ _ _ _
      | exact LeO.none _
      | refine LeO.ite ?_ ?_
      | refine LeO.bind ?_ (fun _ => ?_)
    · intro y0 y1 y2 y3 y4 y5 y6 y7 y8 y9 y10 y11 y12 y13 y14 y15
      unfold impl_TreeOk.j4
      repeat' first
      | (with_reducible exact ih0 _ _ _)
      | (with_reducible exact ih1 _ _ _)
      | (with_reducible exact ih2 _ _ _ _ _)
      | (with_reducible exact ih3 _ _ _ _ _ _ _ _ _ _ _ _ _ _ _ _)
      | (with_reducible exact ih4 _ _ _ _ _ _ _ _ _ _ _ _ _ _ _ _)
      | (with_reducible exact impl_NameOk.mono _ _)
      | (with_reducible exact impl_inodeOk.mono _ _ _ _ _ _ _ _ _ _)
      | (with_reducible exact impl_reaches.mono _ _ _ _ _ _ _ _ _ _ _ _)
      | (with_reducible exact LeO.refl _)
      | (with_reducible exact LeO.none _)
      | (with_reducible refine LeO.ite ?_ ?_)
      | (with_reducible refine LeO.bind ?_ (fun _ => ?_))
      | exact ih0 _ _ _
      | exact ih1 _ _ _
      | exact ih2 _ _ _ _ _
      | exact ih3 _ _ _ _ _ _ _ _ _ _ _ _ _ _ _ _
      | exact ih4 _ _ _ _ _ _ _ _ _ _ _ _ _ _ _ _
      | exact impl_NameOk.mono _ _
      | exact impl_inodeOk.mono _ _ _ _ _ _ _ _ _ _
      | exact impl_reaches.mono _ _ _ _ _ _ _ _ _ _ _ _
      | exact LeO.none _
      | refine LeO.ite ?_ ?_
      | refine LeO.bind ?_ (fun _ => ?_)
theorem impl_TreeOk.mono : ∀ a0 a1 k, LeO (impl_TreeOk.f k a0 a1) (impl_TreeOk.f (k + 1) a0 a1) := by
  intro a0 a1 k
  obtain ⟨ih0, ih1, ih2, ih3, ih4⟩ := impl_TreeOk.mono_l k
  unfold impl_TreeOk.f
  repeat' first
      | (with_reducible exact ih0 _ _ _)
      | (with_reducible exact ih1 _ _ _)
      | (with_reducible exact ih2 _ _ _ _ _)
      | (with_reducible exact ih3 _ _ _ _ _ _ _ _ _ _ _ _ _ _ _ _)
      | (with_reducible exact ih4 _ _ _ _ _ _ _ _ _ _ _ _ _ _ _ _)
      | (with_reducible exact impl_NameOk.mono _ _)
      | (with_reducible exact impl_inodeOk.mono _ _ _ _ _ _ _ _ _ _)
      | (with_reducible exact impl_reaches.mono _ _ _ _ _ _ _ _ _ _ _ _)
      | (with_reducible exact LeO.refl _)
      | (with_reducible exact LeO.none _)
      | (with_reducible refine LeO.ite ?_ ?_)
      | (with_reducible refine LeO.bind ?_ (fun _ => ?_))
      | exact ih0 _ _ _
      | exact ih1 _ _ _
      | exact ih2 _ _ _ _ _
      | exact ih3 _ _ _ _ _ _ _ _ _ _ _ _ _ _ _ _
      | exact ih4 _ _ _ _ _ _ _ _ _ _ _ _ _ _ _ _
      | exact impl_NameOk.mono _ _
      | exact impl_inodeOk.mono _ _ _ _ _ _ _ _ _ _
      | exact impl_reaches.mono _ _ _ _ _ _ _ _ _ _ _ _
      | exact LeO.none _
      | refine LeO.ite ?_ ?_
      | refine LeO.bind ?_ (fun _ => ?_)
def impl_TreeOk.T9 : Bool × List (List Nat × List Nat) := (true, [([], []), ([0], [0]), ([1], [1]), ([2, 1], [2]), ([3], [3]), ([4, 3], [3, 4]), ([3], [3]), ([6, 3], [3, 6]), ([5, 7, 3], [3, 5, 7]), ([3, 8], [3, 8]), ([9, 3], [9]), ([10], [10]), ([11, 10], [10, 11]), ([12, 10, 10], [10, 12]), ([13], [13]), ([14, 13], [13, 14]), ([13], [13]), ([16, 13], [13, 16]), ([15, 17, 13], [13, 15, 17]), ([18, 13], [13, 18]), ([19, 13], [13, 19]), ([13], [13]), ([21, 13], [13, 21]), ([20, 22, 13], [13, 20, 22]), ([13, 23, 10], [10, 13, 23]), ([10, 24], [10, 24])])
def impl_TreeOk.B9 : List Nat := [0, 1, 3, 7, 15, 31, 15, 79, 255, 511, 1023, 2047, 4095, 8191, 16383, 32767, 16383, 81919, 262143, 524287, 1048575, 16383, 2113535, 8388607, 16777215, 33554431]
theorem impl_TreeOk.tab9 : rtab .any (opsOf Try.f14 9) = impl_TreeOk.T9 := by kernel_rfl
theorem impl_TreeOk.bits9 : waitsOk impl_TreeOk.T9.2 impl_TreeOk.B9 = true := by kernel_rfl
set_option maxHeartbeats 8000000 in
set_option maxRecDepth 100000 in
theorem impl_TreeOk.calls (k : Nat) (A0_0 : Option Addr) (c0_0 : Nat) (l0_0 : List (S52)) (a0_1 : Int) (r : Bool) (w : World) (hr0_0 : Kd.C k52 w A0_0 l0_0.length l0_0) (hc0_0 : l0_0.length ≤ c0_0) (h : impl_TreeOk.f k l0_0 a0_1 = some r) :
    Calls Try.prog 14 #[.agg #[.slice A0_0 l0_0.length c0_0, .int .i64 a0_1]] w fun e w' => e = .returned (.bool r) ∧ Below w.heap.size w w' := by
  have hu29 := Try.underlying29
  have hu52 := Try.underlying52
  have HR0_0 := Aside0.mk hr0_0
  have HC0_0 := Aside0.mk hc0_0
  clear hr0_0 hc0_0
  have HB := Aside0.mk (Below.refl w.heap.size w)
  have H : ((impl_within.f (l0_0.length : Int) 1 14).bind fun t250 => (if t250 = true then (impl_TreeOk.j0 k (decide (a0_1 > 100000)) l0_0 a0_1) else (impl_TreeOk.j0 k true l0_0 a0_1))) = some r := h
  clear h
  have HC2 := Aside0.mk H
  clear H
  go_enter Try.func14, Try.ntmps14
  go_upto_region 1 with (first | ((with_reducible refine gate_dst (N := 1) rfl ?_); refine box_event ?hg (N := 1) ?hd (cs := #[.slice A0_0 l0_0.length c0_0, .int .i64 a0_1]) (t := 29) ?hr ?_; (case hd => rfl); (case hg => rfl); (case hr => first | (go_simp; done) | (go_simp; rfl)); intro gb249 hg w3 hbox hb; have n0_ := Aside0.mk (below_step (pl0 HB.out) hb); have n1_ := Aside0.mk (hbox); have n2_ := Aside0.mk ((by rw [hg]; exact (below_size (pl0 HB.out)) : w.heap.size ≤ gb249)); have n3_ := Aside0.mk ((by rw [hg]; exact (below_size (pl0 HB.out)) : w.heap.size ≤ gb249)); clear HB; have HB := n0_; have BK249 := n1_; have GW249 := n2_; have GE249 := n3_; clear n0_ n1_ n2_ n3_; clear hb hbox hg))
  (try simp only [Act.put, List.setIfInBounds_toArray, List.set_cons_zero, List.set_cons_succ])
  go_cut [15] (fun v15 wc => ∃ (kq : Nat) (x15_1 : Bool), v15 = .bool x15_1 ∧ Aside0 (impl_TreeOk.j0 kq x15_1 l0_0 a0_1 = some r) ∧ Aside0 (kq ≤ k) ∧ Aside0 (wc.heap[gb249]? = some (.cells #[(.slice A0_0 l0_0.length c0_0), .int .i64 a0_1] 29 (0, 0))) ∧ Aside0 (Below w.heap.size w wc))
  case first =>
   have H := HC2.out
   clear HC2
   replace H := Option.bind_eq_some_iff.mp H
   obtain ⟨t250, A40, H⟩ := H
   replace H : (if t250 = true then (impl_TreeOk.j0 k (decide (a0_1 > 100000)) l0_0 a0_1) else (impl_TreeOk.j0 k true l0_0 a0_1)) = some r := H
   have A4 := Aside0.mk A40
   clear A40
   by_cases c5 : t250 = true
   ·subst c5
    have H1 : (impl_TreeOk.j0 k (decide (a0_1 > 100000)) l0_0 a0_1) = some r := by rw [if_pos rfl] at H; exact H
    clear H
    have H := H1
    clear H1
    have H' := Aside0.mk H
    clear H
    obtain ⟨hcz6_0, hcz6_1, hfz6_0, hfz6_1⟩ := z2 BK249.out
    go_wp2_with (first | ((with_reducible refine gate_callee (f := 41) rfl ?_); refine goesL_ (some 9) rfl rfl Try.func41 (by kernel_rfl) rfl #[.int .i64 (l0_0.length : Int), .int .i64 1, .int .i64 14] rfl (by (try simp only [List.map_toArray, List.map_cons, List.map_nil]); first | done | rfl | (simp only [List.length_drop, List.length_take]; rfl)) ?_; (with_reducible refine (impl_within.calls (l0_0.length : Int) 1 14 true _ A4.out).mono ?_); rintro e w' ⟨rfl, ⟨nd, rfl⟩⟩; refine ⟨_, rfl, ?_⟩))
    go_meet
    case rel => exact ⟨_, (decide (a0_1 > 100000)), eqa, H', ⟨by first | omega | exact Nat.le_refl _⟩, ⟨pk BK249.out⟩, ⟨pl1 HB.out GE249.out⟩⟩
   ·replace c5 := Bool.eq_false_iff.mpr c5
    subst c5
    have H1 : (impl_TreeOk.j0 k true l0_0 a0_1) = some r := by rw [if_neg (show ¬ (false = true) by decide)] at H; exact H
    clear H
    have H := H1
    clear H1
    have H' := Aside0.mk H
    clear H
    obtain ⟨hcz7_0, hcz7_1, hfz7_0, hfz7_1⟩ := z2 BK249.out
    go_wp2_with (first | ((with_reducible refine gate_callee (f := 41) rfl ?_); refine goesL_ (some 9) rfl rfl Try.func41 (by kernel_rfl) rfl #[.int .i64 (l0_0.length : Int), .int .i64 1, .int .i64 14] rfl (by (try simp only [List.map_toArray, List.map_cons, List.map_nil]); first | done | rfl | (simp only [List.length_drop, List.length_take]; rfl)) ?_; (with_reducible refine (impl_within.calls (l0_0.length : Int) 1 14 false _ A4.out).mono ?_); rintro e w' ⟨rfl, ⟨nd, rfl⟩⟩; refine ⟨_, rfl, ?_⟩))
    go_meet
    case rel => exact ⟨_, (true), eqa, H', ⟨by first | omega | exact Nat.le_refl _⟩, ⟨pk BK249.out⟩, ⟨pl1 HB.out GE249.out⟩⟩
  case rest =>
   clear HC2
   obtain ⟨kq, x15_1, rfl, HA, HJ1, BK249, HB⟩ := hcut
   cases kq with
   | zero => exact absurd HA.out (by simp [impl_TreeOk.j0])
   | succ kj1 =>
    have H := HA.out
    clear HA
    simp only [impl_TreeOk.j0] at H
    by_cases c8 : x15_1 = true
    ·subst c8
     have H1 : (some false) = some r := by rw [if_pos rfl] at H; exact H
     clear H
     have H := H1
     clear H1
     obtain rfl := Option.some.inj H
     go_wp2
     go_ret
     exact ⟨erq, pl1 HB.out GE249.out⟩
    ·replace c8 := Bool.eq_false_iff.mpr c8
     subst c8
     have H1 : (if 0 < (l0_0.length : Int) then (if ((rd_T52 l0_0 0).f0) = 1 then (if ((rd_T52 l0_0 0).f1) = 0 then (if ((rd_T52 l0_0 0).f2).toList = ([] : List UInt8) then (if ((rd_T52 l0_0 0).f3 = true) then (impl_TreeOk.j1 kj1 (((rd_T52 l0_0 0).f4) == 0) l0_0 a0_1) else (impl_TreeOk.j1 kj1 true l0_0 a0_1)) else (impl_TreeOk.j1 kj1 true l0_0 a0_1)) else (impl_TreeOk.j1 kj1 true l0_0 a0_1)) else (impl_TreeOk.j1 kj1 true l0_0 a0_1)) else (none)) = some r := by rw [if_neg (show ¬ (false = true) by decide)] at H; exact H
     clear H
     have H := H1
     clear H1
     by_cases c9 : 0 < (l0_0.length : Int)
     ·rw [if_pos c9] at H
      have c9b0 : decide (0 < (l0_0.length : Int)) = true := decide_eq_true c9
      have c9b1 : decide (0 < l0_0.length) = true := decide_eq_true (by omega)
      clear c9
      have HC10 := Aside0.mk H
      clear H
      obtain ⟨hcz11_0, hcz11_1, hfz11_0, hfz11_1⟩ := z2 BK249.out
      have p251 : 0 ≤ (0 : Int) := (by omega)
      have q251 : 0 < (l0_0.length : Int) := oda
      obtain ⟨ad251, A251_7, c251_7, e251, hx251_0, hx251_1, hx251_2, hx251_3, hx251_4, hx251_5, hx251_6, hx251_7, hx251_8, hl251_7, hi251_7⟩ := at_T52 HR0_0.out 0 p251 q251
      cases e251
      have qi251 : (0 < l0_0.length) = True := eq_true (by omega)
      (try rw [show ((0 : Int)).toNat = 0 from rfl] at hx251_0)
      (try rw [show 0 * 9 = 0 from rfl] at hx251_0)
      (try rw [Addr.add_zero'] at hx251_0)
      (try rw [show ((0 : Int)).toNat = 0 from rfl] at hx251_1)
      (try rw [show 0 * 9 = 0 from rfl] at hx251_1)
      (try rw [Addr.add_zero'] at hx251_1)
      (try rw [show ((0 : Int)).toNat = 0 from rfl] at hx251_2)
      (try rw [show 0 * 9 = 0 from rfl] at hx251_2)
      (try rw [Addr.add_zero'] at hx251_2)
      (try rw [show ((0 : Int)).toNat = 0 from rfl] at hx251_3)
      (try rw [show 0 * 9 = 0 from rfl] at hx251_3)
      (try rw [Addr.add_zero'] at hx251_3)
      (try rw [show ((0 : Int)).toNat = 0 from rfl] at hx251_4)
      (try rw [show 0 * 9 = 0 from rfl] at hx251_4)
      (try rw [Addr.add_zero'] at hx251_4)
      (try rw [show ((0 : Int)).toNat = 0 from rfl] at hx251_5)
      (try rw [show 0 * 9 = 0 from rfl] at hx251_5)
      (try rw [Addr.add_zero'] at hx251_5)
      (try rw [show ((0 : Int)).toNat = 0 from rfl] at hx251_6)
      (try rw [show 0 * 9 = 0 from rfl] at hx251_6)
      (try rw [Addr.add_zero'] at hx251_6)
      (try rw [show ((0 : Int)).toNat = 0 from rfl] at hx251_7)
      (try rw [show 0 * 9 = 0 from rfl] at hx251_7)
      (try rw [Addr.add_zero'] at hx251_7)
      (try rw [show ((0 : Int)).toNat = 0 from rfl] at hx251_8)
      (try rw [show 0 * 9 = 0 from rfl] at hx251_8)
      (try rw [Addr.add_zero'] at hx251_8)
      replace hx251_0 := hbc HB.out hx251_0
      replace hx251_1 := hbc HB.out hx251_1
      replace hx251_2 := hbc HB.out hx251_2
      replace hx251_3 := hbc HB.out hx251_3
      replace hx251_4 := hbc HB.out hx251_4
      replace hx251_5 := hbc HB.out hx251_5
      replace hx251_6 := hbc HB.out hx251_6
      replace hx251_7 := hbc HB.out hx251_7
      replace hx251_8 := hbc HB.out hx251_8
      have HR251_7 := Aside0.mk hi251_7
      have HC251_7 := Aside0.mk hl251_7
      clear hi251_7 hl251_7
      replace p251 := eq_true p251
      replace q251 := eq_true q251
      go_upto_region 4 with (first | ((with_reducible refine gate_dst (N := 3) rfl ?_); refine box_event ?hg (N := 3) ?hd (cs := #[.int .i64 0, .int .i64 0, .string (⟨#[]⟩ : ByteArray), .bool false, .int .i64 0, .int .i64 0, .int .i64 0, .slice none 0 0, .int .i64 0]) (t := 52) ?hr ?_; (case hd => rfl); (case hg => rfl); (case hr => first | (go_simp; done) | (go_simp; rfl)); intro gb252 hg w12 hbox hb; have n0_ := Aside0.mk (pb BK249.out hb); have n1_ := Aside0.mk (below_step (pl1 HB.out GE249.out) hb); have n2_ := Aside0.mk (hbox); have n3_ := Aside0.mk ((by rw [hg]; exact (below_size (pl1 HB.out GE249.out)) : w.heap.size ≤ gb252)); have n4_ := Aside0.mk ((by rw [hg]; exact (below_size (pl1 HB.out GE249.out)) : w.heap.size ≤ gb252)); have n5_ := Aside0.mk ((by rw [hg]; exact Nat.ne_of_lt (blk_lt (g := gb249) (o := .cells #[.slice (some ad251) l0_0.length c0_0, .int .i64 a0_1] 29 (0, 0)) (pk BK249.out)) : gb249 ≠ gb252)); have n6_ := Aside0.mk ((by rw [hg]; exact Nat.ne_of_gt (blk_lt (g := gb249) (o := .cells #[.slice (some ad251) l0_0.length c0_0, .int .i64 a0_1] 29 (0, 0)) (pk BK249.out)) : gb252 ≠ gb249)); clear BK249; clear HB; have BK249 := n0_; have HB := n1_; have BK252 := n2_; have GW252 := n3_; have GE252 := n4_; have NB249_252 := n5_; have NB252_249 := n6_; clear n0_ n1_ n2_ n3_ n4_ n5_ n6_; clear hb hbox hg; have hnb13 := NB252_249.out; have hnc13 := NB249_252.out; have hcz14_0 : w12.cell? ⟨gb252, 0, none⟩ = some (.int .i64 0) := (blk_cell BK252.out 0).trans rfl; have hcz14_1 : w12.cell? ⟨gb252, 1, none⟩ = some (.int .i64 0) := (blk_cell BK252.out 1).trans rfl; have hcz14_2 : w12.cell? ⟨gb252, 2, none⟩ = some (.string (⟨#[]⟩ : ByteArray)) := (blk_cell BK252.out 2).trans rfl; have hcz14_3 : w12.cell? ⟨gb252, 3, none⟩ = some (.bool false) := (blk_cell BK252.out 3).trans rfl; have hcz14_4 : w12.cell? ⟨gb252, 4, none⟩ = some (.int .i64 0) := (blk_cell BK252.out 4).trans rfl; have hcz14_5 : w12.cell? ⟨gb252, 5, none⟩ = some (.int .i64 0) := (blk_cell BK252.out 5).trans rfl; have hcz14_6 : w12.cell? ⟨gb252, 6, none⟩ = some (.int .i64 0) := (blk_cell BK252.out 6).trans rfl; have hcz14_7 : w12.cell? ⟨gb252, 7, none⟩ = some (.slice none 0 0) := (blk_cell BK252.out 7).trans rfl; have hcz14_8 : w12.cell? ⟨gb252, 8, none⟩ = some (.int .i64 0) := (blk_cell BK252.out 8).trans rfl; have hfz14_0 := blk_frozen BK252.out 0; have hfz14_1 := blk_frozen BK252.out 1; have hfz14_2 := blk_frozen BK252.out 2; have hfz14_3 := blk_frozen BK252.out 3; have hfz14_4 := blk_frozen BK252.out 4; have hfz14_5 := blk_frozen BK252.out 5; have hfz14_6 := blk_frozen BK252.out 6; have hfz14_7 := blk_frozen BK252.out 7; have hfz14_8 := blk_frozen BK252.out 8))
      (try simp only [Act.put, List.setIfInBounds_toArray, List.set_cons_zero, List.set_cons_succ])
      refine Zip.commit_ (Φ := fun wx_ => Aside0 (wx_.heap[gb249]? = some (.cells #[(.slice (some ad251) l0_0.length c0_0), .int .i64 a0_1] 29 (0, 0))) ∧ Aside0 (wx_.heap[gb252]? = some (.cells #[.int .i64 ((rd_T52 l0_0 0).f0), .int .i64 ((rd_T52 l0_0 0).f1), .string ((rd_T52 l0_0 0).f2), .bool ((rd_T52 l0_0 0).f3), .int .i64 ((rd_T52 l0_0 0).f4), .int .i64 ((rd_T52 l0_0 0).f5), .int .i64 ((rd_T52 l0_0 0).f6), (.slice A251_7 ((rd_T52 l0_0 0).f7).length c251_7), .int .i64 ((rd_T52 l0_0 0).f8)] 52 (0, 0))) ∧ Aside0 (Below w.heap.size w wx_)) ⟨⟨by (with_reducible repeat (first | refine blk_drewN ?_ _ | refine blk_drew ?_ | refine blk_alloc ?_ _)); refine blk_far ?_ NB249_252.out _; (with_reducible repeat (first | refine blk_drewN ?_ _ | refine blk_drew ?_ | refine blk_alloc ?_ _)); refine blk_far ?_ NB249_252.out _; (with_reducible repeat (first | refine blk_drewN ?_ _ | refine blk_drew ?_ | refine blk_alloc ?_ _)); refine blk_far ?_ NB249_252.out _; (with_reducible repeat (first | refine blk_drewN ?_ _ | refine blk_drew ?_ | refine blk_alloc ?_ _)); refine blk_far ?_ NB249_252.out _; (with_reducible repeat (first | refine blk_drewN ?_ _ | refine blk_drew ?_ | refine blk_alloc ?_ _)); refine blk_far ?_ NB249_252.out _; (with_reducible repeat (first | refine blk_drewN ?_ _ | refine blk_drew ?_ | refine blk_alloc ?_ _)); refine blk_far ?_ NB249_252.out _; (with_reducible repeat (first | refine blk_drewN ?_ _ | refine blk_drew ?_ | refine blk_alloc ?_ _)); refine blk_far ?_ NB249_252.out _; (with_reducible repeat (first | refine blk_drewN ?_ _ | refine blk_drew ?_ | refine blk_alloc ?_ _)); refine blk_far ?_ NB249_252.out _; (with_reducible repeat (first | refine blk_drewN ?_ _ | refine blk_drew ?_ | refine blk_alloc ?_ _)); refine blk_far ?_ NB249_252.out _; (with_reducible repeat (first | refine blk_drewN ?_ _ | refine blk_drew ?_ | refine blk_alloc ?_ _)); exact BK249.out⟩, ⟨by (with_reducible repeat (first | refine blk_drewN ?_ _ | refine blk_drew ?_ | refine blk_alloc ?_ _)); refine blk_put (cs := #[.int .i64 ((rd_T52 l0_0 0).f0), .int .i64 ((rd_T52 l0_0 0).f1), .string ((rd_T52 l0_0 0).f2), .bool ((rd_T52 l0_0 0).f3), .int .i64 ((rd_T52 l0_0 0).f4), .int .i64 ((rd_T52 l0_0 0).f5), .int .i64 ((rd_T52 l0_0 0).f6), .slice A251_7 ((rd_T52 l0_0 0).f7).length c251_7, .int .i64 0]) ?_ 8 _ rfl; (with_reducible repeat (first | refine blk_drewN ?_ _ | refine blk_drew ?_ | refine blk_alloc ?_ _)); refine blk_put (cs := #[.int .i64 ((rd_T52 l0_0 0).f0), .int .i64 ((rd_T52 l0_0 0).f1), .string ((rd_T52 l0_0 0).f2), .bool ((rd_T52 l0_0 0).f3), .int .i64 ((rd_T52 l0_0 0).f4), .int .i64 ((rd_T52 l0_0 0).f5), .int .i64 ((rd_T52 l0_0 0).f6), .slice none 0 0, .int .i64 0]) ?_ 7 _ rfl; (with_reducible repeat (first | refine blk_drewN ?_ _ | refine blk_drew ?_ | refine blk_alloc ?_ _)); refine blk_put (cs := #[.int .i64 ((rd_T52 l0_0 0).f0), .int .i64 ((rd_T52 l0_0 0).f1), .string ((rd_T52 l0_0 0).f2), .bool ((rd_T52 l0_0 0).f3), .int .i64 ((rd_T52 l0_0 0).f4), .int .i64 ((rd_T52 l0_0 0).f5), .int .i64 0, .slice none 0 0, .int .i64 0]) ?_ 6 _ rfl; (with_reducible repeat (first | refine blk_drewN ?_ _ | refine blk_drew ?_ | refine blk_alloc ?_ _)); refine blk_put (cs := #[.int .i64 ((rd_T52 l0_0 0).f0), .int .i64 ((rd_T52 l0_0 0).f1), .string ((rd_T52 l0_0 0).f2), .bool ((rd_T52 l0_0 0).f3), .int .i64 ((rd_T52 l0_0 0).f4), .int .i64 0, .int .i64 0, .slice none 0 0, .int .i64 0]) ?_ 5 _ rfl; (with_reducible repeat (first | refine blk_drewN ?_ _ | refine blk_drew ?_ | refine blk_alloc ?_ _)); refine blk_put (cs := #[.int .i64 ((rd_T52 l0_0 0).f0), .int .i64 ((rd_T52 l0_0 0).f1), .string ((rd_T52 l0_0 0).f2), .bool ((rd_T52 l0_0 0).f3), .int .i64 0, .int .i64 0, .int .i64 0, .slice none 0 0, .int .i64 0]) ?_ 4 _ rfl; (with_reducible repeat (first | refine blk_drewN ?_ _ | refine blk_drew ?_ | refine blk_alloc ?_ _)); refine blk_put (cs := #[.int .i64 ((rd_T52 l0_0 0).f0), .int .i64 ((rd_T52 l0_0 0).f1), .string ((rd_T52 l0_0 0).f2), .bool false, .int .i64 0, .int .i64 0, .int .i64 0, .slice none 0 0, .int .i64 0]) ?_ 3 _ rfl; (with_reducible repeat (first | refine blk_drewN ?_ _ | refine blk_drew ?_ | refine blk_alloc ?_ _)); refine blk_put (cs := #[.int .i64 ((rd_T52 l0_0 0).f0), .int .i64 ((rd_T52 l0_0 0).f1), .string (⟨#[]⟩ : ByteArray), .bool false, .int .i64 0, .int .i64 0, .int .i64 0, .slice none 0 0, .int .i64 0]) ?_ 2 _ rfl; (with_reducible repeat (first | refine blk_drewN ?_ _ | refine blk_drew ?_ | refine blk_alloc ?_ _)); refine blk_put (cs := #[.int .i64 ((rd_T52 l0_0 0).f0), .int .i64 0, .string (⟨#[]⟩ : ByteArray), .bool false, .int .i64 0, .int .i64 0, .int .i64 0, .slice none 0 0, .int .i64 0]) ?_ 1 _ rfl; (with_reducible repeat (first | refine blk_drewN ?_ _ | refine blk_drew ?_ | refine blk_alloc ?_ _)); refine blk_put (cs := #[.int .i64 0, .int .i64 0, .string (⟨#[]⟩ : ByteArray), .bool false, .int .i64 0, .int .i64 0, .int .i64 0, .slice none 0 0, .int .i64 0]) ?_ 0 _ rfl; (with_reducible repeat (first | refine blk_drewN ?_ _ | refine blk_drew ?_ | refine blk_alloc ?_ _)); exact BK252.out⟩, ⟨pl2 HB.out GE249.out GE252.out⟩⟩ ?_
      try clear c8; try clear c9; try clear c9b0; try clear c9b1; try clear hcz11_0; try clear hcz11_1; try clear hcz14_0; try clear hcz14_1; try clear hcz14_2; try clear hcz14_3; try clear hcz14_4; try clear hcz14_5; try clear hcz14_6; try clear hcz14_7; try clear hcz14_8; try clear hfz11_0; try clear hfz11_1; try clear hfz14_0; try clear hfz14_1; try clear hfz14_2; try clear hfz14_3; try clear hfz14_4; try clear hfz14_5; try clear hfz14_6; try clear hfz14_7; try clear hfz14_8; try clear hx251_0; try clear hx251_1; try clear hx251_2; try clear hx251_3; try clear hx251_4; try clear hx251_5; try clear hx251_6; try clear hx251_7; try clear hx251_8; try clear p251; try clear q251
      clear BK249 BK252 HB
      rintro wk15 ⟨BK249, BK252, HB⟩
      go_cut [42] (fun v42 wc => ∃ (kq : Nat) (x42_9 : Bool), v42 = .bool x42_9 ∧ Aside0 (impl_TreeOk.j1 kq x42_9 l0_0 a0_1 = some r) ∧ Aside0 (kq ≤ kj1) ∧ Aside0 (wc.heap[gb249]? = some (.cells #[(.slice (some ad251) l0_0.length c0_0), .int .i64 a0_1] 29 (0, 0))) ∧ Aside0 (wc.heap[gb252]? = some (.cells #[.int .i64 ((rd_T52 l0_0 0).f0), .int .i64 ((rd_T52 l0_0 0).f1), .string ((rd_T52 l0_0 0).f2), .bool ((rd_T52 l0_0 0).f3), .int .i64 ((rd_T52 l0_0 0).f4), .int .i64 ((rd_T52 l0_0 0).f5), .int .i64 ((rd_T52 l0_0 0).f6), (.slice A251_7 ((rd_T52 l0_0 0).f7).length c251_7), .int .i64 ((rd_T52 l0_0 0).f8)] 52 (0, 0))) ∧ Aside0 (Below w.heap.size w wc))
      case first =>
       have H := HC10.out
       clear HC10
       by_cases c16 : ((rd_T52 l0_0 0).f0) = 1
       ·rw [if_pos c16] at H
        have c16b0 : (((rd_T52 l0_0 0).f0) == 1) = true := beq_iff_eq.mpr c16
        have c16b1 : (((rd_T52 l0_0 0).f0) != 1) = false := bne_eq_false_iff_eq.mpr c16
        clear c16
        (first | rw [c16b0] | (simp only [i64_w, i32_w]; rw [c16b0]) | skip)
        by_cases c17 : ((rd_T52 l0_0 0).f1) = 0
        ·rw [if_pos c17] at H
         have c17b0 : (((rd_T52 l0_0 0).f1) == 0) = true := beq_iff_eq.mpr c17
         have c17b1 : (((rd_T52 l0_0 0).f1) != 0) = false := bne_eq_false_iff_eq.mpr c17
         clear c17
         by_cases c18 : ((rd_T52 l0_0 0).f2).toList = ([] : List UInt8)
         ·rw [if_pos c18] at H
          have c18b0 : (((rd_T52 l0_0 0).f2).toList == ([] : List UInt8)) = true := beq_iff_eq.mpr c18
          have c18b1 : (((rd_T52 l0_0 0).f2).toList != ([] : List UInt8)) = false := bne_eq_false_iff_eq.mpr c18
          clear c18
          by_cases c19 : ((rd_T52 l0_0 0).f3 = true)
          ·rw [if_pos c19] at H
           have c19b0 : (rd_T52 l0_0 0).f3 = true := c19
           clear c19
           have H' := Aside0.mk H
           clear H
           have hnb20 := NB252_249.out
           have hnc20 := NB249_252.out
           obtain ⟨hcz21_0, hcz21_1, hcz21_2, hcz21_3, hcz21_4, hcz21_5, hcz21_6, hcz21_7, hcz21_8, hfz21_0, hfz21_1, hfz21_2, hfz21_3, hfz21_4, hfz21_5, hfz21_6, hfz21_7, hfz21_8⟩ := z9 BK252.out
           go_wp2
           go_meet
           case rel => exact ⟨_, ((((rd_T52 l0_0 0).f4) == 0)), eqa, H', ⟨by have := HJ1.out; first | omega | exact Nat.le_refl _⟩, ⟨pk BK249.out⟩, ⟨pk BK252.out⟩, ⟨pl2 HB.out GE249.out GE252.out⟩⟩
          ·rw [if_neg c19] at H
           have c19b0 : (rd_T52 l0_0 0).f3 = false := by simpa using c19
           clear c19
           have H' := Aside0.mk H
           clear H
           have hnb22 := NB252_249.out
           have hnc22 := NB249_252.out
           obtain ⟨hcz23_0, hcz23_1, hcz23_2, hcz23_3, hcz23_4, hcz23_5, hcz23_6, hcz23_7, hcz23_8, hfz23_0, hfz23_1, hfz23_2, hfz23_3, hfz23_4, hfz23_5, hfz23_6, hfz23_7, hfz23_8⟩ := z9 BK252.out
           go_wp2
           go_meet
           case rel => exact ⟨_, (true), eqa, H', ⟨by have := HJ1.out; first | omega | exact Nat.le_refl _⟩, ⟨pk BK249.out⟩, ⟨pk BK252.out⟩, ⟨pl2 HB.out GE249.out GE252.out⟩⟩
         ·rw [if_neg c18] at H
          have c18b0 : (((rd_T52 l0_0 0).f2).toList == ([] : List UInt8)) = false := beq_eq_false_iff_ne.mpr c18
          have c18b1 : (((rd_T52 l0_0 0).f2).toList != ([] : List UInt8)) = true := bne_iff_ne.mpr c18
          have H' := Aside0.mk H
          clear H
          have hnb24 := NB252_249.out
          have hnc24 := NB249_252.out
          obtain ⟨hcz25_0, hcz25_1, hcz25_2, hcz25_3, hcz25_4, hcz25_5, hcz25_6, hcz25_7, hcz25_8, hfz25_0, hfz25_1, hfz25_2, hfz25_3, hfz25_4, hfz25_5, hfz25_6, hfz25_7, hfz25_8⟩ := z9 BK252.out
          go_wp2
          go_meet
          case rel => exact ⟨_, (true), eqa, H', ⟨by have := HJ1.out; first | omega | exact Nat.le_refl _⟩, ⟨pk BK249.out⟩, ⟨pk BK252.out⟩, ⟨pl2 HB.out GE249.out GE252.out⟩⟩
        ·rw [if_neg c17] at H
         have c17b0 : (((rd_T52 l0_0 0).f1) == 0) = false := beq_eq_false_iff_ne.mpr c17
         have c17b1 : (((rd_T52 l0_0 0).f1) != 0) = true := bne_iff_ne.mpr c17
         have H' := Aside0.mk H
         clear H
         have hnb26 := NB252_249.out
         have hnc26 := NB249_252.out
         obtain ⟨hcz27_0, hcz27_1, hcz27_2, hcz27_3, hcz27_4, hcz27_5, hcz27_6, hcz27_7, hcz27_8, hfz27_0, hfz27_1, hfz27_2, hfz27_3, hfz27_4, hfz27_5, hfz27_6, hfz27_7, hfz27_8⟩ := z9 BK252.out
         go_wp2
         go_meet
         case rel => exact ⟨_, (true), eqa, H', ⟨by have := HJ1.out; first | omega | exact Nat.le_refl _⟩, ⟨pk BK249.out⟩, ⟨pk BK252.out⟩, ⟨pl2 HB.out GE249.out GE252.out⟩⟩
       ·rw [if_neg c16] at H
        have c16b0 : (((rd_T52 l0_0 0).f0) == 1) = false := beq_eq_false_iff_ne.mpr c16
        have c16b1 : (((rd_T52 l0_0 0).f0) != 1) = true := bne_iff_ne.mpr c16
        (first | rw [c16b0] | (simp only [i64_w, i32_w]; rw [c16b0]) | skip)
        have H' := Aside0.mk H
        clear H
        have hnb28 := NB252_249.out
        have hnc28 := NB249_252.out
        obtain ⟨hcz29_0, hcz29_1, hcz29_2, hcz29_3, hcz29_4, hcz29_5, hcz29_6, hcz29_7, hcz29_8, hfz29_0, hfz29_1, hfz29_2, hfz29_3, hfz29_4, hfz29_5, hfz29_6, hfz29_7, hfz29_8⟩ := z9 BK252.out
        go_wp2
        go_meet
        case rel => exact ⟨_, (true), eqa, H', ⟨by have := HJ1.out; first | omega | exact Nat.le_refl _⟩, ⟨pk BK249.out⟩, ⟨pk BK252.out⟩, ⟨pl2 HB.out GE249.out GE252.out⟩⟩
      case rest =>
       clear HC10
       obtain ⟨kq, x42_9, rfl, HA, HJ9, BK249, BK252, HB⟩ := hcut
       cases kq with
       | zero => exact absurd HA.out (by simp [impl_TreeOk.j1])
       | succ kj9 =>
        have H := HA.out
        clear HA
        simp only [impl_TreeOk.j1] at H
        by_cases c30 : x42_9 = true
        ·subst c30
         have H1 : (some false) = some r := by rw [if_pos rfl] at H; exact H
         clear H
         have H := H1
         clear H1
         obtain rfl := Option.some.inj H
         go_wp2
         go_ret
         exact ⟨erq, pl2 HB.out GE249.out GE252.out⟩
        ·replace c30 := Bool.eq_false_iff.mpr c30
         subst c30
         have H1 : (impl_TreeOk.l0 kj9 l0_0 (l0_0.length : Int) 0 l0_0 a0_1) = some r := by rw [if_neg (show ¬ (false = true) by decide)] at H; exact H
         clear H
         have H := H1
         clear H1
         have H' := Aside0.mk H
         clear H
         have hnb31 := NB249_252.out
         have hnc31 := NB252_249.out
         obtain ⟨hcz32_0, hcz32_1, hfz32_0, hfz32_1⟩ := z2 BK249.out
         go_wp2
         go_loopg [46] kj9 (fun kq v46 w' => ∃ (x46_3 : Int), v46 = .int .i64 x46_3 ∧ Aside0 (impl_TreeOk.l0 kq l0_0 (l0_0.length : Int) x46_3 l0_0 a0_1 = some r) ∧ Aside0 (kq ≤ kj9) ∧ Aside0 (w'.heap[gb249]? = some (.cells #[(.slice (some ad251) l0_0.length c0_0), .int .i64 a0_1] 29 (0, 0))) ∧ Aside0 (w'.heap[gb252]? = some (.cells #[.int .i64 ((rd_T52 l0_0 0).f0), .int .i64 ((rd_T52 l0_0 0).f1), .string ((rd_T52 l0_0 0).f2), .bool ((rd_T52 l0_0 0).f3), .int .i64 ((rd_T52 l0_0 0).f4), .int .i64 ((rd_T52 l0_0 0).f5), .int .i64 ((rd_T52 l0_0 0).f6), (.slice A251_7 ((rd_T52 l0_0 0).f7).length c251_7), .int .i64 ((rd_T52 l0_0 0).f8)] 52 (0, 0))) ∧ Aside0 (Below w.heap.size w w'))
         case atStart => exact ⟨(0), eqa, H', ⟨Nat.le_refl _⟩, ⟨pk BK249.out⟩, ⟨pk BK252.out⟩, ⟨pl2 HB.out GE249.out GE252.out⟩⟩
         case round =>
          clear H'
          try clear c30; try clear hcz32_0; try clear hcz32_1; try clear hfz32_0; try clear hfz32_1
          obtain ⟨x46_3, rfl, HA, HK3, BK249, BK252, HB⟩ := hrel
          cases gk with
          | zero => exact absurd HA.out (by simp [impl_TreeOk.l0])
          | succ k3 =>
           have H := HA.out
           clear HA
           simp only [impl_TreeOk.l0] at H
           by_cases c33 : x46_3 < (l0_0.length : Int)
           ·rw [if_pos c33] at H
            have c33b0 : decide (x46_3 < (l0_0.length : Int)) = true := decide_eq_true c33
            clear c33
            by_cases c34 : 0 ≤ x46_3
            ·rw [if_pos c34] at H
             have c34b0 : decide (0 ≤ x46_3) = true := decide_eq_true c34
             clear c34
             by_cases c35 : x46_3 < (l0_0.length : Int)
             ·rw [if_pos c35] at H
              have c35b0 : decide (x46_3 < (l0_0.length : Int)) = true := decide_eq_true c35
              clear c35
              have HC36 := Aside0.mk H
              clear H
              have p253 : 0 ≤ (x46_3 : Int) := oda
              have q253 : x46_3 < (l0_0.length : Int) := oda
              obtain ⟨ad253, A253_7, c253_7, e253, hx253_0, hx253_1, hx253_2, hx253_3, hx253_4, hx253_5, hx253_6, hx253_7, hx253_8, hl253_7, hi253_7⟩ := at_T52 HR0_0.out x46_3 p253 q253
              obtain rfl : ad251 = ad253 := (by injection e253)
              replace hx253_0 := hbc HB.out hx253_0
              replace hx253_1 := hbc HB.out hx253_1
              replace hx253_2 := hbc HB.out hx253_2
              replace hx253_3 := hbc HB.out hx253_3
              replace hx253_4 := hbc HB.out hx253_4
              replace hx253_5 := hbc HB.out hx253_5
              replace hx253_6 := hbc HB.out hx253_6
              replace hx253_7 := hbc HB.out hx253_7
              replace hx253_8 := hbc HB.out hx253_8
              have HR253_7 := Aside0.mk hi253_7
              have HC253_7 := Aside0.mk hl253_7
              clear hi253_7 hl253_7
              replace p253 := eq_true p253
              replace q253 := eq_true q253
              go_upto_region 9 with (first | ((with_reducible refine gate_dst (N := 5) rfl ?_); refine box_event ?hg (N := 5) ?hd (cs := #[.int .i64 0, .int .i64 0, .string (⟨#[]⟩ : ByteArray), .bool false, .int .i64 0, .int .i64 0, .int .i64 0, .slice none 0 0, .int .i64 0]) (t := 52) ?hr ?_; (case hd => rfl); (case hg => rfl); (case hr => first | (go_simp; done) | (go_simp; rfl)); intro gb254 hg w37 hbox hb; have n0_ := Aside0.mk (pb BK249.out hb); have n1_ := Aside0.mk (pb BK252.out hb); have n2_ := Aside0.mk (below_step (pl2 HB.out GE249.out GE252.out) hb); have n3_ := Aside0.mk (hbox); have n4_ := Aside0.mk ((by rw [hg]; exact (below_size (pl2 HB.out GE249.out GE252.out)) : w.heap.size ≤ gb254)); have n5_ := Aside0.mk ((by rw [hg]; exact (below_size (pl2 HB.out GE249.out GE252.out)) : w.heap.size ≤ gb254)); have n6_ := Aside0.mk ((by rw [hg]; exact Nat.ne_of_lt (blk_lt (g := gb249) (o := .cells #[.slice (some ad251) l0_0.length c0_0, .int .i64 a0_1] 29 (0, 0)) (pk BK249.out)) : gb249 ≠ gb254)); have n7_ := Aside0.mk ((by rw [hg]; exact Nat.ne_of_gt (blk_lt (g := gb249) (o := .cells #[.slice (some ad251) l0_0.length c0_0, .int .i64 a0_1] 29 (0, 0)) (pk BK249.out)) : gb254 ≠ gb249)); have n8_ := Aside0.mk ((by rw [hg]; exact Nat.ne_of_lt (blk_lt (g := gb252) (o := .cells #[.int .i64 ((rd_T52 l0_0 0).f0), .int .i64 ((rd_T52 l0_0 0).f1), .string ((rd_T52 l0_0 0).f2), .bool ((rd_T52 l0_0 0).f3), .int .i64 ((rd_T52 l0_0 0).f4), .int .i64 ((rd_T52 l0_0 0).f5), .int .i64 ((rd_T52 l0_0 0).f6), .slice A251_7 ((rd_T52 l0_0 0).f7).length c251_7, .int .i64 ((rd_T52 l0_0 0).f8)] 52 (0, 0)) (pk BK252.out)) : gb252 ≠ gb254)); have n9_ := Aside0.mk ((by rw [hg]; exact Nat.ne_of_gt (blk_lt (g := gb252) (o := .cells #[.int .i64 ((rd_T52 l0_0 0).f0), .int .i64 ((rd_T52 l0_0 0).f1), .string ((rd_T52 l0_0 0).f2), .bool ((rd_T52 l0_0 0).f3), .int .i64 ((rd_T52 l0_0 0).f4), .int .i64 ((rd_T52 l0_0 0).f5), .int .i64 ((rd_T52 l0_0 0).f6), .slice A251_7 ((rd_T52 l0_0 0).f7).length c251_7, .int .i64 ((rd_T52 l0_0 0).f8)] 52 (0, 0)) (pk BK252.out)) : gb254 ≠ gb252)); clear BK249; clear BK252; clear HB; have BK249 := n0_; have BK252 := n1_; have HB := n2_; have BK254 := n3_; have GW254 := n4_; have GE254 := n5_; have NB249_254 := n6_; have NB254_249 := n7_; have NB252_254 := n8_; have NB254_252 := n9_; clear n0_ n1_ n2_ n3_ n4_ n5_ n6_ n7_ n8_ n9_; clear hb hbox hg; have hnb38 := NB254_249.out; have hnc38 := NB249_254.out; have hnb39 := NB254_252.out; have hnc39 := NB252_254.out; have hcz40_0 : w37.cell? ⟨gb254, 0, none⟩ = some (.int .i64 0) := (blk_cell BK254.out 0).trans rfl; have hcz40_1 : w37.cell? ⟨gb254, 1, none⟩ = some (.int .i64 0) := (blk_cell BK254.out 1).trans rfl; have hcz40_2 : w37.cell? ⟨gb254, 2, none⟩ = some (.string (⟨#[]⟩ : ByteArray)) := (blk_cell BK254.out 2).trans rfl; have hcz40_3 : w37.cell? ⟨gb254, 3, none⟩ = some (.bool false) := (blk_cell BK254.out 3).trans rfl; have hcz40_4 : w37.cell? ⟨gb254, 4, none⟩ = some (.int .i64 0) := (blk_cell BK254.out 4).trans rfl; have hcz40_5 : w37.cell? ⟨gb254, 5, none⟩ = some (.int .i64 0) := (blk_cell BK254.out 5).trans rfl; have hcz40_6 : w37.cell? ⟨gb254, 6, none⟩ = some (.int .i64 0) := (blk_cell BK254.out 6).trans rfl; have hcz40_7 : w37.cell? ⟨gb254, 7, none⟩ = some (.slice none 0 0) := (blk_cell BK254.out 7).trans rfl; have hcz40_8 : w37.cell? ⟨gb254, 8, none⟩ = some (.int .i64 0) := (blk_cell BK254.out 8).trans rfl; have hfz40_0 := blk_frozen BK254.out 0; have hfz40_1 := blk_frozen BK254.out 1; have hfz40_2 := blk_frozen BK254.out 2; have hfz40_3 := blk_frozen BK254.out 3; have hfz40_4 := blk_frozen BK254.out 4; have hfz40_5 := blk_frozen BK254.out 5; have hfz40_6 := blk_frozen BK254.out 6; have hfz40_7 := blk_frozen BK254.out 7; have hfz40_8 := blk_frozen BK254.out 8))
              (try simp only [Act.put, List.setIfInBounds_toArray, List.set_cons_zero, List.set_cons_succ])
              refine Zip.commit_ (Φ := fun wx_ => Aside0 (wx_.heap[gb249]? = some (.cells #[(.slice (some ad251) l0_0.length c0_0), .int .i64 a0_1] 29 (0, 0))) ∧ Aside0 (wx_.heap[gb252]? = some (.cells #[.int .i64 ((rd_T52 l0_0 0).f0), .int .i64 ((rd_T52 l0_0 0).f1), .string ((rd_T52 l0_0 0).f2), .bool ((rd_T52 l0_0 0).f3), .int .i64 ((rd_T52 l0_0 0).f4), .int .i64 ((rd_T52 l0_0 0).f5), .int .i64 ((rd_T52 l0_0 0).f6), (.slice A251_7 ((rd_T52 l0_0 0).f7).length c251_7), .int .i64 ((rd_T52 l0_0 0).f8)] 52 (0, 0))) ∧ Aside0 (wx_.heap[gb254]? = some (.cells #[.int .i64 ((rd_T52 l0_0 x46_3).f0), .int .i64 ((rd_T52 l0_0 x46_3).f1), .string ((rd_T52 l0_0 x46_3).f2), .bool ((rd_T52 l0_0 x46_3).f3), .int .i64 ((rd_T52 l0_0 x46_3).f4), .int .i64 ((rd_T52 l0_0 x46_3).f5), .int .i64 ((rd_T52 l0_0 x46_3).f6), (.slice A253_7 ((rd_T52 l0_0 x46_3).f7).length c253_7), .int .i64 ((rd_T52 l0_0 x46_3).f8)] 52 (0, 0))) ∧ Aside0 (Below w.heap.size w wx_)) ⟨⟨by (with_reducible repeat (first | refine blk_drewN ?_ _ | refine blk_drew ?_ | refine blk_alloc ?_ _)); refine blk_far ?_ NB249_254.out _; (with_reducible repeat (first | refine blk_drewN ?_ _ | refine blk_drew ?_ | refine blk_alloc ?_ _)); refine blk_far ?_ NB249_254.out _; (with_reducible repeat (first | refine blk_drewN ?_ _ | refine blk_drew ?_ | refine blk_alloc ?_ _)); refine blk_far ?_ NB249_254.out _; (with_reducible repeat (first | refine blk_drewN ?_ _ | refine blk_drew ?_ | refine blk_alloc ?_ _)); refine blk_far ?_ NB249_254.out _; (with_reducible repeat (first | refine blk_drewN ?_ _ | refine blk_drew ?_ | refine blk_alloc ?_ _)); refine blk_far ?_ NB249_254.out _; (with_reducible repeat (first | refine blk_drewN ?_ _ | refine blk_drew ?_ | refine blk_alloc ?_ _)); refine blk_far ?_ NB249_254.out _; (with_reducible repeat (first | refine blk_drewN ?_ _ | refine blk_drew ?_ | refine blk_alloc ?_ _)); refine blk_far ?_ NB249_254.out _; (with_reducible repeat (first | refine blk_drewN ?_ _ | refine blk_drew ?_ | refine blk_alloc ?_ _)); refine blk_far ?_ NB249_254.out _; (with_reducible repeat (first | refine blk_drewN ?_ _ | refine blk_drew ?_ | refine blk_alloc ?_ _)); refine blk_far ?_ NB249_254.out _; (with_reducible repeat (first | refine blk_drewN ?_ _ | refine blk_drew ?_ | refine blk_alloc ?_ _)); exact BK249.out⟩, ⟨by (with_reducible repeat (first | refine blk_drewN ?_ _ | refine blk_drew ?_ | refine blk_alloc ?_ _)); refine blk_far ?_ NB252_254.out _; (with_reducible repeat (first | refine blk_drewN ?_ _ | refine blk_drew ?_ | refine blk_alloc ?_ _)); refine blk_far ?_ NB252_254.out _; (with_reducible repeat (first | refine blk_drewN ?_ _ | refine blk_drew ?_ | refine blk_alloc ?_ _)); refine blk_far ?_ NB252_254.out _; (with_reducible repeat (first | refine blk_drewN ?_ _ | refine blk_drew ?_ | refine blk_alloc ?_ _)); refine blk_far ?_ NB252_254.out _; (with_reducible repeat (first | refine blk_drewN ?_ _ | refine blk_drew ?_ | refine blk_alloc ?_ _)); refine blk_far ?_ NB252_254.out _; (with_reducible repeat (first | refine blk_drewN ?_ _ | refine blk_drew ?_ | refine blk_alloc ?_ _)); refine blk_far ?_ NB252_254.out _; (with_reducible repeat (first | refine blk_drewN ?_ _ | refine blk_drew ?_ | refine blk_alloc ?_ _)); refine blk_far ?_ NB252_254.out _; (with_reducible repeat (first | refine blk_drewN ?_ _ | refine blk_drew ?_ | refine blk_alloc ?_ _)); refine blk_far ?_ NB252_254.out _; (with_reducible repeat (first | refine blk_drewN ?_ _ | refine blk_drew ?_ | refine blk_alloc ?_ _)); refine blk_far ?_ NB252_254.out _; (with_reducible repeat (first | refine blk_drewN ?_ _ | refine blk_drew ?_ | refine blk_alloc ?_ _)); exact BK252.out⟩, ⟨by (with_reducible repeat (first | refine blk_drewN ?_ _ | refine blk_drew ?_ | refine blk_alloc ?_ _)); refine blk_put (cs := #[.int .i64 ((rd_T52 l0_0 x46_3).f0), .int .i64 ((rd_T52 l0_0 x46_3).f1), .string ((rd_T52 l0_0 x46_3).f2), .bool ((rd_T52 l0_0 x46_3).f3), .int .i64 ((rd_T52 l0_0 x46_3).f4), .int .i64 ((rd_T52 l0_0 x46_3).f5), .int .i64 ((rd_T52 l0_0 x46_3).f6), .slice A253_7 ((rd_T52 l0_0 x46_3).f7).length c253_7, .int .i64 0]) ?_ 8 _ rfl; (with_reducible repeat (first | refine blk_drewN ?_ _ | refine blk_drew ?_ | refine blk_alloc ?_ _)); refine blk_put (cs := #[.int .i64 ((rd_T52 l0_0 x46_3).f0), .int .i64 ((rd_T52 l0_0 x46_3).f1), .string ((rd_T52 l0_0 x46_3).f2), .bool ((rd_T52 l0_0 x46_3).f3), .int .i64 ((rd_T52 l0_0 x46_3).f4), .int .i64 ((rd_T52 l0_0 x46_3).f5), .int .i64 ((rd_T52 l0_0 x46_3).f6), .slice none 0 0, .int .i64 0]) ?_ 7 _ rfl; (with_reducible repeat (first | refine blk_drewN ?_ _ | refine blk_drew ?_ | refine blk_alloc ?_ _)); refine blk_put (cs := #[.int .i64 ((rd_T52 l0_0 x46_3).f0), .int .i64 ((rd_T52 l0_0 x46_3).f1), .string ((rd_T52 l0_0 x46_3).f2), .bool ((rd_T52 l0_0 x46_3).f3), .int .i64 ((rd_T52 l0_0 x46_3).f4), .int .i64 ((rd_T52 l0_0 x46_3).f5), .int .i64 0, .slice none 0 0, .int .i64 0]) ?_ 6 _ rfl; (with_reducible repeat (first | refine blk_drewN ?_ _ | refine blk_drew ?_ | refine blk_alloc ?_ _)); refine blk_put (cs := #[.int .i64 ((rd_T52 l0_0 x46_3).f0), .int .i64 ((rd_T52 l0_0 x46_3).f1), .string ((rd_T52 l0_0 x46_3).f2), .bool ((rd_T52 l0_0 x46_3).f3), .int .i64 ((rd_T52 l0_0 x46_3).f4), .int .i64 0, .int .i64 0, .slice none 0 0, .int .i64 0]) ?_ 5 _ rfl; (with_reducible repeat (first | refine blk_drewN ?_ _ | refine blk_drew ?_ | refine blk_alloc ?_ _)); refine blk_put (cs := #[.int .i64 ((rd_T52 l0_0 x46_3).f0), .int .i64 ((rd_T52 l0_0 x46_3).f1), .string ((rd_T52 l0_0 x46_3).f2), .bool ((rd_T52 l0_0 x46_3).f3), .int .i64 0, .int .i64 0, .int .i64 0, .slice none 0 0, .int .i64 0]) ?_ 4 _ rfl; (with_reducible repeat (first | refine blk_drewN ?_ _ | refine blk_drew ?_ | refine blk_alloc ?_ _)); refine blk_put (cs := #[.int .i64 ((rd_T52 l0_0 x46_3).f0), .int .i64 ((rd_T52 l0_0 x46_3).f1), .string ((rd_T52 l0_0 x46_3).f2), .bool false, .int .i64 0, .int .i64 0, .int .i64 0, .slice none 0 0, .int .i64 0]) ?_ 3 _ rfl; (with_reducible repeat (first | refine blk_drewN ?_ _ | refine blk_drew ?_ | refine blk_alloc ?_ _)); refine blk_put (cs := #[.int .i64 ((rd_T52 l0_0 x46_3).f0), .int .i64 ((rd_T52 l0_0 x46_3).f1), .string (⟨#[]⟩ : ByteArray), .bool false, .int .i64 0, .int .i64 0, .int .i64 0, .slice none 0 0, .int .i64 0]) ?_ 2 _ rfl; (with_reducible repeat (first | refine blk_drewN ?_ _ | refine blk_drew ?_ | refine blk_alloc ?_ _)); refine blk_put (cs := #[.int .i64 ((rd_T52 l0_0 x46_3).f0), .int .i64 0, .string (⟨#[]⟩ : ByteArray), .bool false, .int .i64 0, .int .i64 0, .int .i64 0, .slice none 0 0, .int .i64 0]) ?_ 1 _ rfl; (with_reducible repeat (first | refine blk_drewN ?_ _ | refine blk_drew ?_ | refine blk_alloc ?_ _)); refine blk_put (cs := #[.int .i64 0, .int .i64 0, .string (⟨#[]⟩ : ByteArray), .bool false, .int .i64 0, .int .i64 0, .int .i64 0, .slice none 0 0, .int .i64 0]) ?_ 0 _ rfl; (with_reducible repeat (first | refine blk_drewN ?_ _ | refine blk_drew ?_ | refine blk_alloc ?_ _)); exact BK254.out⟩, ⟨pl3 HB.out GE249.out GE252.out GE254.out⟩⟩ ?_
              try clear c33; try clear c33b0; try clear c34; try clear c34b0; try clear c35; try clear c35b0; try clear hcz40_0; try clear hcz40_1; try clear hcz40_2; try clear hcz40_3; try clear hcz40_4; try clear hcz40_5; try clear hcz40_6; try clear hcz40_7; try clear hcz40_8; try clear hfz40_0; try clear hfz40_1; try clear hfz40_2; try clear hfz40_3; try clear hfz40_4; try clear hfz40_5; try clear hfz40_6; try clear hfz40_7; try clear hfz40_8; try clear hx253_0; try clear hx253_1; try clear hx253_2; try clear hx253_3; try clear hx253_4; try clear hx253_5; try clear hx253_6; try clear hx253_7; try clear hx253_8; try clear p253; try clear q253
              clear BK249 BK252 BK254 HB
              rintro wk41 ⟨BK249, BK252, BK254, HB⟩
              go_cut [76] (fun v76 wc => ∃ (kq : Nat) (x76_35 : Bool), v76 = .bool x76_35 ∧ Aside0 (impl_TreeOk.j3 kq x46_3 l0_0 (l0_0.length : Int) x46_3 x76_35 l0_0 a0_1 ((rd_T52 l0_0 x46_3).f0) ((rd_T52 l0_0 x46_3).f1) ((rd_T52 l0_0 x46_3).f2) ((rd_T52 l0_0 x46_3).f3) ((rd_T52 l0_0 x46_3).f4) ((rd_T52 l0_0 x46_3).f5) ((rd_T52 l0_0 x46_3).f6) ((rd_T52 l0_0 x46_3).f7) ((rd_T52 l0_0 x46_3).f8) = some r) ∧ Aside0 (kq ≤ k3) ∧ Aside0 (wc.heap[gb249]? = some (.cells #[(.slice (some ad251) l0_0.length c0_0), .int .i64 a0_1] 29 (0, 0))) ∧ Aside0 (wc.heap[gb252]? = some (.cells #[.int .i64 ((rd_T52 l0_0 0).f0), .int .i64 ((rd_T52 l0_0 0).f1), .string ((rd_T52 l0_0 0).f2), .bool ((rd_T52 l0_0 0).f3), .int .i64 ((rd_T52 l0_0 0).f4), .int .i64 ((rd_T52 l0_0 0).f5), .int .i64 ((rd_T52 l0_0 0).f6), (.slice A251_7 ((rd_T52 l0_0 0).f7).length c251_7), .int .i64 ((rd_T52 l0_0 0).f8)] 52 (0, 0))) ∧ Aside0 (wc.heap[gb254]? = some (.cells #[.int .i64 ((rd_T52 l0_0 x46_3).f0), .int .i64 ((rd_T52 l0_0 x46_3).f1), .string ((rd_T52 l0_0 x46_3).f2), .bool ((rd_T52 l0_0 x46_3).f3), .int .i64 ((rd_T52 l0_0 x46_3).f4), .int .i64 ((rd_T52 l0_0 x46_3).f5), .int .i64 ((rd_T52 l0_0 x46_3).f6), (.slice A253_7 ((rd_T52 l0_0 x46_3).f7).length c253_7), .int .i64 ((rd_T52 l0_0 x46_3).f8)] 52 (0, 0))) ∧ Aside0 (Below w.heap.size w wc))
              case first =>
               have H := HC36.out
               clear HC36
               replace H := Option.bind_eq_some_iff.mp H
               obtain ⟨t255, A420, H⟩ := H
               replace H : (if t255 = true then (if ((rd_T52 l0_0 x46_3).f0) ≥ a0_1 then (impl_TreeOk.j3 k3 x46_3 l0_0 (l0_0.length : Int) x46_3 true l0_0 a0_1 ((rd_T52 l0_0 x46_3).f0) ((rd_T52 l0_0 x46_3).f1) ((rd_T52 l0_0 x46_3).f2) ((rd_T52 l0_0 x46_3).f3) ((rd_T52 l0_0 x46_3).f4) ((rd_T52 l0_0 x46_3).f5) ((rd_T52 l0_0 x46_3).f6) ((rd_T52 l0_0 x46_3).f7) ((rd_T52 l0_0 x46_3).f8)) else (if x46_3 > 0 then (if 0 ≤ (wrap64 (x46_3 - 1)) then (if (wrap64 (x46_3 - 1)) < (l0_0.length : Int) then (impl_TreeOk.j3 k3 x46_3 l0_0 (l0_0.length : Int) x46_3 (decide (((rd_T52 l0_0 (wrap64 (x46_3 - 1))).f0) ≥ ((rd_T52 l0_0 x46_3).f0))) l0_0 a0_1 ((rd_T52 l0_0 x46_3).f0) ((rd_T52 l0_0 x46_3).f1) ((rd_T52 l0_0 x46_3).f2) ((rd_T52 l0_0 x46_3).f3) ((rd_T52 l0_0 x46_3).f4) ((rd_T52 l0_0 x46_3).f5) ((rd_T52 l0_0 x46_3).f6) ((rd_T52 l0_0 x46_3).f7) ((rd_T52 l0_0 x46_3).f8)) else (none)) else (none)) else (impl_TreeOk.j3 k3 x46_3 l0_0 (l0_0.length : Int) x46_3 false l0_0 a0_1 ((rd_T52 l0_0 x46_3).f0) ((rd_T52 l0_0 x46_3).f1) ((rd_T52 l0_0 x46_3).f2) ((rd_T52 l0_0 x46_3).f3) ((rd_T52 l0_0 x46_3).f4) ((rd_T52 l0_0 x46_3).f5) ((rd_T52 l0_0 x46_3).f6) ((rd_T52 l0_0 x46_3).f7) ((rd_T52 l0_0 x46_3).f8)))) else (impl_TreeOk.j3 k3 x46_3 l0_0 (l0_0.length : Int) x46_3 true l0_0 a0_1 ((rd_T52 l0_0 x46_3).f0) ((rd_T52 l0_0 x46_3).f1) ((rd_T52 l0_0 x46_3).f2) ((rd_T52 l0_0 x46_3).f3) ((rd_T52 l0_0 x46_3).f4) ((rd_T52 l0_0 x46_3).f5) ((rd_T52 l0_0 x46_3).f6) ((rd_T52 l0_0 x46_3).f7) ((rd_T52 l0_0 x46_3).f8))) = some r := H
               have A42 := Aside0.mk A420
               clear A420
               by_cases c43 : t255 = true
               ·subst c43
                have H1 : (if ((rd_T52 l0_0 x46_3).f0) ≥ a0_1 then (impl_TreeOk.j3 k3 x46_3 l0_0 (l0_0.length : Int) x46_3 true l0_0 a0_1 ((rd_T52 l0_0 x46_3).f0) ((rd_T52 l0_0 x46_3).f1) ((rd_T52 l0_0 x46_3).f2) ((rd_T52 l0_0 x46_3).f3) ((rd_T52 l0_0 x46_3).f4) ((rd_T52 l0_0 x46_3).f5) ((rd_T52 l0_0 x46_3).f6) ((rd_T52 l0_0 x46_3).f7) ((rd_T52 l0_0 x46_3).f8)) else (if x46_3 > 0 then (if 0 ≤ (wrap64 (x46_3 - 1)) then (if (wrap64 (x46_3 - 1)) < (l0_0.length : Int) then (impl_TreeOk.j3 k3 x46_3 l0_0 (l0_0.length : Int) x46_3 (decide (((rd_T52 l0_0 (wrap64 (x46_3 - 1))).f0) ≥ ((rd_T52 l0_0 x46_3).f0))) l0_0 a0_1 ((rd_T52 l0_0 x46_3).f0) ((rd_T52 l0_0 x46_3).f1) ((rd_T52 l0_0 x46_3).f2) ((rd_T52 l0_0 x46_3).f3) ((rd_T52 l0_0 x46_3).f4) ((rd_T52 l0_0 x46_3).f5) ((rd_T52 l0_0 x46_3).f6) ((rd_T52 l0_0 x46_3).f7) ((rd_T52 l0_0 x46_3).f8)) else (none)) else (none)) else (impl_TreeOk.j3 k3 x46_3 l0_0 (l0_0.length : Int) x46_3 false l0_0 a0_1 ((rd_T52 l0_0 x46_3).f0) ((rd_T52 l0_0 x46_3).f1) ((rd_T52 l0_0 x46_3).f2) ((rd_T52 l0_0 x46_3).f3) ((rd_T52 l0_0 x46_3).f4) ((rd_T52 l0_0 x46_3).f5) ((rd_T52 l0_0 x46_3).f6) ((rd_T52 l0_0 x46_3).f7) ((rd_T52 l0_0 x46_3).f8)))) = some r := by rw [if_pos rfl] at H; exact H
                clear H
                have H := H1
                clear H1
                by_cases c44 : ((rd_T52 l0_0 x46_3).f0) ≥ a0_1
                ·rw [if_pos c44] at H
                 have c44b0 : decide (a0_1 ≤ ((rd_T52 l0_0 x46_3).f0)) = true := decide_eq_true c44
                 clear c44
                 (first | rw [c44b0] | (simp only [i64_w, i32_w]; rw [c44b0]) | skip)
                 have H' := Aside0.mk H
                 clear H
                 try go_wp2
                 have n0_ := Aside0.mk (blk_drew BK249.out)
                 have n1_ := Aside0.mk (blk_drew BK252.out)
                 have n2_ := Aside0.mk (blk_drew BK254.out)
                 have n3_ := Aside0.mk (below_drew1 HB.out)
                 clear BK249
                 clear BK252
                 clear BK254
                 clear HB
                 have BK249 := n0_
                 have BK252 := n1_
                 have BK254 := n2_
                 have HB := n3_
                 clear n0_ n1_ n2_ n3_
                 refine start_ (n := 26) (S := fun w' => w'.cell? ⟨gb254, 0, none⟩ = some (.int .i64 ((rd_T52 l0_0 x46_3).f0)) ∧ w'.cell? ⟨gb254, 1, none⟩ = some (.int .i64 ((rd_T52 l0_0 x46_3).f1)) ∧ w'.cell? ⟨gb254, 2, none⟩ = some (.string ((rd_T52 l0_0 x46_3).f2)) ∧ w'.cell? ⟨gb254, 3, none⟩ = some (.bool ((rd_T52 l0_0 x46_3).f3)) ∧ w'.cell? ⟨gb254, 4, none⟩ = some (.int .i64 ((rd_T52 l0_0 x46_3).f4)) ∧ w'.cell? ⟨gb254, 5, none⟩ = some (.int .i64 ((rd_T52 l0_0 x46_3).f5)) ∧ w'.cell? ⟨gb254, 6, none⟩ = some (.int .i64 ((rd_T52 l0_0 x46_3).f6)) ∧ w'.cell? ⟨gb254, 7, none⟩ = some (.slice A253_7 ((rd_T52 l0_0 x46_3).f7).length c253_7) ∧ w'.cell? ⟨gb254, 8, none⟩ = some (.int .i64 ((rd_T52 l0_0 x46_3).f8)) ∧ w'.cell? ⟨gb249, 0, none⟩ = some (.slice (some ad251) l0_0.length c0_0) ∧ w'.cell? ⟨gb249, 1, none⟩ = some (.int .i64 a0_1)) (ds := []) #[O,O,O,O,O,O,O,O,O,O,O,O,O,O,O,O,O,O,O,O,O,O,O,O,O,O] (by kernel_rfl) rfl rfl ⟨(blk_cell BK254.out 0).trans rfl, (blk_cell BK254.out 1).trans rfl, (blk_cell BK254.out 2).trans rfl, (blk_cell BK254.out 3).trans rfl, (blk_cell BK254.out 4).trans rfl, (blk_cell BK254.out 5).trans rfl, (blk_cell BK254.out 6).trans rfl, (blk_cell BK254.out 7).trans rfl, (blk_cell BK254.out 8).trans rfl, (blk_cell BK249.out 0).trans rfl, (blk_cell BK249.out 1).trans rfl⟩ (fun hHeld => ?_); refine with_tabW impl_TreeOk.tab9 impl_TreeOk.bits9 (fun HT_ HW_ => ?_)
                 generalize wk41.drew = w45 at BK249 BK252 BK254 HB hHeld ⊢
                 refine tz 0 51 #[Y,O,O,O,O,O,O,O,O,O,O,O,O,O,O,O,O,O,O,O,O,O,O,O,O,O] HT_ HW_ hHeld ?_ (hr := by rintro w' ⟨s0, s1, s2, s3, s4, s5, s6, s7, s8, s9, s10⟩; go_simp; with_reducible rfl)
                 refine one_ (i := 1) (N := some 52) #[Y,Y,O,O,O,O,O,O,O,O,O,O,O,O,O,O,O,O,O,O,O,O,O,O,O,O] rfl rfl (one_of HT_.out (by kernel_rfl)) (by decide) (fun K hK => ?_)
                 refine goes_ Try.func42 (by kernel_rfl) rfl #[.agg #[.int .i64 ((rd_T52 l0_0 x46_3).f0), .int .i64 ((rd_T52 l0_0 x46_3).f1), .string ((rd_T52 l0_0 x46_3).f2), .bool ((rd_T52 l0_0 x46_3).f3), .int .i64 ((rd_T52 l0_0 x46_3).f4), .int .i64 ((rd_T52 l0_0 x46_3).f5), .int .i64 ((rd_T52 l0_0 x46_3).f6), .slice A253_7 ((rd_T52 l0_0 x46_3).f7).length c253_7, .int .i64 ((rd_T52 l0_0 x46_3).f8)]] (by rfl) rfl rfl (by (try simp only [List.map_toArray, List.map_cons, List.map_nil]); first | done | rfl | (simp only [List.length_drop, List.length_take]; rfl)) ?_
                 with_reducible refine (impl_inodeOk.calls k3 ((rd_T52 l0_0 x46_3).f0) ((rd_T52 l0_0 x46_3).f1) ((rd_T52 l0_0 x46_3).f2) ((rd_T52 l0_0 x46_3).f3) ((rd_T52 l0_0 x46_3).f4) ((rd_T52 l0_0 x46_3).f5) ((rd_T52 l0_0 x46_3).f6) _ _ ((rd_T52 l0_0 x46_3).f7) ((rd_T52 l0_0 x46_3).f8) true _ ?side1 ?side2 A42.out).mono ?_
                 (case side1 => exact pc (Kd.C_below HR253_7.out HB.out))
                 (case side2 => exact HC253_7.out)
                 rintro e w46 ⟨rfl, hb⟩
                 refine ⟨_, rfl, ?_⟩
                 have n0_ := Aside0.mk (pb BK249.out hb)
                 have n1_ := Aside0.mk (pb BK252.out hb)
                 have n2_ := Aside0.mk (pb BK254.out hb)
                 have n3_ := Aside0.mk (below_step (pl3 HB.out GE249.out GE252.out GE254.out) hb)
                 clear BK249
                 clear BK252
                 clear BK254
                 clear HB
                 have BK249 := n0_
                 have BK252 := n1_
                 have BK254 := n2_
                 have HB := n3_
                 clear n0_ n1_ n2_ n3_
                 (try clear hb)
                 (try clear hb2)
                 (try clear hk)
                 (try clear hi)
                 refine hK.out _ _ ⟨(blk_cell BK254.out 0).trans rfl, (blk_cell BK254.out 1).trans rfl, (blk_cell BK254.out 2).trans rfl, (blk_cell BK254.out 3).trans rfl, (blk_cell BK254.out 4).trans rfl, (blk_cell BK254.out 5).trans rfl, (blk_cell BK254.out 6).trans rfl, (blk_cell BK254.out 7).trans rfl, (blk_cell BK254.out 8).trans rfl, (blk_cell BK249.out 0).trans rfl, (blk_cell BK249.out 1).trans rfl⟩ (fun hHeld => ?_)
                 clear hK K
                 refine norm_ (a' := ?_) ?_ ?_
                 rotate_left
                 ·show Act.put _ (some 52) _ = _
                  simp only [Act.put, List.setIfInBounds_toArray, List.set_cons_zero, List.set_cons_succ, i64_w, i32_w]
                  rfl
                 refine pz 2 53 #[Y,Y,Y,O,O,O,O,O,O,O,O,O,O,O,O,O,O,O,O,O,O,O,O,O,O,O] HT_ ?_
                 refine pz 3 54 #[Y,Y,Y,Y,O,O,O,O,O,O,O,O,O,O,O,O,O,O,O,O,O,O,O,O,O,O] HT_ ?_
                 refine pz 4 55 #[Y,Y,Y,Y,Y,O,O,O,O,O,O,O,O,O,O,O,O,O,O,O,O,O,O,O,O,O] HT_ ?_
                 refine pure_ (i := 6) (N := some 57) (v := ?_) (a' := ?_) #[Y,Y,Y,Y,Y,O,Y,O,O,O,O,O,O,O,O,O,O,O,O,O,O,O,O,O,O,O] rfl rfl (any_of HT_.out (by kernel_rfl)) (fun _ _ _ h => h) (Or.inl ⟨by rfl, ?_⟩) ?_ ?_
                 rotate_left
                 ·intro w'
                  go_simp
                  with_reducible rfl
                 rotate_left
                 ·simp only [Act.put, List.setIfInBounds_toArray, List.set_cons_zero, List.set_cons_succ, i64_w, i32_w]
                  rfl
                 refine take_ (i := 5) (N := some 56) (v := ?_) (a' := ?_) #[Y,Y,Y,Y,Y,Y,Y,O,O,O,O,O,O,O,O,O,O,O,O,O,O,O,O,O,O,O] rfl rfl (take_ofW HT_.out HW_.out (by kernel_rfl)) (fun _ _ _ h => h) (Or.inl ⟨by rfl, ?_⟩) hHeld ?_ ?_
                 rotate_left
                 ·rintro w' ⟨s0, s1, s2, s3, s4, s5, s6, s7, s8, s9, s10⟩
                  go_simp
                  with_reducible rfl
                 rotate_left
                 ·simp only [Act.put, List.setIfInBounds_toArray, List.set_cons_zero, List.set_cons_succ, i64_w, i32_w]
                  rfl
                 refine tz 7 58 #[Y,Y,Y,Y,Y,Y,Y,Y,O,O,O,O,O,O,O,O,O,O,O,O,O,O,O,O,O,O] HT_ HW_ hHeld ?_ (hr := by rintro w' ⟨s0, s1, s2, s3, s4, s5, s6, s7, s8, s9, s10⟩; go_simp; with_reducible rfl)
                 refine pz 8 59 #[Y,Y,Y,Y,Y,Y,Y,Y,Y,O,O,O,O,O,O,O,O,O,O,O,O,O,O,O,O,O] HT_ ?_
                 refine pz 9 60 #[Y,Y,Y,Y,Y,Y,Y,Y,Y,Y,O,O,O,O,O,O,O,O,O,O,O,O,O,O,O,O] HT_ ?_
                 refine pz 10 61 #[Y,Y,Y,Y,Y,Y,Y,Y,Y,Y,Y,O,O,O,O,O,O,O,O,O,O,O,O,O,O,O] HT_ ?_
                 refine uz 11 62 #[Y,Y,Y,Y,Y,Y,Y,Y,Y,Y,Y,Y,O,O,O,O,O,O,O,O,O,O,O,O,O,O] HT_ ?_
                 refine uz 12 63 #[Y,Y,Y,Y,Y,Y,Y,Y,Y,Y,Y,Y,Y,O,O,O,O,O,O,O,O,O,O,O,O,O] HT_ ?_
                 refine uz 13 64 #[Y,Y,Y,Y,Y,Y,Y,Y,Y,Y,Y,Y,Y,Y,O,O,O,O,O,O,O,O,O,O,O,O] HT_ ?_
                 refine uz 14 65 #[Y,Y,Y,Y,Y,Y,Y,Y,Y,Y,Y,Y,Y,Y,Y,O,O,O,O,O,O,O,O,O,O,O] HT_ ?_
                 refine uz 15 66 #[Y,Y,Y,Y,Y,Y,Y,Y,Y,Y,Y,Y,Y,Y,Y,Y,O,O,O,O,O,O,O,O,O,O] HT_ ?_
                 refine uz 16 67 #[Y,Y,Y,Y,Y,Y,Y,Y,Y,Y,Y,Y,Y,Y,Y,Y,Y,O,O,O,O,O,O,O,O,O] HT_ ?_
                 refine uz 17 68 #[Y,Y,Y,Y,Y,Y,Y,Y,Y,Y,Y,Y,Y,Y,Y,Y,Y,Y,O,O,O,O,O,O,O,O] HT_ ?_
                 refine uz 18 69 #[Y,Y,Y,Y,Y,Y,Y,Y,Y,Y,Y,Y,Y,Y,Y,Y,Y,Y,Y,O,O,O,O,O,O,O] HT_ ?_
                 refine uz 19 70 #[Y,Y,Y,Y,Y,Y,Y,Y,Y,Y,Y,Y,Y,Y,Y,Y,Y,Y,Y,Y,O,O,O,O,O,O] HT_ ?_
                 refine uz 20 71 #[Y,Y,Y,Y,Y,Y,Y,Y,Y,Y,Y,Y,Y,Y,Y,Y,Y,Y,Y,Y,Y,O,O,O,O,O] HT_ ?_
                 refine uz 21 72 #[Y,Y,Y,Y,Y,Y,Y,Y,Y,Y,Y,Y,Y,Y,Y,Y,Y,Y,Y,Y,Y,Y,O,O,O,O] HT_ ?_
                 refine uz 22 73 #[Y,Y,Y,Y,Y,Y,Y,Y,Y,Y,Y,Y,Y,Y,Y,Y,Y,Y,Y,Y,Y,Y,Y,O,O,O] HT_ ?_
                 refine uz 23 74 #[Y,Y,Y,Y,Y,Y,Y,Y,Y,Y,Y,Y,Y,Y,Y,Y,Y,Y,Y,Y,Y,Y,Y,Y,O,O] HT_ ?_
                 refine uz 24 75 #[Y,Y,Y,Y,Y,Y,Y,Y,Y,Y,Y,Y,Y,Y,Y,Y,Y,Y,Y,Y,Y,Y,Y,Y,Y,O] HT_ ?_
                 refine pz 25 76 #[Y,Y,Y,Y,Y,Y,Y,Y,Y,Y,Y,Y,Y,Y,Y,Y,Y,Y,Y,Y,Y,Y,Y,Y,Y,Y] HT_ ?_
                 refine done_ (done_of HT_.out (by kernel_rfl)) ?_
                 try go_wp2
                 go_meet
                 case rel => exact ⟨_, (true), eqa, H', ⟨by have := HJ1.out; have := HJ9.out; have := HK3.out; first | omega | exact Nat.le_refl _⟩, ⟨pk BK249.out⟩, ⟨pk BK252.out⟩, ⟨pk BK254.out⟩, ⟨pl3 HB.out GE249.out GE252.out GE254.out⟩⟩
                ·rw [if_neg c44] at H
                 have c44b0 : decide (a0_1 ≤ ((rd_T52 l0_0 x46_3).f0)) = false := decide_eq_false c44
                 clear c44
                 (first | rw [c44b0] | (simp only [i64_w, i32_w]; rw [c44b0]) | skip)
                 by_cases c47 : x46_3 > 0
                 ·rw [if_pos c47] at H
                  have c47b0 : decide (0 < x46_3) = true := decide_eq_true c47
                  clear c47
                  obtain ⟨ji48, hji48⟩ : ∃ j_ : Int, (wrap64 (x46_3 - 1)) = j_ := ⟨_, rfl⟩
                  replace H : (if 0 ≤ (ji48) then (if (ji48) < (l0_0.length : Int) then (impl_TreeOk.j3 k3 x46_3 l0_0 (l0_0.length : Int) x46_3 (decide (((rd_T52 l0_0 (ji48)).f0) ≥ ((rd_T52 l0_0 x46_3).f0))) l0_0 a0_1 ((rd_T52 l0_0 x46_3).f0) ((rd_T52 l0_0 x46_3).f1) ((rd_T52 l0_0 x46_3).f2) ((rd_T52 l0_0 x46_3).f3) ((rd_T52 l0_0 x46_3).f4) ((rd_T52 l0_0 x46_3).f5) ((rd_T52 l0_0 x46_3).f6) ((rd_T52 l0_0 x46_3).f7) ((rd_T52 l0_0 x46_3).f8)) else (none)) else (none)) = some r := by first | (rw [hji48] at H; exact H) | (simp only [hji48] at H ⊢; exact H)
                  (try rw [hji48] at A42)
                  have hji48w : (IntKind.i64.wrap (x46_3 - 1)) = ji48 := (i64_w _).trans hji48
                  by_cases c49 : 0 ≤ (ji48)
                  ·rw [if_pos c49] at H
                   have c49b0 : decide (0 ≤ (ji48)) = true := decide_eq_true c49
                   clear c49
                   by_cases c50 : (ji48) < (l0_0.length : Int)
                   ·rw [if_pos c50] at H
                    have c50b0 : decide ((ji48) < (l0_0.length : Int)) = true := decide_eq_true c50
                    clear c50
                    have H' := Aside0.mk H
                    clear H
                    try go_wp2
                    have n0_ := Aside0.mk (blk_drew BK249.out)
                    have n1_ := Aside0.mk (blk_drew BK252.out)
                    have n2_ := Aside0.mk (blk_drew BK254.out)
                    have n3_ := Aside0.mk (below_drew1 HB.out)
                    clear BK249
                    clear BK252
                    clear BK254
                    clear HB
                    have BK249 := n0_
                    have BK252 := n1_
                    have BK254 := n2_
                    have HB := n3_
                    clear n0_ n1_ n2_ n3_
                    have p256 : 0 ≤ ((ji48) : Int) := oda
                    have q256 : (ji48) < (l0_0.length : Int) := oda
                    obtain ⟨ad256, A256_7, c256_7, e256, hx256_0, hx256_1, hx256_2, hx256_3, hx256_4, hx256_5, hx256_6, hx256_7, hx256_8, hl256_7, hi256_7⟩ := at_T52 HR0_0.out (ji48) p256 q256
                    have hw256_8 := hx256_8
                    have hw256_7 := hx256_7
                    have hw256_6 := hx256_6
                    have hw256_5 := hx256_5
                    have hw256_4 := hx256_4
                    have hw256_3 := hx256_3
                    have hw256_2 := hx256_2
                    have hw256_1 := hx256_1
                    have hw256_0 := hx256_0
                    obtain rfl : ad251 = ad256 := (by injection e256)
                    replace hx256_0 := hbc HB.out hx256_0
                    replace hx256_1 := hbc HB.out hx256_1
                    replace hx256_2 := hbc HB.out hx256_2
                    replace hx256_3 := hbc HB.out hx256_3
                    replace hx256_4 := hbc HB.out hx256_4
                    replace hx256_5 := hbc HB.out hx256_5
                    replace hx256_6 := hbc HB.out hx256_6
                    replace hx256_7 := hbc HB.out hx256_7
                    replace hx256_8 := hbc HB.out hx256_8
                    have HR256_7 := Aside0.mk hi256_7
                    have HC256_7 := Aside0.mk hl256_7
                    clear hi256_7 hl256_7
                    replace p256 := eq_true p256
                    replace q256 := eq_true q256
                    refine start_ (n := 26) (S := fun w' => w'.cell? ⟨gb254, 0, none⟩ = some (.int .i64 ((rd_T52 l0_0 x46_3).f0)) ∧ w'.cell? ⟨gb254, 1, none⟩ = some (.int .i64 ((rd_T52 l0_0 x46_3).f1)) ∧ w'.cell? ⟨gb254, 2, none⟩ = some (.string ((rd_T52 l0_0 x46_3).f2)) ∧ w'.cell? ⟨gb254, 3, none⟩ = some (.bool ((rd_T52 l0_0 x46_3).f3)) ∧ w'.cell? ⟨gb254, 4, none⟩ = some (.int .i64 ((rd_T52 l0_0 x46_3).f4)) ∧ w'.cell? ⟨gb254, 5, none⟩ = some (.int .i64 ((rd_T52 l0_0 x46_3).f5)) ∧ w'.cell? ⟨gb254, 6, none⟩ = some (.int .i64 ((rd_T52 l0_0 x46_3).f6)) ∧ w'.cell? ⟨gb254, 7, none⟩ = some (.slice A253_7 ((rd_T52 l0_0 x46_3).f7).length c253_7) ∧ w'.cell? ⟨gb254, 8, none⟩ = some (.int .i64 ((rd_T52 l0_0 x46_3).f8)) ∧ w'.cell? ⟨gb249, 0, none⟩ = some (.slice (some ad251) l0_0.length c0_0) ∧ w'.cell? ⟨gb249, 1, none⟩ = some (.int .i64 a0_1) ∧ w'.cell? (ad251.add (((ji48)).toNat * 9)) = some (.int .i64 ((rd_T52 l0_0 (ji48)).f0)) ∧ w'.cell? ⟨(ad251.add (((ji48)).toNat * 9)).block, (ad251.add (((ji48)).toNat * 9)).off + 1, none⟩ = some (.int .i64 ((rd_T52 l0_0 (ji48)).f1)) ∧ w'.cell? ⟨(ad251.add (((ji48)).toNat * 9)).block, (ad251.add (((ji48)).toNat * 9)).off + 2, none⟩ = some (.string ((rd_T52 l0_0 (ji48)).f2)) ∧ w'.cell? ⟨(ad251.add (((ji48)).toNat * 9)).block, (ad251.add (((ji48)).toNat * 9)).off + 3, none⟩ = some (.bool ((rd_T52 l0_0 (ji48)).f3)) ∧ w'.cell? ⟨(ad251.add (((ji48)).toNat * 9)).block, (ad251.add (((ji48)).toNat * 9)).off + 4, none⟩ = some (.int .i64 ((rd_T52 l0_0 (ji48)).f4)) ∧ w'.cell? ⟨(ad251.add (((ji48)).toNat * 9)).block, (ad251.add (((ji48)).toNat * 9)).off + 5, none⟩ = some (.int .i64 ((rd_T52 l0_0 (ji48)).f5)) ∧ w'.cell? ⟨(ad251.add (((ji48)).toNat * 9)).block, (ad251.add (((ji48)).toNat * 9)).off + 6, none⟩ = some (.int .i64 ((rd_T52 l0_0 (ji48)).f6)) ∧ w'.cell? ⟨(ad251.add (((ji48)).toNat * 9)).block, (ad251.add (((ji48)).toNat * 9)).off + 7, none⟩ = some (.slice A256_7 ((rd_T52 l0_0 (ji48)).f7).length c256_7) ∧ w'.cell? ⟨(ad251.add (((ji48)).toNat * 9)).block, (ad251.add (((ji48)).toNat * 9)).off + 8, none⟩ = some (.int .i64 ((rd_T52 l0_0 (ji48)).f8))) (ds := []) #[O,O,O,O,O,O,O,O,O,O,O,O,O,O,O,O,O,O,O,O,O,O,O,O,O,O] (by kernel_rfl) rfl rfl ⟨(blk_cell BK254.out 0).trans rfl, (blk_cell BK254.out 1).trans rfl, (blk_cell BK254.out 2).trans rfl, (blk_cell BK254.out 3).trans rfl, (blk_cell BK254.out 4).trans rfl, (blk_cell BK254.out 5).trans rfl, (blk_cell BK254.out 6).trans rfl, (blk_cell BK254.out 7).trans rfl, (blk_cell BK254.out 8).trans rfl, (blk_cell BK249.out 0).trans rfl, (blk_cell BK249.out 1).trans rfl, ((HB.out.cell (World.block_lt_of_cell? w _ hw256_0)).trans hw256_0), ((HB.out.cell (World.block_lt_of_cell? w _ hw256_1)).trans hw256_1), ((HB.out.cell (World.block_lt_of_cell? w _ hw256_2)).trans hw256_2), ((HB.out.cell (World.block_lt_of_cell? w _ hw256_3)).trans hw256_3), ((HB.out.cell (World.block_lt_of_cell? w _ hw256_4)).trans hw256_4), ((HB.out.cell (World.block_lt_of_cell? w _ hw256_5)).trans hw256_5), ((HB.out.cell (World.block_lt_of_cell? w _ hw256_6)).trans hw256_6), ((HB.out.cell (World.block_lt_of_cell? w _ hw256_7)).trans hw256_7), ((HB.out.cell (World.block_lt_of_cell? w _ hw256_8)).trans hw256_8)⟩ (fun hHeld => ?_); refine with_tabW impl_TreeOk.tab9 impl_TreeOk.bits9 (fun HT_ HW_ => ?_)
                    generalize wk41.drew = w51 at BK249 BK252 BK254 HB HR256_7 hx256_0 hx256_1 hx256_2 hx256_3 hx256_4 hx256_5 hx256_6 hx256_7 hx256_8 hHeld ⊢
                    refine tz 0 51 #[Y,O,O,O,O,O,O,O,O,O,O,O,O,O,O,O,O,O,O,O,O,O,O,O,O,O] HT_ HW_ hHeld ?_ (hr := by rintro w' ⟨s0, s1, s2, s3, s4, s5, s6, s7, s8, s9, s10, s11, s12, s13, s14, s15, s16, s17, s18, s19⟩; go_simp; with_reducible rfl)
                    refine one_ (i := 1) (N := some 52) #[Y,Y,O,O,O,O,O,O,O,O,O,O,O,O,O,O,O,O,O,O,O,O,O,O,O,O] rfl rfl (one_of HT_.out (by kernel_rfl)) (by decide) (fun K hK => ?_)
                    refine goes_ Try.func42 (by kernel_rfl) rfl #[.agg #[.int .i64 ((rd_T52 l0_0 x46_3).f0), .int .i64 ((rd_T52 l0_0 x46_3).f1), .string ((rd_T52 l0_0 x46_3).f2), .bool ((rd_T52 l0_0 x46_3).f3), .int .i64 ((rd_T52 l0_0 x46_3).f4), .int .i64 ((rd_T52 l0_0 x46_3).f5), .int .i64 ((rd_T52 l0_0 x46_3).f6), .slice A253_7 ((rd_T52 l0_0 x46_3).f7).length c253_7, .int .i64 ((rd_T52 l0_0 x46_3).f8)]] (by rfl) rfl rfl (by (try simp only [List.map_toArray, List.map_cons, List.map_nil]); first | done | rfl | (simp only [List.length_drop, List.length_take]; rfl)) ?_
                    with_reducible refine (impl_inodeOk.calls k3 ((rd_T52 l0_0 x46_3).f0) ((rd_T52 l0_0 x46_3).f1) ((rd_T52 l0_0 x46_3).f2) ((rd_T52 l0_0 x46_3).f3) ((rd_T52 l0_0 x46_3).f4) ((rd_T52 l0_0 x46_3).f5) ((rd_T52 l0_0 x46_3).f6) _ _ ((rd_T52 l0_0 x46_3).f7) ((rd_T52 l0_0 x46_3).f8) true _ ?side1 ?side2 A42.out).mono ?_
                    (case side1 => exact pc (Kd.C_below HR253_7.out HB.out))
                    (case side2 => exact HC253_7.out)
                    rintro e w52 ⟨rfl, hb⟩
                    refine ⟨_, rfl, ?_⟩
                    have n0_ := Aside0.mk (pb BK249.out hb)
                    have n1_ := Aside0.mk (pb BK252.out hb)
                    have n2_ := Aside0.mk (pb BK254.out hb)
                    have n3_ := Aside0.mk (below_step (pl3 HB.out GE249.out GE252.out GE254.out) hb)
                    clear BK249
                    clear BK252
                    clear BK254
                    clear HB
                    have BK249 := n0_
                    have BK252 := n1_
                    have BK254 := n2_
                    have HB := n3_
                    clear n0_ n1_ n2_ n3_
                    (try clear hb)
                    (try clear hb2)
                    (try clear hk)
                    (try clear hi)
                    refine hK.out _ _ ⟨(blk_cell BK254.out 0).trans rfl, (blk_cell BK254.out 1).trans rfl, (blk_cell BK254.out 2).trans rfl, (blk_cell BK254.out 3).trans rfl, (blk_cell BK254.out 4).trans rfl, (blk_cell BK254.out 5).trans rfl, (blk_cell BK254.out 6).trans rfl, (blk_cell BK254.out 7).trans rfl, (blk_cell BK254.out 8).trans rfl, (blk_cell BK249.out 0).trans rfl, (blk_cell BK249.out 1).trans rfl, ((HB.out.cell (World.block_lt_of_cell? w _ hw256_0)).trans hw256_0), ((HB.out.cell (World.block_lt_of_cell? w _ hw256_1)).trans hw256_1), ((HB.out.cell (World.block_lt_of_cell? w _ hw256_2)).trans hw256_2), ((HB.out.cell (World.block_lt_of_cell? w _ hw256_3)).trans hw256_3), ((HB.out.cell (World.block_lt_of_cell? w _ hw256_4)).trans hw256_4), ((HB.out.cell (World.block_lt_of_cell? w _ hw256_5)).trans hw256_5), ((HB.out.cell (World.block_lt_of_cell? w _ hw256_6)).trans hw256_6), ((HB.out.cell (World.block_lt_of_cell? w _ hw256_7)).trans hw256_7), ((HB.out.cell (World.block_lt_of_cell? w _ hw256_8)).trans hw256_8)⟩ (fun hHeld => ?_)
                    clear hK K
                    refine norm_ (a' := ?_) ?_ ?_
                    rotate_left
                    ·show Act.put _ (some 52) _ = _
                     simp only [Act.put, List.setIfInBounds_toArray, List.set_cons_zero, List.set_cons_succ, i64_w, i32_w]
                     rfl
                    refine pz 2 53 #[Y,Y,Y,O,O,O,O,O,O,O,O,O,O,O,O,O,O,O,O,O,O,O,O,O,O,O] HT_ ?_
                    refine pz 3 54 #[Y,Y,Y,Y,O,O,O,O,O,O,O,O,O,O,O,O,O,O,O,O,O,O,O,O,O,O] HT_ ?_
                    refine pz 4 55 #[Y,Y,Y,Y,Y,O,O,O,O,O,O,O,O,O,O,O,O,O,O,O,O,O,O,O,O,O] HT_ ?_
                    refine pure_ (i := 6) (N := some 57) (v := ?_) (a' := ?_) #[Y,Y,Y,Y,Y,O,Y,O,O,O,O,O,O,O,O,O,O,O,O,O,O,O,O,O,O,O] rfl rfl (any_of HT_.out (by kernel_rfl)) (fun _ _ _ h => h) (Or.inl ⟨by rfl, ?_⟩) ?_ ?_
                    rotate_left
                    ·intro w'
                     go_simp
                     with_reducible rfl
                    rotate_left
                    ·simp only [Act.put, List.setIfInBounds_toArray, List.set_cons_zero, List.set_cons_succ, i64_w, i32_w]
                     rfl
                    refine take_ (i := 5) (N := some 56) (v := ?_) (a' := ?_) #[Y,Y,Y,Y,Y,Y,Y,O,O,O,O,O,O,O,O,O,O,O,O,O,O,O,O,O,O,O] rfl rfl (take_ofW HT_.out HW_.out (by kernel_rfl)) (fun _ _ _ h => h) (Or.inl ⟨by rfl, ?_⟩) hHeld ?_ ?_
                    rotate_left
                    ·rintro w' ⟨s0, s1, s2, s3, s4, s5, s6, s7, s8, s9, s10, s11, s12, s13, s14, s15, s16, s17, s18, s19⟩
                     go_simp
                     with_reducible rfl
                    rotate_left
                    ·simp only [Act.put, List.setIfInBounds_toArray, List.set_cons_zero, List.set_cons_succ, i64_w, i32_w]
                     rfl
                    refine tz 7 58 #[Y,Y,Y,Y,Y,Y,Y,Y,O,O,O,O,O,O,O,O,O,O,O,O,O,O,O,O,O,O] HT_ HW_ hHeld ?_ (hr := by rintro w' ⟨s0, s1, s2, s3, s4, s5, s6, s7, s8, s9, s10, s11, s12, s13, s14, s15, s16, s17, s18, s19⟩; go_simp; with_reducible rfl)
                    refine pz 8 59 #[Y,Y,Y,Y,Y,Y,Y,Y,Y,O,O,O,O,O,O,O,O,O,O,O,O,O,O,O,O,O] HT_ ?_
                    refine pz 9 60 #[Y,Y,Y,Y,Y,Y,Y,Y,Y,Y,O,O,O,O,O,O,O,O,O,O,O,O,O,O,O,O] HT_ ?_
                    refine pz 10 61 #[Y,Y,Y,Y,Y,Y,Y,Y,Y,Y,Y,O,O,O,O,O,O,O,O,O,O,O,O,O,O,O] HT_ ?_
                    refine pz 11 62 #[Y,Y,Y,Y,Y,Y,Y,Y,Y,Y,Y,Y,O,O,O,O,O,O,O,O,O,O,O,O,O,O] HT_ ?_
                    refine pz 12 63 #[Y,Y,Y,Y,Y,Y,Y,Y,Y,Y,Y,Y,Y,O,O,O,O,O,O,O,O,O,O,O,O,O] HT_ ?_
                    refine pz 13 64 #[Y,Y,Y,Y,Y,Y,Y,Y,Y,Y,Y,Y,Y,Y,O,O,O,O,O,O,O,O,O,O,O,O] HT_ ?_
                    refine pz 14 65 #[Y,Y,Y,Y,Y,Y,Y,Y,Y,Y,Y,Y,Y,Y,Y,O,O,O,O,O,O,O,O,O,O,O] HT_ ?_
                    refine pure_ (i := 16) (N := some 67) (v := ?_) (a' := ?_) #[Y,Y,Y,Y,Y,Y,Y,Y,Y,Y,Y,Y,Y,Y,Y,O,Y,O,O,O,O,O,O,O,O,O] rfl rfl (any_of HT_.out (by kernel_rfl)) (fun _ _ _ h => h) (Or.inl ⟨by rfl, ?_⟩) ?_ ?_
                    rotate_left
                    ·intro w'
                     go_simp
                     with_reducible rfl
                    rotate_left
                    ·simp only [Act.put, List.setIfInBounds_toArray, List.set_cons_zero, List.set_cons_succ, i64_w, i32_w]
                     rfl
                    refine pure_ (i := 17) (N := some 68) (v := ?_) (a' := ?_) #[Y,Y,Y,Y,Y,Y,Y,Y,Y,Y,Y,Y,Y,Y,Y,O,Y,Y,O,O,O,O,O,O,O,O] rfl rfl (any_of HT_.out (by kernel_rfl)) (fun _ _ _ h => h) (Or.inl ⟨by rfl, ?_⟩) ?_ ?_
                    rotate_left
                    ·intro w'
                     go_simp
                     with_reducible rfl
                    rotate_left
                    ·simp only [Act.put, List.setIfInBounds_toArray, List.set_cons_zero, List.set_cons_succ, i64_w, i32_w]
                     rfl
                    refine pure_ (i := 21) (N := some 72) (v := ?_) (a' := ?_) #[Y,Y,Y,Y,Y,Y,Y,Y,Y,Y,Y,Y,Y,Y,Y,O,Y,Y,O,O,O,Y,O,O,O,O] rfl rfl (any_of HT_.out (by kernel_rfl)) (fun _ _ _ h => h) (Or.inl ⟨by rfl, ?_⟩) ?_ ?_
                    rotate_left
                    ·intro w'
                     go_simp
                     with_reducible rfl
                    rotate_left
                    ·simp only [Act.put, List.setIfInBounds_toArray, List.set_cons_zero, List.set_cons_succ, i64_w, i32_w]
                     rfl
                    refine take_ (i := 15) (N := some 66) (v := ?_) (a' := ?_) #[Y,Y,Y,Y,Y,Y,Y,Y,Y,Y,Y,Y,Y,Y,Y,Y,Y,Y,O,O,O,Y,O,O,O,O] rfl rfl (take_ofW HT_.out HW_.out (by kernel_rfl)) (fun _ _ _ h => h) (Or.inl ⟨by rfl, ?_⟩) hHeld ?_ ?_
                    rotate_left
                    ·rintro w' ⟨s0, s1, s2, s3, s4, s5, s6, s7, s8, s9, s10, s11, s12, s13, s14, s15, s16, s17, s18, s19⟩
                     go_simp
                     with_reducible rfl
                    rotate_left
                    ·simp only [Act.put, List.setIfInBounds_toArray, List.set_cons_zero, List.set_cons_succ, i64_w, i32_w]
                     rfl
                    refine pure_ (i := 18) (N := some 69) (v := ?_) (a' := ?_) #[Y,Y,Y,Y,Y,Y,Y,Y,Y,Y,Y,Y,Y,Y,Y,Y,Y,Y,Y,O,O,Y,O,O,O,O] rfl rfl (any_of HT_.out (by kernel_rfl)) (fun _ _ _ h => h) (Or.inl ⟨by rfl, ?_⟩) ?_ ?_
                    rotate_left
                    ·intro w'
                     go_simp
                     with_reducible rfl
                    rotate_left
                    ·simp only [Act.put, List.setIfInBounds_toArray, List.set_cons_zero, List.set_cons_succ, i64_w, i32_w]
                     rfl
                    refine pure_ (i := 19) (N := some 70) (v := ?_) (a' := ?_) #[Y,Y,Y,Y,Y,Y,Y,Y,Y,Y,Y,Y,Y,Y,Y,Y,Y,Y,Y,Y,O,Y,O,O,O,O] rfl rfl (any_of HT_.out (by kernel_rfl)) (fun _ _ _ h => h) (Or.inl ⟨by rfl, ?_⟩) ?_ ?_
                    rotate_left
                    ·intro w'
                     go_simp
                     with_reducible rfl
                    rotate_left
                    ·simp only [Act.put, List.setIfInBounds_toArray, List.set_cons_zero, List.set_cons_succ, i64_w, i32_w]
                     rfl
                    refine take_ (i := 20) (N := some 71) (v := ?_) (a' := ?_) #[Y,Y,Y,Y,Y,Y,Y,Y,Y,Y,Y,Y,Y,Y,Y,Y,Y,Y,Y,Y,Y,Y,O,O,O,O] rfl rfl (take_ofW HT_.out HW_.out (by kernel_rfl)) (fun _ _ _ h => h) (Or.inl ⟨by rfl, ?_⟩) hHeld ?_ ?_
                    rotate_left
                    ·rintro w' ⟨s0, s1, s2, s3, s4, s5, s6, s7, s8, s9, s10, s11, s12, s13, s14, s15, s16, s17, s18, s19⟩
                     go_simp
                     with_reducible rfl
                    rotate_left
                    ·simp only [Act.put, List.setIfInBounds_toArray, List.set_cons_zero, List.set_cons_succ, i64_w, i32_w]
                     rfl
                    refine tz 22 73 #[Y,Y,Y,Y,Y,Y,Y,Y,Y,Y,Y,Y,Y,Y,Y,Y,Y,Y,Y,Y,Y,Y,Y,O,O,O] HT_ HW_ hHeld ?_ (hr := by rintro w' ⟨s0, s1, s2, s3, s4, s5, s6, s7, s8, s9, s10, s11, s12, s13, s14, s15, s16, s17, s18, s19⟩; go_simp; with_reducible rfl)
                    refine pz 23 74 #[Y,Y,Y,Y,Y,Y,Y,Y,Y,Y,Y,Y,Y,Y,Y,Y,Y,Y,Y,Y,Y,Y,Y,Y,O,O] HT_ ?_
                    refine pz 24 75 #[Y,Y,Y,Y,Y,Y,Y,Y,Y,Y,Y,Y,Y,Y,Y,Y,Y,Y,Y,Y,Y,Y,Y,Y,Y,O] HT_ ?_
                    refine pz 25 76 #[Y,Y,Y,Y,Y,Y,Y,Y,Y,Y,Y,Y,Y,Y,Y,Y,Y,Y,Y,Y,Y,Y,Y,Y,Y,Y] HT_ ?_
                    refine done_ (done_of HT_.out (by kernel_rfl)) ?_
                    try go_wp2
                    go_meet
                    case rel => exact ⟨_, (decide (((rd_T52 l0_0 (ji48)).f0) ≥ ((rd_T52 l0_0 x46_3).f0))), (by first | rfl | (simp; done) | (simp only [← hji48] <;> (first | rfl | simp)) | (simp [*]; done)), H', ⟨by have := HJ1.out; have := HJ9.out; have := HK3.out; first | omega | exact Nat.le_refl _⟩, ⟨pk BK249.out⟩, ⟨pk BK252.out⟩, ⟨pk BK254.out⟩, ⟨pl3 HB.out GE249.out GE252.out GE254.out⟩⟩
                   ·rw [if_neg c50] at H
                    exact absurd H (by simp)
                  ·rw [if_neg c49] at H
                   exact absurd H (by simp)
                 ·rw [if_neg c47] at H
                  have c47b0 : decide (0 < x46_3) = false := decide_eq_false c47
                  clear c47
                  have H' := Aside0.mk H
                  clear H
                  try go_wp2
                  have n0_ := Aside0.mk (blk_drew BK249.out)
                  have n1_ := Aside0.mk (blk_drew BK252.out)
                  have n2_ := Aside0.mk (blk_drew BK254.out)
                  have n3_ := Aside0.mk (below_drew1 HB.out)
                  clear BK249
                  clear BK252
                  clear BK254
                  clear HB
                  have BK249 := n0_
                  have BK252 := n1_
                  have BK254 := n2_
                  have HB := n3_
                  clear n0_ n1_ n2_ n3_
                  refine start_ (n := 26) (S := fun w' => w'.cell? ⟨gb254, 0, none⟩ = some (.int .i64 ((rd_T52 l0_0 x46_3).f0)) ∧ w'.cell? ⟨gb254, 1, none⟩ = some (.int .i64 ((rd_T52 l0_0 x46_3).f1)) ∧ w'.cell? ⟨gb254, 2, none⟩ = some (.string ((rd_T52 l0_0 x46_3).f2)) ∧ w'.cell? ⟨gb254, 3, none⟩ = some (.bool ((rd_T52 l0_0 x46_3).f3)) ∧ w'.cell? ⟨gb254, 4, none⟩ = some (.int .i64 ((rd_T52 l0_0 x46_3).f4)) ∧ w'.cell? ⟨gb254, 5, none⟩ = some (.int .i64 ((rd_T52 l0_0 x46_3).f5)) ∧ w'.cell? ⟨gb254, 6, none⟩ = some (.int .i64 ((rd_T52 l0_0 x46_3).f6)) ∧ w'.cell? ⟨gb254, 7, none⟩ = some (.slice A253_7 ((rd_T52 l0_0 x46_3).f7).length c253_7) ∧ w'.cell? ⟨gb254, 8, none⟩ = some (.int .i64 ((rd_T52 l0_0 x46_3).f8)) ∧ w'.cell? ⟨gb249, 0, none⟩ = some (.slice (some ad251) l0_0.length c0_0) ∧ w'.cell? ⟨gb249, 1, none⟩ = some (.int .i64 a0_1)) (ds := []) #[O,O,O,O,O,O,O,O,O,O,O,O,O,O,O,O,O,O,O,O,O,O,O,O,O,O] (by kernel_rfl) rfl rfl ⟨(blk_cell BK254.out 0).trans rfl, (blk_cell BK254.out 1).trans rfl, (blk_cell BK254.out 2).trans rfl, (blk_cell BK254.out 3).trans rfl, (blk_cell BK254.out 4).trans rfl, (blk_cell BK254.out 5).trans rfl, (blk_cell BK254.out 6).trans rfl, (blk_cell BK254.out 7).trans rfl, (blk_cell BK254.out 8).trans rfl, (blk_cell BK249.out 0).trans rfl, (blk_cell BK249.out 1).trans rfl⟩ (fun hHeld => ?_); refine with_tabW impl_TreeOk.tab9 impl_TreeOk.bits9 (fun HT_ HW_ => ?_)
                  generalize wk41.drew = w53 at BK249 BK252 BK254 HB hHeld ⊢
                  refine tz 0 51 #[Y,O,O,O,O,O,O,O,O,O,O,O,O,O,O,O,O,O,O,O,O,O,O,O,O,O] HT_ HW_ hHeld ?_ (hr := by rintro w' ⟨s0, s1, s2, s3, s4, s5, s6, s7, s8, s9, s10⟩; go_simp; with_reducible rfl)
                  refine one_ (i := 1) (N := some 52) #[Y,Y,O,O,O,O,O,O,O,O,O,O,O,O,O,O,O,O,O,O,O,O,O,O,O,O] rfl rfl (one_of HT_.out (by kernel_rfl)) (by decide) (fun K hK => ?_)
                  refine goes_ Try.func42 (by kernel_rfl) rfl #[.agg #[.int .i64 ((rd_T52 l0_0 x46_3).f0), .int .i64 ((rd_T52 l0_0 x46_3).f1), .string ((rd_T52 l0_0 x46_3).f2), .bool ((rd_T52 l0_0 x46_3).f3), .int .i64 ((rd_T52 l0_0 x46_3).f4), .int .i64 ((rd_T52 l0_0 x46_3).f5), .int .i64 ((rd_T52 l0_0 x46_3).f6), .slice A253_7 ((rd_T52 l0_0 x46_3).f7).length c253_7, .int .i64 ((rd_T52 l0_0 x46_3).f8)]] (by rfl) rfl rfl (by (try simp only [List.map_toArray, List.map_cons, List.map_nil]); first | done | rfl | (simp only [List.length_drop, List.length_take]; rfl)) ?_
                  with_reducible refine (impl_inodeOk.calls k3 ((rd_T52 l0_0 x46_3).f0) ((rd_T52 l0_0 x46_3).f1) ((rd_T52 l0_0 x46_3).f2) ((rd_T52 l0_0 x46_3).f3) ((rd_T52 l0_0 x46_3).f4) ((rd_T52 l0_0 x46_3).f5) ((rd_T52 l0_0 x46_3).f6) _ _ ((rd_T52 l0_0 x46_3).f7) ((rd_T52 l0_0 x46_3).f8) true _ ?side1 ?side2 A42.out).mono ?_
                  (case side1 => exact pc (Kd.C_below HR253_7.out HB.out))
                  (case side2 => exact HC253_7.out)
                  rintro e w54 ⟨rfl, hb⟩
                  refine ⟨_, rfl, ?_⟩
                  have n0_ := Aside0.mk (pb BK249.out hb)
                  have n1_ := Aside0.mk (pb BK252.out hb)
                  have n2_ := Aside0.mk (pb BK254.out hb)
                  have n3_ := Aside0.mk (below_step (pl3 HB.out GE249.out GE252.out GE254.out) hb)
                  clear BK249
                  clear BK252
                  clear BK254
                  clear HB
                  have BK249 := n0_
                  have BK252 := n1_
                  have BK254 := n2_
                  have HB := n3_
                  clear n0_ n1_ n2_ n3_
                  (try clear hb)
                  (try clear hb2)
                  (try clear hk)
                  (try clear hi)
                  refine hK.out _ _ ⟨(blk_cell BK254.out 0).trans rfl, (blk_cell BK254.out 1).trans rfl, (blk_cell BK254.out 2).trans rfl, (blk_cell BK254.out 3).trans rfl, (blk_cell BK254.out 4).trans rfl, (blk_cell BK254.out 5).trans rfl, (blk_cell BK254.out 6).trans rfl, (blk_cell BK254.out 7).trans rfl, (blk_cell BK254.out 8).trans rfl, (blk_cell BK249.out 0).trans rfl, (blk_cell BK249.out 1).trans rfl⟩ (fun hHeld => ?_)
                  clear hK K
                  refine norm_ (a' := ?_) ?_ ?_
                  rotate_left
                  ·show Act.put _ (some 52) _ = _
                   simp only [Act.put, List.setIfInBounds_toArray, List.set_cons_zero, List.set_cons_succ, i64_w, i32_w]
                   rfl
                  refine pz 2 53 #[Y,Y,Y,O,O,O,O,O,O,O,O,O,O,O,O,O,O,O,O,O,O,O,O,O,O,O] HT_ ?_
                  refine pz 3 54 #[Y,Y,Y,Y,O,O,O,O,O,O,O,O,O,O,O,O,O,O,O,O,O,O,O,O,O,O] HT_ ?_
                  refine pz 4 55 #[Y,Y,Y,Y,Y,O,O,O,O,O,O,O,O,O,O,O,O,O,O,O,O,O,O,O,O,O] HT_ ?_
                  refine pure_ (i := 6) (N := some 57) (v := ?_) (a' := ?_) #[Y,Y,Y,Y,Y,O,Y,O,O,O,O,O,O,O,O,O,O,O,O,O,O,O,O,O,O,O] rfl rfl (any_of HT_.out (by kernel_rfl)) (fun _ _ _ h => h) (Or.inl ⟨by rfl, ?_⟩) ?_ ?_
                  rotate_left
                  ·intro w'
                   go_simp
                   with_reducible rfl
                  rotate_left
                  ·simp only [Act.put, List.setIfInBounds_toArray, List.set_cons_zero, List.set_cons_succ, i64_w, i32_w]
                   rfl
                  refine take_ (i := 5) (N := some 56) (v := ?_) (a' := ?_) #[Y,Y,Y,Y,Y,Y,Y,O,O,O,O,O,O,O,O,O,O,O,O,O,O,O,O,O,O,O] rfl rfl (take_ofW HT_.out HW_.out (by kernel_rfl)) (fun _ _ _ h => h) (Or.inl ⟨by rfl, ?_⟩) hHeld ?_ ?_
                  rotate_left
                  ·rintro w' ⟨s0, s1, s2, s3, s4, s5, s6, s7, s8, s9, s10⟩
                   go_simp
                   with_reducible rfl
                  rotate_left
                  ·simp only [Act.put, List.setIfInBounds_toArray, List.set_cons_zero, List.set_cons_succ, i64_w, i32_w]
                   rfl
                  refine tz 7 58 #[Y,Y,Y,Y,Y,Y,Y,Y,O,O,O,O,O,O,O,O,O,O,O,O,O,O,O,O,O,O] HT_ HW_ hHeld ?_ (hr := by rintro w' ⟨s0, s1, s2, s3, s4, s5, s6, s7, s8, s9, s10⟩; go_simp; with_reducible rfl)
                  refine pz 8 59 #[Y,Y,Y,Y,Y,Y,Y,Y,Y,O,O,O,O,O,O,O,O,O,O,O,O,O,O,O,O,O] HT_ ?_
                  refine pz 9 60 #[Y,Y,Y,Y,Y,Y,Y,Y,Y,Y,O,O,O,O,O,O,O,O,O,O,O,O,O,O,O,O] HT_ ?_
                  refine pz 10 61 #[Y,Y,Y,Y,Y,Y,Y,Y,Y,Y,Y,O,O,O,O,O,O,O,O,O,O,O,O,O,O,O] HT_ ?_
                  refine pz 11 62 #[Y,Y,Y,Y,Y,Y,Y,Y,Y,Y,Y,Y,O,O,O,O,O,O,O,O,O,O,O,O,O,O] HT_ ?_
                  refine pz 12 63 #[Y,Y,Y,Y,Y,Y,Y,Y,Y,Y,Y,Y,Y,O,O,O,O,O,O,O,O,O,O,O,O,O] HT_ ?_
                  refine pz 13 64 #[Y,Y,Y,Y,Y,Y,Y,Y,Y,Y,Y,Y,Y,Y,O,O,O,O,O,O,O,O,O,O,O,O] HT_ ?_
                  refine uz 14 65 #[Y,Y,Y,Y,Y,Y,Y,Y,Y,Y,Y,Y,Y,Y,Y,O,O,O,O,O,O,O,O,O,O,O] HT_ ?_
                  refine uz 15 66 #[Y,Y,Y,Y,Y,Y,Y,Y,Y,Y,Y,Y,Y,Y,Y,Y,O,O,O,O,O,O,O,O,O,O] HT_ ?_
                  refine uz 16 67 #[Y,Y,Y,Y,Y,Y,Y,Y,Y,Y,Y,Y,Y,Y,Y,Y,Y,O,O,O,O,O,O,O,O,O] HT_ ?_
                  refine uz 17 68 #[Y,Y,Y,Y,Y,Y,Y,Y,Y,Y,Y,Y,Y,Y,Y,Y,Y,Y,O,O,O,O,O,O,O,O] HT_ ?_
                  refine uz 18 69 #[Y,Y,Y,Y,Y,Y,Y,Y,Y,Y,Y,Y,Y,Y,Y,Y,Y,Y,Y,O,O,O,O,O,O,O] HT_ ?_
                  refine uz 19 70 #[Y,Y,Y,Y,Y,Y,Y,Y,Y,Y,Y,Y,Y,Y,Y,Y,Y,Y,Y,Y,O,O,O,O,O,O] HT_ ?_
                  refine uz 20 71 #[Y,Y,Y,Y,Y,Y,Y,Y,Y,Y,Y,Y,Y,Y,Y,Y,Y,Y,Y,Y,Y,O,O,O,O,O] HT_ ?_
                  refine uz 21 72 #[Y,Y,Y,Y,Y,Y,Y,Y,Y,Y,Y,Y,Y,Y,Y,Y,Y,Y,Y,Y,Y,Y,O,O,O,O] HT_ ?_
                  refine uz 22 73 #[Y,Y,Y,Y,Y,Y,Y,Y,Y,Y,Y,Y,Y,Y,Y,Y,Y,Y,Y,Y,Y,Y,Y,O,O,O] HT_ ?_
                  refine uz 23 74 #[Y,Y,Y,Y,Y,Y,Y,Y,Y,Y,Y,Y,Y,Y,Y,Y,Y,Y,Y,Y,Y,Y,Y,Y,O,O] HT_ ?_
                  refine pz 24 75 #[Y,Y,Y,Y,Y,Y,Y,Y,Y,Y,Y,Y,Y,Y,Y,Y,Y,Y,Y,Y,Y,Y,Y,Y,Y,O] HT_ ?_
                  refine pz 25 76 #[Y,Y,Y,Y,Y,Y,Y,Y,Y,Y,Y,Y,Y,Y,Y,Y,Y,Y,Y,Y,Y,Y,Y,Y,Y,Y] HT_ ?_
                  refine done_ (done_of HT_.out (by kernel_rfl)) ?_
                  try go_wp2
                  go_meet
                  case rel => exact ⟨_, (false), eqa, H', ⟨by have := HJ1.out; have := HJ9.out; have := HK3.out; first | omega | exact Nat.le_refl _⟩, ⟨pk BK249.out⟩, ⟨pk BK252.out⟩, ⟨pk BK254.out⟩, ⟨pl3 HB.out GE249.out GE252.out GE254.out⟩⟩
               ·replace c43 := Bool.eq_false_iff.mpr c43
                subst c43
                have H1 : (impl_TreeOk.j3 k3 x46_3 l0_0 (l0_0.length : Int) x46_3 true l0_0 a0_1 ((rd_T52 l0_0 x46_3).f0) ((rd_T52 l0_0 x46_3).f1) ((rd_T52 l0_0 x46_3).f2) ((rd_T52 l0_0 x46_3).f3) ((rd_T52 l0_0 x46_3).f4) ((rd_T52 l0_0 x46_3).f5) ((rd_T52 l0_0 x46_3).f6) ((rd_T52 l0_0 x46_3).f7) ((rd_T52 l0_0 x46_3).f8)) = some r := by rw [if_neg (show ¬ (false = true) by decide)] at H; exact H
                clear H
                have H := H1
                clear H1
                have H' := Aside0.mk H
                clear H
                try go_wp2
                have n0_ := Aside0.mk (blk_drew BK249.out)
                have n1_ := Aside0.mk (blk_drew BK252.out)
                have n2_ := Aside0.mk (blk_drew BK254.out)
                have n3_ := Aside0.mk (below_drew1 HB.out)
                clear BK249
                clear BK252
                clear BK254
                clear HB
                have BK249 := n0_
                have BK252 := n1_
                have BK254 := n2_
                have HB := n3_
                clear n0_ n1_ n2_ n3_
                refine start_ (n := 26) (S := fun w' => w'.cell? ⟨gb254, 0, none⟩ = some (.int .i64 ((rd_T52 l0_0 x46_3).f0)) ∧ w'.cell? ⟨gb254, 1, none⟩ = some (.int .i64 ((rd_T52 l0_0 x46_3).f1)) ∧ w'.cell? ⟨gb254, 2, none⟩ = some (.string ((rd_T52 l0_0 x46_3).f2)) ∧ w'.cell? ⟨gb254, 3, none⟩ = some (.bool ((rd_T52 l0_0 x46_3).f3)) ∧ w'.cell? ⟨gb254, 4, none⟩ = some (.int .i64 ((rd_T52 l0_0 x46_3).f4)) ∧ w'.cell? ⟨gb254, 5, none⟩ = some (.int .i64 ((rd_T52 l0_0 x46_3).f5)) ∧ w'.cell? ⟨gb254, 6, none⟩ = some (.int .i64 ((rd_T52 l0_0 x46_3).f6)) ∧ w'.cell? ⟨gb254, 7, none⟩ = some (.slice A253_7 ((rd_T52 l0_0 x46_3).f7).length c253_7) ∧ w'.cell? ⟨gb254, 8, none⟩ = some (.int .i64 ((rd_T52 l0_0 x46_3).f8))) (ds := []) #[O,O,O,O,O,O,O,O,O,O,O,O,O,O,O,O,O,O,O,O,O,O,O,O,O,O] (by kernel_rfl) rfl rfl ⟨(blk_cell BK254.out 0).trans rfl, (blk_cell BK254.out 1).trans rfl, (blk_cell BK254.out 2).trans rfl, (blk_cell BK254.out 3).trans rfl, (blk_cell BK254.out 4).trans rfl, (blk_cell BK254.out 5).trans rfl, (blk_cell BK254.out 6).trans rfl, (blk_cell BK254.out 7).trans rfl, (blk_cell BK254.out 8).trans rfl⟩ (fun hHeld => ?_); refine with_tabW impl_TreeOk.tab9 impl_TreeOk.bits9 (fun HT_ HW_ => ?_)
                generalize wk41.drew = w55 at BK249 BK252 BK254 HB hHeld ⊢
                refine tz 0 51 #[Y,O,O,O,O,O,O,O,O,O,O,O,O,O,O,O,O,O,O,O,O,O,O,O,O,O] HT_ HW_ hHeld ?_ (hr := by rintro w' ⟨s0, s1, s2, s3, s4, s5, s6, s7, s8⟩; go_simp; with_reducible rfl)
                refine one_ (i := 1) (N := some 52) #[Y,Y,O,O,O,O,O,O,O,O,O,O,O,O,O,O,O,O,O,O,O,O,O,O,O,O] rfl rfl (one_of HT_.out (by kernel_rfl)) (by decide) (fun K hK => ?_)
                refine goes_ Try.func42 (by kernel_rfl) rfl #[.agg #[.int .i64 ((rd_T52 l0_0 x46_3).f0), .int .i64 ((rd_T52 l0_0 x46_3).f1), .string ((rd_T52 l0_0 x46_3).f2), .bool ((rd_T52 l0_0 x46_3).f3), .int .i64 ((rd_T52 l0_0 x46_3).f4), .int .i64 ((rd_T52 l0_0 x46_3).f5), .int .i64 ((rd_T52 l0_0 x46_3).f6), .slice A253_7 ((rd_T52 l0_0 x46_3).f7).length c253_7, .int .i64 ((rd_T52 l0_0 x46_3).f8)]] (by rfl) rfl rfl (by (try simp only [List.map_toArray, List.map_cons, List.map_nil]); first | done | rfl | (simp only [List.length_drop, List.length_take]; rfl)) ?_
                with_reducible refine (impl_inodeOk.calls k3 ((rd_T52 l0_0 x46_3).f0) ((rd_T52 l0_0 x46_3).f1) ((rd_T52 l0_0 x46_3).f2) ((rd_T52 l0_0 x46_3).f3) ((rd_T52 l0_0 x46_3).f4) ((rd_T52 l0_0 x46_3).f5) ((rd_T52 l0_0 x46_3).f6) _ _ ((rd_T52 l0_0 x46_3).f7) ((rd_T52 l0_0 x46_3).f8) false _ ?side1 ?side2 A42.out).mono ?_
                (case side1 => exact pc (Kd.C_below HR253_7.out HB.out))
                (case side2 => exact HC253_7.out)
                rintro e w56 ⟨rfl, hb⟩
                refine ⟨_, rfl, ?_⟩
                have n0_ := Aside0.mk (pb BK249.out hb)
                have n1_ := Aside0.mk (pb BK252.out hb)
                have n2_ := Aside0.mk (pb BK254.out hb)
                have n3_ := Aside0.mk (below_step (pl3 HB.out GE249.out GE252.out GE254.out) hb)
                clear BK249
                clear BK252
                clear BK254
                clear HB
                have BK249 := n0_
                have BK252 := n1_
                have BK254 := n2_
                have HB := n3_
                clear n0_ n1_ n2_ n3_
                (try clear hb)
                (try clear hb2)
                (try clear hk)
                (try clear hi)
                refine hK.out _ _ ⟨(blk_cell BK254.out 0).trans rfl, (blk_cell BK254.out 1).trans rfl, (blk_cell BK254.out 2).trans rfl, (blk_cell BK254.out 3).trans rfl, (blk_cell BK254.out 4).trans rfl, (blk_cell BK254.out 5).trans rfl, (blk_cell BK254.out 6).trans rfl, (blk_cell BK254.out 7).trans rfl, (blk_cell BK254.out 8).trans rfl⟩ (fun hHeld => ?_)
                clear hK K
                refine norm_ (a' := ?_) ?_ ?_
                rotate_left
                ·show Act.put _ (some 52) _ = _
                 simp only [Act.put, List.setIfInBounds_toArray, List.set_cons_zero, List.set_cons_succ, i64_w, i32_w]
                 rfl
                refine pz 2 53 #[Y,Y,Y,O,O,O,O,O,O,O,O,O,O,O,O,O,O,O,O,O,O,O,O,O,O,O] HT_ ?_
                refine pz 3 54 #[Y,Y,Y,Y,O,O,O,O,O,O,O,O,O,O,O,O,O,O,O,O,O,O,O,O,O,O] HT_ ?_
                refine uz 4 55 #[Y,Y,Y,Y,Y,O,O,O,O,O,O,O,O,O,O,O,O,O,O,O,O,O,O,O,O,O] HT_ ?_
                refine uz 5 56 #[Y,Y,Y,Y,Y,Y,O,O,O,O,O,O,O,O,O,O,O,O,O,O,O,O,O,O,O,O] HT_ ?_
                refine uz 6 57 #[Y,Y,Y,Y,Y,Y,Y,O,O,O,O,O,O,O,O,O,O,O,O,O,O,O,O,O,O,O] HT_ ?_
                refine uz 7 58 #[Y,Y,Y,Y,Y,Y,Y,Y,O,O,O,O,O,O,O,O,O,O,O,O,O,O,O,O,O,O] HT_ ?_
                refine uz 8 59 #[Y,Y,Y,Y,Y,Y,Y,Y,Y,O,O,O,O,O,O,O,O,O,O,O,O,O,O,O,O,O] HT_ ?_
                refine pz 9 60 #[Y,Y,Y,Y,Y,Y,Y,Y,Y,Y,O,O,O,O,O,O,O,O,O,O,O,O,O,O,O,O] HT_ ?_
                refine pz 10 61 #[Y,Y,Y,Y,Y,Y,Y,Y,Y,Y,Y,O,O,O,O,O,O,O,O,O,O,O,O,O,O,O] HT_ ?_
                refine uz 11 62 #[Y,Y,Y,Y,Y,Y,Y,Y,Y,Y,Y,Y,O,O,O,O,O,O,O,O,O,O,O,O,O,O] HT_ ?_
                refine uz 12 63 #[Y,Y,Y,Y,Y,Y,Y,Y,Y,Y,Y,Y,Y,O,O,O,O,O,O,O,O,O,O,O,O,O] HT_ ?_
                refine uz 13 64 #[Y,Y,Y,Y,Y,Y,Y,Y,Y,Y,Y,Y,Y,Y,O,O,O,O,O,O,O,O,O,O,O,O] HT_ ?_
                refine uz 14 65 #[Y,Y,Y,Y,Y,Y,Y,Y,Y,Y,Y,Y,Y,Y,Y,O,O,O,O,O,O,O,O,O,O,O] HT_ ?_
                refine uz 15 66 #[Y,Y,Y,Y,Y,Y,Y,Y,Y,Y,Y,Y,Y,Y,Y,Y,O,O,O,O,O,O,O,O,O,O] HT_ ?_
                refine uz 16 67 #[Y,Y,Y,Y,Y,Y,Y,Y,Y,Y,Y,Y,Y,Y,Y,Y,Y,O,O,O,O,O,O,O,O,O] HT_ ?_
                refine uz 17 68 #[Y,Y,Y,Y,Y,Y,Y,Y,Y,Y,Y,Y,Y,Y,Y,Y,Y,Y,O,O,O,O,O,O,O,O] HT_ ?_
                refine uz 18 69 #[Y,Y,Y,Y,Y,Y,Y,Y,Y,Y,Y,Y,Y,Y,Y,Y,Y,Y,Y,O,O,O,O,O,O,O] HT_ ?_
                refine uz 19 70 #[Y,Y,Y,Y,Y,Y,Y,Y,Y,Y,Y,Y,Y,Y,Y,Y,Y,Y,Y,Y,O,O,O,O,O,O] HT_ ?_
                refine uz 20 71 #[Y,Y,Y,Y,Y,Y,Y,Y,Y,Y,Y,Y,Y,Y,Y,Y,Y,Y,Y,Y,Y,O,O,O,O,O] HT_ ?_
                refine uz 21 72 #[Y,Y,Y,Y,Y,Y,Y,Y,Y,Y,Y,Y,Y,Y,Y,Y,Y,Y,Y,Y,Y,Y,O,O,O,O] HT_ ?_
                refine uz 22 73 #[Y,Y,Y,Y,Y,Y,Y,Y,Y,Y,Y,Y,Y,Y,Y,Y,Y,Y,Y,Y,Y,Y,Y,O,O,O] HT_ ?_
                refine uz 23 74 #[Y,Y,Y,Y,Y,Y,Y,Y,Y,Y,Y,Y,Y,Y,Y,Y,Y,Y,Y,Y,Y,Y,Y,Y,O,O] HT_ ?_
                refine uz 24 75 #[Y,Y,Y,Y,Y,Y,Y,Y,Y,Y,Y,Y,Y,Y,Y,Y,Y,Y,Y,Y,Y,Y,Y,Y,Y,O] HT_ ?_
                refine pz 25 76 #[Y,Y,Y,Y,Y,Y,Y,Y,Y,Y,Y,Y,Y,Y,Y,Y,Y,Y,Y,Y,Y,Y,Y,Y,Y,Y] HT_ ?_
                refine done_ (done_of HT_.out (by kernel_rfl)) ?_
                try go_wp2
                go_meet
                case rel => exact ⟨_, (true), eqa, H', ⟨by have := HJ1.out; have := HJ9.out; have := HK3.out; first | omega | exact Nat.le_refl _⟩, ⟨pk BK249.out⟩, ⟨pk BK252.out⟩, ⟨pk BK254.out⟩, ⟨pl3 HB.out GE249.out GE252.out GE254.out⟩⟩
              case rest =>
               clear HC36
               obtain ⟨kq, x76_35, rfl, HA, HJ35, BK249, BK252, BK254, HB⟩ := hcut
               cases kq with
               | zero => exact absurd HA.out (by simp [impl_TreeOk.j3])
               | succ kj35 =>
                have H := HA.out
                clear HA
                simp only [impl_TreeOk.j3] at H
                by_cases c57 : x76_35 = true
                ·subst c57
                 have H1 : (some false) = some r := by rw [if_pos rfl] at H; exact H
                 clear H
                 have H := H1
                 clear H1
                 obtain rfl := Option.some.inj H
                 go_wp2
                 go_ret
                 exact ⟨erq, pl3 HB.out GE249.out GE252.out GE254.out⟩
                ·replace c57 := Bool.eq_false_iff.mpr c57
                 subst c57
                 have H1 : (if x46_3 > 0 then ((impl_NameOk.f kj35 ((rd_T52 l0_0 x46_3).f2)).bind fun t257 => (if t257 = true then ((impl_reaches.f kj35 l0_0 a0_1 ((rd_T52 l0_0 x46_3).f0) ((rd_T52 l0_0 x46_3).f1) ((rd_T52 l0_0 x46_3).f2) ((rd_T52 l0_0 x46_3).f3) ((rd_T52 l0_0 x46_3).f4) ((rd_T52 l0_0 x46_3).f5) ((rd_T52 l0_0 x46_3).f6) ((rd_T52 l0_0 x46_3).f7) ((rd_T52 l0_0 x46_3).f8)).bind fun t258 => (impl_TreeOk.j4 kj35 x46_3 l0_0 (l0_0.length : Int) x46_3 (!t258) l0_0 a0_1 ((rd_T52 l0_0 x46_3).f0) ((rd_T52 l0_0 x46_3).f1) ((rd_T52 l0_0 x46_3).f2) ((rd_T52 l0_0 x46_3).f3) ((rd_T52 l0_0 x46_3).f4) ((rd_T52 l0_0 x46_3).f5) ((rd_T52 l0_0 x46_3).f6) ((rd_T52 l0_0 x46_3).f7) ((rd_T52 l0_0 x46_3).f8))) else (impl_TreeOk.j4 kj35 x46_3 l0_0 (l0_0.length : Int) x46_3 true l0_0 a0_1 ((rd_T52 l0_0 x46_3).f0) ((rd_T52 l0_0 x46_3).f1) ((rd_T52 l0_0 x46_3).f2) ((rd_T52 l0_0 x46_3).f3) ((rd_T52 l0_0 x46_3).f4) ((rd_T52 l0_0 x46_3).f5) ((rd_T52 l0_0 x46_3).f6) ((rd_T52 l0_0 x46_3).f7) ((rd_T52 l0_0 x46_3).f8)))) else (impl_TreeOk.j4 kj35 x46_3 l0_0 (l0_0.length : Int) x46_3 false l0_0 a0_1 ((rd_T52 l0_0 x46_3).f0) ((rd_T52 l0_0 x46_3).f1) ((rd_T52 l0_0 x46_3).f2) ((rd_T52 l0_0 x46_3).f3) ((rd_T52 l0_0 x46_3).f4) ((rd_T52 l0_0 x46_3).f5) ((rd_T52 l0_0 x46_3).f6) ((rd_T52 l0_0 x46_3).f7) ((rd_T52 l0_0 x46_3).f8))) = some r := by rw [if_neg (show ¬ (false = true) by decide)] at H; exact H
                 clear H
                 have H := H1
                 clear H1
                 have HC58 := Aside0.mk H
                 clear H
                 go_upto_region 11 with (fail)
                 go_cut [90] (fun v90 wc => ∃ (kq : Nat) (x90_57 : Bool), v90 = .bool x90_57 ∧ Aside0 (impl_TreeOk.j4 kq x46_3 l0_0 (l0_0.length : Int) x46_3 x90_57 l0_0 a0_1 ((rd_T52 l0_0 x46_3).f0) ((rd_T52 l0_0 x46_3).f1) ((rd_T52 l0_0 x46_3).f2) ((rd_T52 l0_0 x46_3).f3) ((rd_T52 l0_0 x46_3).f4) ((rd_T52 l0_0 x46_3).f5) ((rd_T52 l0_0 x46_3).f6) ((rd_T52 l0_0 x46_3).f7) ((rd_T52 l0_0 x46_3).f8) = some r) ∧ Aside0 (kq ≤ kj35) ∧ Aside0 (wc.heap[gb249]? = some (.cells #[(.slice (some ad251) l0_0.length c0_0), .int .i64 a0_1] 29 (0, 0))) ∧ Aside0 (wc.heap[gb252]? = some (.cells #[.int .i64 ((rd_T52 l0_0 0).f0), .int .i64 ((rd_T52 l0_0 0).f1), .string ((rd_T52 l0_0 0).f2), .bool ((rd_T52 l0_0 0).f3), .int .i64 ((rd_T52 l0_0 0).f4), .int .i64 ((rd_T52 l0_0 0).f5), .int .i64 ((rd_T52 l0_0 0).f6), (.slice A251_7 ((rd_T52 l0_0 0).f7).length c251_7), .int .i64 ((rd_T52 l0_0 0).f8)] 52 (0, 0))) ∧ Aside0 (wc.heap[gb254]? = some (.cells #[.int .i64 ((rd_T52 l0_0 x46_3).f0), .int .i64 ((rd_T52 l0_0 x46_3).f1), .string ((rd_T52 l0_0 x46_3).f2), .bool ((rd_T52 l0_0 x46_3).f3), .int .i64 ((rd_T52 l0_0 x46_3).f4), .int .i64 ((rd_T52 l0_0 x46_3).f5), .int .i64 ((rd_T52 l0_0 x46_3).f6), (.slice A253_7 ((rd_T52 l0_0 x46_3).f7).length c253_7), .int .i64 ((rd_T52 l0_0 x46_3).f8)] 52 (0, 0))) ∧ Aside0 (Below w.heap.size w wc))
                 case first =>
                  have H := HC58.out
                  clear HC58
                  by_cases c59 : x46_3 > 0
                  ·rw [if_pos c59] at H
                   have c59b0 : decide (0 < x46_3) = true := decide_eq_true c59
                   clear c59
                   (first | rw [c59b0] | (simp only [i64_w, i32_w]; rw [c59b0]) | skip)
                   replace H := Option.bind_eq_some_iff.mp H
                   obtain ⟨t257, A600, H⟩ := H
                   replace H : (if t257 = true then ((impl_reaches.f kj35 l0_0 a0_1 ((rd_T52 l0_0 x46_3).f0) ((rd_T52 l0_0 x46_3).f1) ((rd_T52 l0_0 x46_3).f2) ((rd_T52 l0_0 x46_3).f3) ((rd_T52 l0_0 x46_3).f4) ((rd_T52 l0_0 x46_3).f5) ((rd_T52 l0_0 x46_3).f6) ((rd_T52 l0_0 x46_3).f7) ((rd_T52 l0_0 x46_3).f8)).bind fun t258 => (impl_TreeOk.j4 kj35 x46_3 l0_0 (l0_0.length : Int) x46_3 (!t258) l0_0 a0_1 ((rd_T52 l0_0 x46_3).f0) ((rd_T52 l0_0 x46_3).f1) ((rd_T52 l0_0 x46_3).f2) ((rd_T52 l0_0 x46_3).f3) ((rd_T52 l0_0 x46_3).f4) ((rd_T52 l0_0 x46_3).f5) ((rd_T52 l0_0 x46_3).f6) ((rd_T52 l0_0 x46_3).f7) ((rd_T52 l0_0 x46_3).f8))) else (impl_TreeOk.j4 kj35 x46_3 l0_0 (l0_0.length : Int) x46_3 true l0_0 a0_1 ((rd_T52 l0_0 x46_3).f0) ((rd_T52 l0_0 x46_3).f1) ((rd_T52 l0_0 x46_3).f2) ((rd_T52 l0_0 x46_3).f3) ((rd_T52 l0_0 x46_3).f4) ((rd_T52 l0_0 x46_3).f5) ((rd_T52 l0_0 x46_3).f6) ((rd_T52 l0_0 x46_3).f7) ((rd_T52 l0_0 x46_3).f8))) = some r := H
                   have A60 := Aside0.mk A600
                   clear A600
                   by_cases c61 : t257 = true
                   ·subst c61
                    have H1 : ((impl_reaches.f kj35 l0_0 a0_1 ((rd_T52 l0_0 x46_3).f0) ((rd_T52 l0_0 x46_3).f1) ((rd_T52 l0_0 x46_3).f2) ((rd_T52 l0_0 x46_3).f3) ((rd_T52 l0_0 x46_3).f4) ((rd_T52 l0_0 x46_3).f5) ((rd_T52 l0_0 x46_3).f6) ((rd_T52 l0_0 x46_3).f7) ((rd_T52 l0_0 x46_3).f8)).bind fun t258 => (impl_TreeOk.j4 kj35 x46_3 l0_0 (l0_0.length : Int) x46_3 (!t258) l0_0 a0_1 ((rd_T52 l0_0 x46_3).f0) ((rd_T52 l0_0 x46_3).f1) ((rd_T52 l0_0 x46_3).f2) ((rd_T52 l0_0 x46_3).f3) ((rd_T52 l0_0 x46_3).f4) ((rd_T52 l0_0 x46_3).f5) ((rd_T52 l0_0 x46_3).f6) ((rd_T52 l0_0 x46_3).f7) ((rd_T52 l0_0 x46_3).f8))) = some r := by rw [if_pos rfl] at H; exact H
                    clear H
                    have H := H1
                    clear H1
                    replace H := Option.bind_eq_some_iff.mp H
                    obtain ⟨t258, A620, H⟩ := H
                    replace H : (impl_TreeOk.j4 kj35 x46_3 l0_0 (l0_0.length : Int) x46_3 (!t258) l0_0 a0_1 ((rd_T52 l0_0 x46_3).f0) ((rd_T52 l0_0 x46_3).f1) ((rd_T52 l0_0 x46_3).f2) ((rd_T52 l0_0 x46_3).f3) ((rd_T52 l0_0 x46_3).f4) ((rd_T52 l0_0 x46_3).f5) ((rd_T52 l0_0 x46_3).f6) ((rd_T52 l0_0 x46_3).f7) ((rd_T52 l0_0 x46_3).f8)) = some r := H
                    have A62 := Aside0.mk A620
                    clear A620
                    have H' := Aside0.mk H
                    clear H
                    have hnb63 := NB254_249.out
                    have hnc63 := NB249_254.out
                    have hnb64 := NB254_252.out
                    have hnc64 := NB252_254.out
                    obtain ⟨hcz65_0, hcz65_1, hcz65_2, hcz65_3, hcz65_4, hcz65_5, hcz65_6, hcz65_7, hcz65_8, hfz65_0, hfz65_1, hfz65_2, hfz65_3, hfz65_4, hfz65_5, hfz65_6, hfz65_7, hfz65_8⟩ := z9 BK254.out
                    go_wp2_with (first | (go_at_call 43; (with_reducible refine (impl_NameOk.calls kj35 ((rd_T52 l0_0 x46_3).f2) true _ A60.out).mono ?_); rintro e w' ⟨rfl, ⟨nd, rfl⟩⟩; have hnb66 := NB249_252.out; have hnc66 := NB252_249.out; have hcz67_0 : wc.cell? ⟨gb249, 0, none⟩ = some (.slice (some ad251) l0_0.length c0_0) := (blk_cell BK249.out 0).trans rfl; have hcz67_1 : wc.cell? ⟨gb249, 1, none⟩ = some (.int .i64 a0_1) := (blk_cell BK249.out 1).trans rfl; have hfz67_0 := blk_frozen BK249.out 0; have hfz67_1 := blk_frozen BK249.out 1) | (go_at_call 44; (try refine calls_of_args (args' := #[.agg #[.slice (some ad251) l0_0.length c0_0, .int .i64 a0_1], .agg #[.int .i64 ((rd_T52 l0_0 x46_3).f0), .int .i64 ((rd_T52 l0_0 x46_3).f1), .string ((rd_T52 l0_0 x46_3).f2), .bool ((rd_T52 l0_0 x46_3).f3), .int .i64 ((rd_T52 l0_0 x46_3).f4), .int .i64 ((rd_T52 l0_0 x46_3).f5), .int .i64 ((rd_T52 l0_0 x46_3).f6), .slice A253_7 ((rd_T52 l0_0 x46_3).f7).length c253_7, .int .i64 ((rd_T52 l0_0 x46_3).f8)]]) (by first | rfl | (simp [*]; done)) ?_); (with_reducible refine (impl_reaches.calls kj35 (fun k_ => k_ < w.heap.size) _ _ l0_0 a0_1 ((rd_T52 l0_0 x46_3).f0) ((rd_T52 l0_0 x46_3).f1) ((rd_T52 l0_0 x46_3).f2) ((rd_T52 l0_0 x46_3).f3) ((rd_T52 l0_0 x46_3).f4) ((rd_T52 l0_0 x46_3).f5) ((rd_T52 l0_0 x46_3).f6) (fun k_ => k_ < w.heap.size) _ _ ((rd_T52 l0_0 x46_3).f7) ((rd_T52 l0_0 x46_3).f8) t258 _ ?side1 ?side2 A62.out).mono ?_); (case side1 => exact Kd.V_mk HC0_0.out (Kd.F_below (Kd.C_F k52_heap HR0_0.out) (pl3 HB.out GE249.out GE252.out GE254.out))); (case side2 => exact Kd.V_mk HC253_7.out (Kd.F_below (Kd.C_F k64_heap HR253_7.out) (pl3 HB.out GE249.out GE252.out GE254.out))); rintro e w68 ⟨rfl, hb⟩; have n0_ := Aside0.mk (pb BK249.out hb); have n1_ := Aside0.mk (pb BK252.out hb); have n2_ := Aside0.mk (pb BK254.out hb); have n3_ := Aside0.mk (below_step (pl3 HB.out GE249.out GE252.out GE254.out) hb); clear BK249; clear BK252; clear BK254; clear HB; have BK249 := n0_; have BK252 := n1_; have BK254 := n2_; have HB := n3_; clear n0_ n1_ n2_ n3_; (try clear hb); (try clear hb2); (try clear hk); (try clear hi)))
                    go_meet
                    case rel => exact ⟨_, (!t258), eqa, H', ⟨by have := HJ1.out; have := HJ9.out; have := HK3.out; have := HJ35.out; first | omega | exact Nat.le_refl _⟩, ⟨pk BK249.out⟩, ⟨pk BK252.out⟩, ⟨pk BK254.out⟩, ⟨pl3 HB.out GE249.out GE252.out GE254.out⟩⟩
                   ·replace c61 := Bool.eq_false_iff.mpr c61
                    subst c61
                    have H1 : (impl_TreeOk.j4 kj35 x46_3 l0_0 (l0_0.length : Int) x46_3 true l0_0 a0_1 ((rd_T52 l0_0 x46_3).f0) ((rd_T52 l0_0 x46_3).f1) ((rd_T52 l0_0 x46_3).f2) ((rd_T52 l0_0 x46_3).f3) ((rd_T52 l0_0 x46_3).f4) ((rd_T52 l0_0 x46_3).f5) ((rd_T52 l0_0 x46_3).f6) ((rd_T52 l0_0 x46_3).f7) ((rd_T52 l0_0 x46_3).f8)) = some r := by rw [if_neg (show ¬ (false = true) by decide)] at H; exact H
                    clear H
                    have H := H1
                    clear H1
                    have H' := Aside0.mk H
                    clear H
                    have hnb69 := NB254_249.out
                    have hnc69 := NB249_254.out
                    have hnb70 := NB254_252.out
                    have hnc70 := NB252_254.out
                    obtain ⟨hcz71_0, hcz71_1, hcz71_2, hcz71_3, hcz71_4, hcz71_5, hcz71_6, hcz71_7, hcz71_8, hfz71_0, hfz71_1, hfz71_2, hfz71_3, hfz71_4, hfz71_5, hfz71_6, hfz71_7, hfz71_8⟩ := z9 BK254.out
                    go_wp2_with (first | (go_at_call 43; (with_reducible refine (impl_NameOk.calls kj35 ((rd_T52 l0_0 x46_3).f2) false _ A60.out).mono ?_); rintro e w' ⟨rfl, ⟨nd, rfl⟩⟩))
                    go_meet
                    case rel => exact ⟨_, (true), eqa, H', ⟨by have := HJ1.out; have := HJ9.out; have := HK3.out; have := HJ35.out; first | omega | exact Nat.le_refl _⟩, ⟨pk BK249.out⟩, ⟨pk BK252.out⟩, ⟨pk BK254.out⟩, ⟨pl3 HB.out GE249.out GE252.out GE254.out⟩⟩
                  ·rw [if_neg c59] at H
                   have c59b0 : decide (0 < x46_3) = false := decide_eq_false c59
                   clear c59
                   (first | rw [c59b0] | (simp only [i64_w, i32_w]; rw [c59b0]) | skip)
                   have H' := Aside0.mk H
                   clear H
                   go_wp2
                   go_meet
                   case rel => exact ⟨_, (false), eqa, H', ⟨by have := HJ1.out; have := HJ9.out; have := HK3.out; have := HJ35.out; first | omega | exact Nat.le_refl _⟩, ⟨pk BK249.out⟩, ⟨pk BK252.out⟩, ⟨pk BK254.out⟩, ⟨pl3 HB.out GE249.out GE252.out GE254.out⟩⟩
                 case rest =>
                  clear HC58
                  try clear c57
                  obtain ⟨kq, x90_57, rfl, HA, HJ57, BK249, BK252, BK254, HB⟩ := hcut
                  cases kq with
                  | zero => exact absurd HA.out (by simp [impl_TreeOk.j4])
                  | succ kj57 =>
                   have H := HA.out
                   clear HA
                   simp only [impl_TreeOk.j4] at H
                   by_cases c72 : x90_57 = true
                   ·subst c72
                    have H1 : (some false) = some r := by rw [if_pos rfl] at H; exact H
                    clear H
                    have H := H1
                    clear H1
                    obtain rfl := Option.some.inj H
                    go_wp2
                    go_ret
                    exact ⟨erq, pl3 HB.out GE249.out GE252.out GE254.out⟩
                   ·replace c72 := Bool.eq_false_iff.mpr c72
                    subst c72
                    have H1 : (if 0 ≤ x46_3 then (if x46_3 ≤ (l0_0.length : Int) then ((impl_dupI.f (l0_0.take (x46_3 : Int).toNat) ((rd_T52 l0_0 x46_3).f1) ((rd_T52 l0_0 x46_3).f2)).bind fun t263 => (if t263 = true then (some false) else (impl_TreeOk.l0 kj57 l0_0 (l0_0.length : Int) (wrap64 (x46_3 + 1)) l0_0 a0_1))) else (none)) else (none)) = some r := by rw [if_neg (show ¬ (false = true) by decide)] at H; exact H
                    clear H
                    have H := H1
                    clear H1
                    by_cases c73 : 0 ≤ x46_3
                    ·rw [if_pos c73] at H
                     have c73b0 := eq_true c73
                     have c73b1 : decide (0 ≤ x46_3) = true := decide_eq_true c73
                     clear c73
                     by_cases c74 : x46_3 ≤ (l0_0.length : Int)
                     ·rw [if_pos c74] at H
                      have c74b0 := eq_true c74
                      have c74b1 : decide (x46_3 ≤ (l0_0.length : Int)) = true := decide_eq_true c74
                      clear c74
                      obtain ⟨y259, hy259⟩ : ∃ y_ : List (S52), y_ = (l0_0.take (x46_3 : Int).toNat) := ⟨_, rfl⟩
                      replace H : ((impl_dupI.f y259 ((rd_T52 l0_0 x46_3).f1) ((rd_T52 l0_0 x46_3).f2)).bind fun t263 => (if t263 = true then (some false) else (impl_TreeOk.l0 kj57 l0_0 (l0_0.length : Int) (wrap64 (x46_3 + 1)) l0_0 a0_1))) = some r := by first | (rw [hy259]; with_reducible exact H) | (have H2_ := (Option.bind_some _ _).symm.trans H; rw [hy259]; with_reducible exact H2_) | (have H2_ := (Option.bind_some _ _).symm.trans H; with_reducible exact H2_) | with_reducible exact H | (rw [hy259]; exact H) | exact H
                      have Ny259 := Aside0.mk hy259
                      clear hy259
                      replace H := Option.bind_eq_some_iff.mp H
                      obtain ⟨t263, A750, H⟩ := H
                      replace H : (if t263 = true then (some false) else (impl_TreeOk.l0 kj57 l0_0 (l0_0.length : Int) (wrap64 (x46_3 + 1)) l0_0 a0_1)) = some r := H
                      have A75 := Aside0.mk A750
                      clear A750
                      by_cases c76 : t263 = true
                      ·subst c76
                       have H1 : (some false) = some r := by rw [if_pos rfl] at H; exact H
                       clear H
                       have H := H1
                       clear H1
                       obtain rfl := Option.some.inj H
                       have hnb77 := NB249_252.out
                       have hnc77 := NB252_249.out
                       have hnb78 := NB249_254.out
                       have hnc78 := NB254_249.out
                       obtain ⟨hcz79_0, hcz79_1, hfz79_0, hfz79_1⟩ := z2 BK249.out
                       have q80 : (x46_3 : Int) ≤ ((l0_0.length : Int) : Int) := oda
                       obtain ⟨i080, hi080, _, hsz80, _⟩ := info_parts info52
                       have hroom80 : l0_0.length ≤ c0_0 := HC0_0.out
                       have hC80 : Kd.C k52 _ (some ad251) l0_0.length l0_0 := HR0_0.out
                       have hcut80 := cut_to (P := Try.prog) 27 52 .i64 Try.underlying27 hi080 (some ad251) l0_0.length c0_0 x46_3 (of_decide_eq_true (by first | (with_reducible assumption) | assumption)) q80 hroom80
                       have hr80 := Kd.C_take (m := (x46_3 : Int).toNat) hC80 (by omega)
                       have hy80 : y259.length = (x46_3 : Int).toNat := (by rw [Ny259.out, List.length_take]; omega)
                       rw [← Ny259.out] at hr80
                       rw [← hy80] at hcut80
                       have HR262 := Aside0.mk hr80
                       have HC262 := Aside0.mk (show y259.length ≤ c0_0 from by omega)
                       clear hr80 hC80 hroom80 hi080 hsz80
                       have KY80 := Aside0.mk hy80
                       clear hy80
                       replace q80 := eq_true q80
                       go_wp2_with (first | ((with_reducible refine gate_callee (f := 45) rfl ?_); refine goesL_ (some 96) rfl rfl Try.func45 (by kernel_rfl) rfl #[.slice (some ad251) y259.length c0_0, .func (.func 46) #[] #[.pointer (some ⟨gb254, 0, none⟩)]] rfl (by (try simp only [List.map_toArray, List.map_cons, List.map_nil]); first | done | rfl | (simp only [List.length_drop, List.length_take]; rfl)) ?_; (with_reducible refine (impl_dupI.calls _ _ y259 ((rd_T52 l0_0 x46_3).f1) ((rd_T52 l0_0 x46_3).f2) true _ ?side1 ?side2 ?side3 ?side4 A75.out).mono ?_); (case side1 => exact pc (Kd.C_below HR262.out HB.out)); (case side2 => exact HC262.out); (case side3 => exact (blk_cell BK254.out 1).trans rfl); (case side4 => exact (blk_cell BK254.out 2).trans rfl); rintro e w81 ⟨rfl, hb⟩; refine ⟨_, rfl, ?_⟩; have n0_ := Aside0.mk (pb BK249.out hb); have n1_ := Aside0.mk (pb BK252.out hb); have n2_ := Aside0.mk (pb BK254.out hb); have n3_ := Aside0.mk (below_step (pl3 HB.out GE249.out GE252.out GE254.out) hb); clear BK249; clear BK252; clear BK254; clear HB; have BK249 := n0_; have BK252 := n1_; have BK254 := n2_; have HB := n3_; clear n0_ n1_ n2_ n3_; (try clear hb); (try clear hb2); (try clear hk); (try clear hi)))
                       go_ret
                       exact ⟨erq, pl3 HB.out GE249.out GE252.out GE254.out⟩
                      ·replace c76 := Bool.eq_false_iff.mpr c76
                       subst c76
                       have H1 : (impl_TreeOk.l0 kj57 l0_0 (l0_0.length : Int) (wrap64 (x46_3 + 1)) l0_0 a0_1) = some r := by rw [if_neg (show ¬ (false = true) by decide)] at H; exact H
                       clear H
                       have H := H1
                       clear H1
                       have H' := Aside0.mk H
                       clear H
                       have hnb82 := NB249_252.out
                       have hnc82 := NB252_249.out
                       have hnb83 := NB249_254.out
                       have hnc83 := NB254_249.out
                       obtain ⟨hcz84_0, hcz84_1, hfz84_0, hfz84_1⟩ := z2 BK249.out
                       have q85 : (x46_3 : Int) ≤ ((l0_0.length : Int) : Int) := oda
                       obtain ⟨i085, hi085, _, hsz85, _⟩ := info_parts info52
                       have hroom85 : l0_0.length ≤ c0_0 := HC0_0.out
                       have hC85 : Kd.C k52 _ (some ad251) l0_0.length l0_0 := HR0_0.out
                       have hcut85 := cut_to (P := Try.prog) 27 52 .i64 Try.underlying27 hi085 (some ad251) l0_0.length c0_0 x46_3 (of_decide_eq_true (by first | (with_reducible assumption) | assumption)) q85 hroom85
                       have hr85 := Kd.C_take (m := (x46_3 : Int).toNat) hC85 (by omega)
                       have hy85 : y259.length = (x46_3 : Int).toNat := (by rw [Ny259.out, List.length_take]; omega)
                       rw [← Ny259.out] at hr85
                       rw [← hy85] at hcut85
                       have HR262 := Aside0.mk hr85
                       have HC262 := Aside0.mk (show y259.length ≤ c0_0 from by omega)
                       clear hr85 hC85 hroom85 hi085 hsz85
                       have KY85 := Aside0.mk hy85
                       clear hy85
                       replace q85 := eq_true q85
                       go_wp2_with (first | ((with_reducible refine gate_callee (f := 45) rfl ?_); refine goesL_ (some 96) rfl rfl Try.func45 (by kernel_rfl) rfl #[.slice (some ad251) y259.length c0_0, .func (.func 46) #[] #[.pointer (some ⟨gb254, 0, none⟩)]] rfl (by (try simp only [List.map_toArray, List.map_cons, List.map_nil]); first | done | rfl | (simp only [List.length_drop, List.length_take]; rfl)) ?_; (with_reducible refine (impl_dupI.calls _ _ y259 ((rd_T52 l0_0 x46_3).f1) ((rd_T52 l0_0 x46_3).f2) false _ ?side1 ?side2 ?side3 ?side4 A75.out).mono ?_); (case side1 => exact pc (Kd.C_below HR262.out HB.out)); (case side2 => exact HC262.out); (case side3 => exact (blk_cell BK254.out 1).trans rfl); (case side4 => exact (blk_cell BK254.out 2).trans rfl); rintro e w86 ⟨rfl, hb⟩; refine ⟨_, rfl, ?_⟩; have n0_ := Aside0.mk (pb BK249.out hb); have n1_ := Aside0.mk (pb BK252.out hb); have n2_ := Aside0.mk (pb BK254.out hb); have n3_ := Aside0.mk (below_step (pl3 HB.out GE249.out GE252.out GE254.out) hb); clear BK249; clear BK252; clear BK254; clear HB; have BK249 := n0_; have BK252 := n1_; have BK254 := n2_; have HB := n3_; clear n0_ n1_ n2_ n3_; (try clear hb); (try clear hb2); (try clear hk); (try clear hi)))
                       go_roundg kj57
                       case measure => have := HJ1.out; have := HJ9.out; have := HK3.out; have := HJ35.out; have := HJ57.out; omega
                       case rel => exact ⟨(wrap64 (x46_3 + 1)), eqa, H', ⟨by have := HJ1.out; have := HJ9.out; have := HK3.out; have := HJ35.out; have := HJ57.out; omega⟩, ⟨pk BK249.out⟩, ⟨pk BK252.out⟩, ⟨pl3 HB.out GE249.out GE252.out GE254.out⟩⟩
                     ·rw [if_neg c74] at H
                      exact absurd H (by simp)
                    ·rw [if_neg c73] at H
                     exact absurd H (by simp)
             ·rw [if_neg c35] at H
              exact absurd H (by simp)
            ·rw [if_neg c34] at H
             exact absurd H (by simp)
           ·rw [if_neg c33] at H
            have c33b0 : decide (x46_3 < (l0_0.length : Int)) = false := decide_eq_false c33
            clear c33
            obtain rfl := Option.some.inj H
            go_wp2
            go_ret
            exact ⟨erq, pl2 HB.out GE249.out GE252.out⟩
     ·rw [if_neg c9] at H
      exact absurd H (by simp)

end Go.Proofs.Ytnhbfbgflgplcaa.QTW
