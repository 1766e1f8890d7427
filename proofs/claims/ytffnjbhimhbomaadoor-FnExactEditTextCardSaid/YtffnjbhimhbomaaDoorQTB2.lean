/- Walks, as the kit's print writes them, run with stubs of my own and mended: TB. -/
import Derived.Test.YtffnjbhimhbomaaDoorQTB0
import Derived.Test.YtffnjbhimhbomaaDoorQTB1
import Derived.Test.YtffnjbhimhbomaaDoorQTA1
namespace Go.Proofs.YtffnjbhimhbomaaDoor.QTB
open Go.Proofs.YtffnjbhimhbomaaDoor.QTA
open Go.Proofs.YtffnjbhimhbomaaDoorW Go.Proofs.YtffnjbhimhbomaaDoorW.Zip
open Go.RowKit Go.Proofs.YtffnjbhimhbomaaDoorW.PrintWords Go.Proofs.YtffnjbhimhbomaaDoorW.PrintLast Go.Proofs.YtffnjbhimhbomaaDoorW.PrintMore
attribute [local go_sem] max2_int min2_int max_two min_two max_three min_three max_four min_four   -- for this text's walks alone
set_option linter.unusedVariables false
set_option linter.unusedSimpArgs false

/-! ### laws_FnExactParentPath: function 4 -/
def laws_FnExactParentPath.f (k : Nat) (a0 : ByteArray) : Option (Bool) := if (a0.size : Int) > 1048576 then (some true) else ((spec_ParentPath.f k a0).bind fun bt151 => ((impl_ParentPath.f k a0).bind fun bt154 => (if bt154.1.toList = bt151.1.toList then (if bt154.2.1.toList = bt151.2.1.toList then (if (bt154.2.2 != bt151.2.2) = true then (some false) else (some true)) else (some false)) else (some false))))
theorem laws_FnExactParentPath.mono : ∀ a0 k, LeO (laws_FnExactParentPath.f k a0) (laws_FnExactParentPath.f (k + 1) a0) := by
  intro a0 k
  unfold laws_FnExactParentPath.f
  repeat' first
      | (with_reducible exact impl_ParentPath.mono _ _)
      | (with_reducible exact spec_ParentPath.mono _ _)
      | (with_reducible exact LeO.refl _)
      | (with_reducible exact LeO.none _)
      | (with_reducible refine LeO.ite ?_ ?_)
      | (with_reducible refine LeO.bind ?_ (fun _ => ?_))
      | exact impl_ParentPath.mono _ _
      | exact spec_ParentPath.mono _ _
      | exact LeO.none _
      | refine LeO.ite ?_ ?_
      | refine LeO.bind ?_ (fun _ => ?_)
set_option maxHeartbeats 8000000 in
set_option maxRecDepth 100000 in
theorem laws_FnExactParentPath.calls (k : Nat) (a0 : ByteArray) (r : Bool) (w : World) (h : laws_FnExactParentPath.f k a0 = some r) (hg : MG w) :
    Calls Tryd.prog 4 #[.string a0] w fun e w' => e = .returned (.bool r) ∧ Below w.heap.size w w' := by
  have HG := Aside0.mk hg
  clear hg
  have HB := Aside0.mk (Below.refl w.heap.size w)
  have H : (if (a0.size : Int) > 1048576 then (some true) else ((spec_ParentPath.f k a0).bind fun bt151 => ((impl_ParentPath.f k a0).bind fun bt154 => (if bt154.1.toList = bt151.1.toList then (if bt154.2.1.toList = bt151.2.1.toList then (if (bt154.2.2 != bt151.2.2) = true then (some false) else (some true)) else (some false)) else (some false))))) = some r := h
  clear h
  by_cases c2 : (a0.size : Int) > 1048576
  ·rw [if_pos c2] at H
   have c2b0 : decide (1048576 < (a0.size : Int)) = true := decide_eq_true c2
   have c2b1 : decide (1048576 < a0.size) = true := decide_eq_true (by omega)
   clear c2
   obtain rfl := Option.some.inj H
   go_enter Tryd.func4, Tryd.ntmps4
   go_wp2
   go_ret
   exact ⟨erq, pl0 HB.out⟩
  ·rw [if_neg c2] at H
   have c2b0 : decide (1048576 < (a0.size : Int)) = false := decide_eq_false c2
   have c2b1 : decide (1048576 < a0.size) = false := decide_eq_false (by omega)
   clear c2
   replace H := Option.bind_eq_some_iff.mp H
   obtain ⟨⟨t151, t152, t153⟩, A30, H⟩ := H
   replace H : ((impl_ParentPath.f k a0).bind fun bt154 => (if bt154.1.toList = t151.toList then (if bt154.2.1.toList = t152.toList then (if (bt154.2.2 != t153) = true then (some false) else (some true)) else (some false)) else (some false))) = some r := H
   have A3 := Aside0.mk A30
   clear A30
   replace H := Option.bind_eq_some_iff.mp H
   obtain ⟨⟨t154, t155, t156⟩, A40, H⟩ := H
   replace H : (if t154.toList = t151.toList then (if t155.toList = t152.toList then (if (t156 != t153) = true then (some false) else (some true)) else (some false)) else (some false)) = some r := H
   have A4 := Aside0.mk A40
   clear A40
   by_cases c5 : t154.toList = t151.toList
   ·rw [if_pos c5] at H
    have c5b0 : (t154.toList == t151.toList) = true := beq_iff_eq.mpr c5
    have c5b1 : (t154.toList != t151.toList) = false := bne_eq_false_iff_eq.mpr c5
    clear c5
    by_cases c6 : t155.toList = t152.toList
    ·rw [if_pos c6] at H
     have c6b0 : (t155.toList == t152.toList) = true := beq_iff_eq.mpr c6
     have c6b1 : (t155.toList != t152.toList) = false := bne_eq_false_iff_eq.mpr c6
     clear c6
     by_cases c7 : (t156 != t153) = true
     ·rw [if_pos c7] at H
      have c7b0 : (t156 != t153) = true := c7
      (try (have c7b1 : decide (t156 = t153) = false := by simpa using c7))
      (try (have c7b2 : (t156 == t153) = false := by simpa using c7))
      (try (have c7b3 : ¬ (t156 = t153) := by simpa using c7))
      clear c7
      obtain rfl := Option.some.inj H
      go_enter Tryd.func4, Tryd.ntmps4
      go_wp2_with (first | ((with_reducible refine gate_callee (f := 15) rfl ?_); refine goesL_ (some 14) rfl rfl Tryd.func15 (by kernel_rfl) rfl #[.string a0] rfl (by (try simp only [List.map_toArray, List.map_cons, List.map_nil]); first | done | rfl | (simp only [List.length_drop, List.length_take]; rfl)) ?_; (with_reducible refine (spec_ParentPath.calls k a0 t151 t152 t153 _ A3.out).mono ?_); rintro e w8 ⟨rfl, hb⟩; refine ⟨_, rfl, ?_⟩; have n0_ := Aside0.mk (below_step (pl0 HB.out) hb); clear HB; have HB := n0_; clear n0_; (try clear hb); (try clear hb2); (try clear hk); (try clear hi)) | ((with_reducible refine gate_callee (f := 16) rfl ?_); refine goesL_ (some 20) rfl rfl Tryd.func16 (by kernel_rfl) rfl #[.string a0] rfl (by (try simp only [List.map_toArray, List.map_cons, List.map_nil]); first | done | rfl | (simp only [List.length_drop, List.length_take]; rfl)) ?_; (with_reducible refine (impl_ParentPath.calls k a0 t154 t155 t156 _ A4.out ?mg).mono ?_); (case mg => exact HG.out.on (pl0 HB.out)); rintro e w9 ⟨rfl, hb⟩; refine ⟨_, rfl, ?_⟩; have n0_ := Aside0.mk (below_step (pl0 HB.out) hb); clear HB; have HB := n0_; clear n0_; (try clear hb); (try clear hb2); (try clear hk); (try clear hi)))
      go_ret
      exact ⟨erq, pl0 HB.out⟩
     ·rw [if_neg c7] at H
      have c7b0 : (t156 != t153) = false := by simpa using c7
      (try (have c7b1 : decide (t156 = t153) = true := by simpa using c7))
      (try (have c7b2 : (t156 == t153) = true := by simpa using c7))
      clear c7
      obtain rfl := Option.some.inj H
      go_enter Tryd.func4, Tryd.ntmps4
      go_wp2_with (first | ((with_reducible refine gate_callee (f := 15) rfl ?_); refine goesL_ (some 14) rfl rfl Tryd.func15 (by kernel_rfl) rfl #[.string a0] rfl (by (try simp only [List.map_toArray, List.map_cons, List.map_nil]); first | done | rfl | (simp only [List.length_drop, List.length_take]; rfl)) ?_; (with_reducible refine (spec_ParentPath.calls k a0 t151 t152 t153 _ A3.out).mono ?_); rintro e w10 ⟨rfl, hb⟩; refine ⟨_, rfl, ?_⟩; have n0_ := Aside0.mk (below_step (pl0 HB.out) hb); clear HB; have HB := n0_; clear n0_; (try clear hb); (try clear hb2); (try clear hk); (try clear hi)) | ((with_reducible refine gate_callee (f := 16) rfl ?_); refine goesL_ (some 20) rfl rfl Tryd.func16 (by kernel_rfl) rfl #[.string a0] rfl (by (try simp only [List.map_toArray, List.map_cons, List.map_nil]); first | done | rfl | (simp only [List.length_drop, List.length_take]; rfl)) ?_; (with_reducible refine (impl_ParentPath.calls k a0 t154 t155 t156 _ A4.out ?mg).mono ?_); (case mg => exact HG.out.on (pl0 HB.out)); rintro e w11 ⟨rfl, hb⟩; refine ⟨_, rfl, ?_⟩; have n0_ := Aside0.mk (below_step (pl0 HB.out) hb); clear HB; have HB := n0_; clear n0_; (try clear hb); (try clear hb2); (try clear hk); (try clear hi)))
      go_ret
      exact ⟨erq, pl0 HB.out⟩
    ·rw [if_neg c6] at H
     have c6b0 : (t155.toList == t152.toList) = false := beq_eq_false_iff_ne.mpr c6
     have c6b1 : (t155.toList != t152.toList) = true := bne_iff_ne.mpr c6
     obtain rfl := Option.some.inj H
     go_enter Tryd.func4, Tryd.ntmps4
     go_wp2_with (first | ((with_reducible refine gate_callee (f := 15) rfl ?_); refine goesL_ (some 14) rfl rfl Tryd.func15 (by kernel_rfl) rfl #[.string a0] rfl (by (try simp only [List.map_toArray, List.map_cons, List.map_nil]); first | done | rfl | (simp only [List.length_drop, List.length_take]; rfl)) ?_; (with_reducible refine (spec_ParentPath.calls k a0 t151 t152 t153 _ A3.out).mono ?_); rintro e w12 ⟨rfl, hb⟩; refine ⟨_, rfl, ?_⟩; have n0_ := Aside0.mk (below_step (pl0 HB.out) hb); clear HB; have HB := n0_; clear n0_; (try clear hb); (try clear hb2); (try clear hk); (try clear hi)) | ((with_reducible refine gate_callee (f := 16) rfl ?_); refine goesL_ (some 20) rfl rfl Tryd.func16 (by kernel_rfl) rfl #[.string a0] rfl (by (try simp only [List.map_toArray, List.map_cons, List.map_nil]); first | done | rfl | (simp only [List.length_drop, List.length_take]; rfl)) ?_; (with_reducible refine (impl_ParentPath.calls k a0 t154 t155 t156 _ A4.out ?mg).mono ?_); (case mg => exact HG.out.on (pl0 HB.out)); rintro e w13 ⟨rfl, hb⟩; refine ⟨_, rfl, ?_⟩; have n0_ := Aside0.mk (below_step (pl0 HB.out) hb); clear HB; have HB := n0_; clear n0_; (try clear hb); (try clear hb2); (try clear hk); (try clear hi)))
     go_ret
     exact ⟨erq, pl0 HB.out⟩
   ·rw [if_neg c5] at H
    have c5b0 : (t154.toList == t151.toList) = false := beq_eq_false_iff_ne.mpr c5
    have c5b1 : (t154.toList != t151.toList) = true := bne_iff_ne.mpr c5
    obtain rfl := Option.some.inj H
    go_enter Tryd.func4, Tryd.ntmps4
    go_wp2_with (first | ((with_reducible refine gate_callee (f := 15) rfl ?_); refine goesL_ (some 14) rfl rfl Tryd.func15 (by kernel_rfl) rfl #[.string a0] rfl (by (try simp only [List.map_toArray, List.map_cons, List.map_nil]); first | done | rfl | (simp only [List.length_drop, List.length_take]; rfl)) ?_; (with_reducible refine (spec_ParentPath.calls k a0 t151 t152 t153 _ A3.out).mono ?_); rintro e w14 ⟨rfl, hb⟩; refine ⟨_, rfl, ?_⟩; have n0_ := Aside0.mk (below_step (pl0 HB.out) hb); clear HB; have HB := n0_; clear n0_; (try clear hb); (try clear hb2); (try clear hk); (try clear hi)) | ((with_reducible refine gate_callee (f := 16) rfl ?_); refine goesL_ (some 20) rfl rfl Tryd.func16 (by kernel_rfl) rfl #[.string a0] rfl (by (try simp only [List.map_toArray, List.map_cons, List.map_nil]); first | done | rfl | (simp only [List.length_drop, List.length_take]; rfl)) ?_; (with_reducible refine (impl_ParentPath.calls k a0 t154 t155 t156 _ A4.out ?mg).mono ?_); (case mg => exact HG.out.on (pl0 HB.out)); rintro e w15 ⟨rfl, hb⟩; refine ⟨_, rfl, ?_⟩; have n0_ := Aside0.mk (below_step (pl0 HB.out) hb); clear HB; have HB := n0_; clear n0_; (try clear hb); (try clear hb2); (try clear hk); (try clear hi)))
    go_ret
    exact ⟨erq, pl0 HB.out⟩

/-- THE ONE PURE STATEMENT of laws_FnExactParentPath: yours. -/
def laws_FnExactParentPath.Pure : Prop := ∀ (a0 : ByteArray), a0.size ≤ 140737488351232 → ∃ k, laws_FnExactParentPath.f k a0 = some true
theorem laws_FnExactParentPath.walk (P : laws_FnExactParentPath.Pure) (a0 : ByteArray) (w : World) (w0 : a0.size ≤ 140737488351232) (hg : MG w) :
    Calls Tryd.prog 4 #[.string a0] w fun e w' => e = .returned (.bool true) ∧ Below w.heap.size w w' := by
  obtain ⟨k, h⟩ := P a0 w0
  refine (laws_FnExactParentPath.calls k a0 true w h hg).mono ?_
  rintro e w' ⟨rfl, hd⟩
  exact ⟨rfl, hd⟩

end Go.Proofs.YtffnjbhimhbomaaDoor.QTB
