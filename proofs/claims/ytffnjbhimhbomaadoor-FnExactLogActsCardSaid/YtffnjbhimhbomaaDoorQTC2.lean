/- Walks, as the kit's print writes them, run with stubs of my own and mended: TC. -/
import Derived.Test.YtffnjbhimhbomaaDoorQTC0
import Derived.Test.YtffnjbhimhbomaaDoorQTC1
import Derived.Test.YtffnjbhimhbomaaDoorQTA1
namespace Go.Proofs.YtffnjbhimhbomaaDoor.QTC
open Go.Proofs.YtffnjbhimhbomaaDoor.QTA Go.Proofs.YtffnjbhimhbomaaDoor.QTB
open Go.Proofs.YtffnjbhimhbomaaDoorW Go.Proofs.YtffnjbhimhbomaaDoorW.Zip
open Go.RowKit Go.Proofs.YtffnjbhimhbomaaDoorW.PrintWords Go.Proofs.YtffnjbhimhbomaaDoorW.PrintLast Go.Proofs.YtffnjbhimhbomaaDoorW.PrintMore
attribute [local go_sem] max2_int min2_int max_two min_two max_three min_three max_four min_four   -- for this text's walks alone
set_option linter.unusedVariables false
set_option linter.unusedSimpArgs false
mutual
def impl_EditOk.j1 : Nat → Bool → Int → ByteArray → ByteArray → Int → Int → Option (Bool)
  | 0, _, _, _, _, _, _ => none
  | k + 1, x3, x172000, x172001, x172002, x172003, x172004 => if x172000 = 5 then ((impl_within.f x172003 1 3).bind fun t173 => ((impl_within.f x172000 1 10).bind fun t174 => (if t174 = true then (if x3 = true then (if t173 = true then (if x172004 = 0 then (some (x172002.toList == ([] : List UInt8))) else (some false)) else (some false)) else (some false)) else (some false)))) else (if x172000 = 6 then ((impl_within.f x172003 0 1000).bind fun t175 => ((impl_within.f x172000 1 10).bind fun t176 => (if t176 = true then (if x3 = true then (if t175 = true then (if x172004 = 0 then (some (x172002.toList == ([] : List UInt8))) else (some false)) else (some false)) else (some false)) else (some false)))) else (if x172000 = 7 then ((impl_within.f x172003 1 200).bind fun t177 => ((impl_within.f x172000 1 10).bind fun t178 => (if t178 = true then (if x3 = true then (if t177 = true then (if x172004 = 0 then (some (x172002.toList == ([] : List UInt8))) else (some false)) else (some false)) else (some false)) else (some false)))) else (if x172000 = 2 then (impl_EditOk.j2 k x3 (x172003 == 0) (x172004 == 0) (x172002.toList == ([] : List UInt8)) x172000 (x172000 == 2) x172000 x172001 x172002 x172003 x172004) else (impl_EditOk.j2 k x3 (x172003 == 0) (x172004 == 0) (x172002.toList == ([] : List UInt8)) x172000 (x172000 == 9) x172000 x172001 x172002 x172003 x172004))))
def impl_EditOk.j2 : Nat → Bool → Bool → Bool → Bool → Int → Bool → Int → ByteArray → ByteArray → Int → Int → Option (Bool)
  | 0, _, _, _, _, _, _, _, _, _, _, _ => none
  | k + 1, x3, x4, x5, x6, x36, x52, x172000, x172001, x172002, x172003, x172004 => if x52 = true then ((impl_within.f x172004 1 9).bind fun t179 => ((impl_within.f x172000 1 10).bind fun t180 => (if t180 = true then (if x3 = true then (if x4 = true then (if t179 = true then (some x6) else (some false)) else (some false)) else (some false)) else (some false)))) else (if x36 = 3 then ((impl_named.f k x172002).bind fun t181 => ((impl_within.f x172000 1 10).bind fun t182 => (if t182 = true then (if x3 = true then (if x4 = true then (if x5 = true then (some t181) else (some false)) else (some false)) else (some false)) else (some false)))) else ((impl_within.f x172000 1 10).bind fun t183 => (if t183 = true then (if x3 = true then (if x4 = true then (if x5 = true then (some x6) else (some false)) else (some false)) else (some false)) else (some false))))
def impl_EditOk.j0 : Nat → Bool → Int → Bool → Int → ByteArray → ByteArray → Int → Int → Option (Bool)
  | 0, _, _, _, _, _, _, _, _ => none
  | k + 1, x3, x11, x12, x172000, x172001, x172002, x172003, x172004 => if x12 = true then (if x3 = true then (impl_EditOk.j1 k true x172000 x172001 x172002 x172003 x172004) else (impl_EditOk.j1 k (x172001.toList == ([47] : List UInt8)) x172000 x172001 x172002 x172003 x172004)) else (if x11 = 10 then (impl_EditOk.j1 k (x172001.toList == ([47] : List UInt8)) x172000 x172001 x172002 x172003 x172004) else (impl_EditOk.j1 k x3 x172000 x172001 x172002 x172003 x172004))
end
def impl_EditOk.f (k : Nat) (a0_0 : Int) (a0_1 : ByteArray) (a0_2 : ByteArray) (a0_3 : Int) (a0_4 : Int) : Option (Bool) := (impl_named.f k a0_1).bind fun t172 => (if a0_0 = 5 then (impl_EditOk.j0 k t172 a0_0 (a0_0 == 5) a0_0 a0_1 a0_2 a0_3 a0_4) else (impl_EditOk.j0 k t172 a0_0 (a0_0 == 6) a0_0 a0_1 a0_2 a0_3 a0_4))
set_option maxHeartbeats 8000000 in
set_option maxRecDepth 100000 in
theorem impl_EditOk.calls (k : Nat) (a0_0 : Int) (a0_1 : ByteArray) (a0_2 : ByteArray) (a0_3 : Int) (a0_4 : Int) (r : Bool) (w : World) (h : impl_EditOk.f k a0_0 a0_1 a0_2 a0_3 a0_4 = some r) (hg : MG w) :
    Calls Tryd.prog 20 #[.agg #[.int .i64 a0_0, .string a0_1, .string a0_2, .int .i64 a0_3, .int .i64 a0_4]] w fun e w' => e = .returned (.bool r) ∧ Below w.heap.size w w' := by
  have HG := Aside0.mk hg
  clear hg
  have hu34 := Tryd.underlying34
  have HB := Aside0.mk (Below.refl w.heap.size w)
  have H : ((impl_named.f k a0_1).bind fun t172 => (if a0_0 = 5 then (impl_EditOk.j0 k t172 a0_0 (a0_0 == 5) a0_0 a0_1 a0_2 a0_3 a0_4) else (impl_EditOk.j0 k t172 a0_0 (a0_0 == 6) a0_0 a0_1 a0_2 a0_3 a0_4))) = some r := h
  clear h
  replace H := Option.bind_eq_some_iff.mp H
  obtain ⟨t172, A20, H⟩ := H
  replace H : (if a0_0 = 5 then (impl_EditOk.j0 k t172 a0_0 (a0_0 == 5) a0_0 a0_1 a0_2 a0_3 a0_4) else (impl_EditOk.j0 k t172 a0_0 (a0_0 == 6) a0_0 a0_1 a0_2 a0_3 a0_4)) = some r := H
  have A2 := Aside0.mk A20
  clear A20
  have HC3 := Aside0.mk H
  clear H
  go_enter Tryd.func20, Tryd.ntmps20
  go_upto_block 0 with (first | ((with_reducible refine gate_dst (N := 1) rfl ?_); refine box_event ?hg (N := 1) ?hd (cs := #[.int .i64 a0_0, .string a0_1, .string a0_2, .int .i64 a0_3, .int .i64 a0_4]) (t := 34) ?hr ?_; (case hd => rfl); (case hg => rfl); (case hr => first | (go_simp; done) | (go_simp; rfl)); intro gb171 hg w4 hbox hb; have n0_ := Aside0.mk (below_step (pl0 HB.out) hb); have n1_ := Aside0.mk (hbox); have n2_ := Aside0.mk ((by rw [hg]; exact (below_size (pl0 HB.out)) : w.heap.size ≤ gb171)); have n3_ := Aside0.mk ((by rw [hg]; exact (below_size (pl0 HB.out)) : w.heap.size ≤ gb171)); clear HB; have HB := n0_; have BK171 := n1_; have GW171 := n2_; have GE171 := n3_; clear n0_ n1_ n2_ n3_; clear hb hbox hg; have hcz5_0 : w4.cell? ⟨gb171, 0, none⟩ = some (.int .i64 a0_0) := (blk_cell BK171.out 0).trans rfl; have hcz5_1 : w4.cell? ⟨gb171, 1, none⟩ = some (.string a0_1) := (blk_cell BK171.out 1).trans rfl; have hcz5_2 : w4.cell? ⟨gb171, 2, none⟩ = some (.string a0_2) := (blk_cell BK171.out 2).trans rfl; have hcz5_3 : w4.cell? ⟨gb171, 3, none⟩ = some (.int .i64 a0_3) := (blk_cell BK171.out 3).trans rfl; have hcz5_4 : w4.cell? ⟨gb171, 4, none⟩ = some (.int .i64 a0_4) := (blk_cell BK171.out 4).trans rfl; have hfz5_0 := blk_frozen BK171.out 0; have hfz5_1 := blk_frozen BK171.out 1; have hfz5_2 := blk_frozen BK171.out 2; have hfz5_3 := blk_frozen BK171.out 3; have hfz5_4 := blk_frozen BK171.out 4) | (go_at_call 47; (with_reducible refine (impl_named.calls k a0_1 t172 _ A2.out ?mg).mono ?_); (case mg => exact HG.out.on (pl0 HB.out)); rintro e w6 ⟨rfl, hb⟩; have n0_ := Aside0.mk (pb BK171.out hb); have n1_ := Aside0.mk (below_step (pl1 HB.out GE171.out) hb); clear BK171; clear HB; have BK171 := n0_; have HB := n1_; clear n0_ n1_; (try clear hb); (try clear hb2); (try clear hk); (try clear hi); have hcz7_0 : w6.cell? ⟨gb171, 0, none⟩ = some (.int .i64 a0_0) := (blk_cell BK171.out 0).trans rfl; have hcz7_1 : w6.cell? ⟨gb171, 1, none⟩ = some (.string a0_1) := (blk_cell BK171.out 1).trans rfl; have hcz7_2 : w6.cell? ⟨gb171, 2, none⟩ = some (.string a0_2) := (blk_cell BK171.out 2).trans rfl; have hcz7_3 : w6.cell? ⟨gb171, 3, none⟩ = some (.int .i64 a0_3) := (blk_cell BK171.out 3).trans rfl; have hcz7_4 : w6.cell? ⟨gb171, 4, none⟩ = some (.int .i64 a0_4) := (blk_cell BK171.out 4).trans rfl; have hfz7_0 := blk_frozen BK171.out 0; have hfz7_1 := blk_frozen BK171.out 1; have hfz7_2 := blk_frozen BK171.out 2; have hfz7_3 := blk_frozen BK171.out 3; have hfz7_4 := blk_frozen BK171.out 4))
  repeat (go_quiet (first | ((with_reducible refine gate_dst (N := 1) rfl ?_); refine box_event ?hg (N := 1) ?hd (cs := #[.int .i64 a0_0, .string a0_1, .string a0_2, .int .i64 a0_3, .int .i64 a0_4]) (t := 34) ?hr ?_; (case hd => rfl); (case hg => rfl); (case hr => first | (go_simp; done) | (go_simp; rfl)); intro gb171 hg w4 hbox hb; have n0_ := Aside0.mk (below_step (pl0 HB.out) hb); have n1_ := Aside0.mk (hbox); have n2_ := Aside0.mk ((by rw [hg]; exact (below_size (pl0 HB.out)) : w.heap.size ≤ gb171)); have n3_ := Aside0.mk ((by rw [hg]; exact (below_size (pl0 HB.out)) : w.heap.size ≤ gb171)); clear HB; have HB := n0_; have BK171 := n1_; have GW171 := n2_; have GE171 := n3_; clear n0_ n1_ n2_ n3_; clear hb hbox hg; have hcz5_0 : w4.cell? ⟨gb171, 0, none⟩ = some (.int .i64 a0_0) := (blk_cell BK171.out 0).trans rfl; have hcz5_1 : w4.cell? ⟨gb171, 1, none⟩ = some (.string a0_1) := (blk_cell BK171.out 1).trans rfl; have hcz5_2 : w4.cell? ⟨gb171, 2, none⟩ = some (.string a0_2) := (blk_cell BK171.out 2).trans rfl; have hcz5_3 : w4.cell? ⟨gb171, 3, none⟩ = some (.int .i64 a0_3) := (blk_cell BK171.out 3).trans rfl; have hcz5_4 : w4.cell? ⟨gb171, 4, none⟩ = some (.int .i64 a0_4) := (blk_cell BK171.out 4).trans rfl; have hfz5_0 := blk_frozen BK171.out 0; have hfz5_1 := blk_frozen BK171.out 1; have hfz5_2 := blk_frozen BK171.out 2; have hfz5_3 := blk_frozen BK171.out 3; have hfz5_4 := blk_frozen BK171.out 4) | (go_at_call 47; (with_reducible refine (impl_named.calls k a0_1 t172 _ A2.out ?mg).mono ?_); (case mg => exact HG.out.on (pl0 HB.out)); rintro e w6 ⟨rfl, hb⟩; have n0_ := Aside0.mk (pb BK171.out hb); have n1_ := Aside0.mk (below_step (pl1 HB.out GE171.out) hb); clear BK171; clear HB; have BK171 := n0_; have HB := n1_; clear n0_ n1_; (try clear hb); (try clear hb2); (try clear hk); (try clear hi); have hcz7_0 : w6.cell? ⟨gb171, 0, none⟩ = some (.int .i64 a0_0) := (blk_cell BK171.out 0).trans rfl; have hcz7_1 : w6.cell? ⟨gb171, 1, none⟩ = some (.string a0_1) := (blk_cell BK171.out 1).trans rfl; have hcz7_2 : w6.cell? ⟨gb171, 2, none⟩ = some (.string a0_2) := (blk_cell BK171.out 2).trans rfl; have hcz7_3 : w6.cell? ⟨gb171, 3, none⟩ = some (.int .i64 a0_3) := (blk_cell BK171.out 3).trans rfl; have hcz7_4 : w6.cell? ⟨gb171, 4, none⟩ = some (.int .i64 a0_4) := (blk_cell BK171.out 4).trans rfl; have hfz7_0 := blk_frozen BK171.out 0; have hfz7_1 := blk_frozen BK171.out 1; have hfz7_2 := blk_frozen BK171.out 2; have hfz7_3 := blk_frozen BK171.out 3; have hfz7_4 := blk_frozen BK171.out 4)); go_upto_block 0 with (first | ((with_reducible refine gate_dst (N := 1) rfl ?_); refine box_event ?hg (N := 1) ?hd (cs := #[.int .i64 a0_0, .string a0_1, .string a0_2, .int .i64 a0_3, .int .i64 a0_4]) (t := 34) ?hr ?_; (case hd => rfl); (case hg => rfl); (case hr => first | (go_simp; done) | (go_simp; rfl)); intro gb171 hg w4 hbox hb; have n0_ := Aside0.mk (below_step (pl0 HB.out) hb); have n1_ := Aside0.mk (hbox); have n2_ := Aside0.mk ((by rw [hg]; exact (below_size (pl0 HB.out)) : w.heap.size ≤ gb171)); have n3_ := Aside0.mk ((by rw [hg]; exact (below_size (pl0 HB.out)) : w.heap.size ≤ gb171)); clear HB; have HB := n0_; have BK171 := n1_; have GW171 := n2_; have GE171 := n3_; clear n0_ n1_ n2_ n3_; clear hb hbox hg; have hcz5_0 : w4.cell? ⟨gb171, 0, none⟩ = some (.int .i64 a0_0) := (blk_cell BK171.out 0).trans rfl; have hcz5_1 : w4.cell? ⟨gb171, 1, none⟩ = some (.string a0_1) := (blk_cell BK171.out 1).trans rfl; have hcz5_2 : w4.cell? ⟨gb171, 2, none⟩ = some (.string a0_2) := (blk_cell BK171.out 2).trans rfl; have hcz5_3 : w4.cell? ⟨gb171, 3, none⟩ = some (.int .i64 a0_3) := (blk_cell BK171.out 3).trans rfl; have hcz5_4 : w4.cell? ⟨gb171, 4, none⟩ = some (.int .i64 a0_4) := (blk_cell BK171.out 4).trans rfl; have hfz5_0 := blk_frozen BK171.out 0; have hfz5_1 := blk_frozen BK171.out 1; have hfz5_2 := blk_frozen BK171.out 2; have hfz5_3 := blk_frozen BK171.out 3; have hfz5_4 := blk_frozen BK171.out 4) | (go_at_call 47; (with_reducible refine (impl_named.calls k a0_1 t172 _ A2.out ?mg).mono ?_); (case mg => exact HG.out.on (pl0 HB.out)); rintro e w6 ⟨rfl, hb⟩; have n0_ := Aside0.mk (pb BK171.out hb); have n1_ := Aside0.mk (below_step (pl1 HB.out GE171.out) hb); clear BK171; clear HB; have BK171 := n0_; have HB := n1_; clear n0_ n1_; (try clear hb); (try clear hb2); (try clear hk); (try clear hi); have hcz7_0 : w6.cell? ⟨gb171, 0, none⟩ = some (.int .i64 a0_0) := (blk_cell BK171.out 0).trans rfl; have hcz7_1 : w6.cell? ⟨gb171, 1, none⟩ = some (.string a0_1) := (blk_cell BK171.out 1).trans rfl; have hcz7_2 : w6.cell? ⟨gb171, 2, none⟩ = some (.string a0_2) := (blk_cell BK171.out 2).trans rfl; have hcz7_3 : w6.cell? ⟨gb171, 3, none⟩ = some (.int .i64 a0_3) := (blk_cell BK171.out 3).trans rfl; have hcz7_4 : w6.cell? ⟨gb171, 4, none⟩ = some (.int .i64 a0_4) := (blk_cell BK171.out 4).trans rfl; have hfz7_0 := blk_frozen BK171.out 0; have hfz7_1 := blk_frozen BK171.out 1; have hfz7_2 := blk_frozen BK171.out 2; have hfz7_3 := blk_frozen BK171.out 3; have hfz7_4 := blk_frozen BK171.out 4)))
  (try simp only [Act.put, List.setIfInBounds_toArray, List.set_cons_zero, List.set_cons_succ])
  go_cut [3] (fun v3 wc => ∃ (kq : Nat) (x3_2 : Bool), v3 = .bool x3_2 ∧ Aside0 (impl_EditOk.j1 kq x3_2 a0_0 a0_1 a0_2 a0_3 a0_4 = some r) ∧ Aside0 (kq ≤ k) ∧ Aside0 (wc.heap[gb171]? = some (.cells #[.int .i64 a0_0, .string a0_1, .string a0_2, .int .i64 a0_3, .int .i64 a0_4] 34 (0, 0))) ∧ Aside0 (Below w.heap.size w wc))
  case first =>
   have H := HC3.out
   clear HC3
   have HC8 := Aside0.mk H
   clear H
   go_upto_if 12 with (fail)
   repeat (go_quiet (fail); go_upto_if 12 with (fail))
   go_cut [12] (fun v12 wc => ∃ (kq : Nat) (x12_7 : Bool), v12 = .bool x12_7 ∧ Aside0 (impl_EditOk.j0 kq t172 a0_0 x12_7 a0_0 a0_1 a0_2 a0_3 a0_4 = some r) ∧ Aside0 (kq ≤ k) ∧ Aside0 (wc.heap[gb171]? = some (.cells #[.int .i64 a0_0, .string a0_1, .string a0_2, .int .i64 a0_3, .int .i64 a0_4] 34 (0, 0))) ∧ Aside0 (Below w.heap.size w wc))
   case first =>
    have H := HC8.out
    clear HC8
    by_cases c9 : a0_0 = 5
    ·rw [if_pos c9] at H
     have c9b0 : (a0_0 == 5) = true := beq_iff_eq.mpr c9
     have c9b1 : (a0_0 != 5) = false := bne_eq_false_iff_eq.mpr c9
     clear c9
     (first | rw [c9b0] | (simp only [i64_w, i32_w]; rw [c9b0]) | skip)
     have H' := Aside0.mk H
     clear H
     go_wp2
     repeat (go_quiet (fail); try go_wp2)
     go_meet
     case rel => exact ⟨_, ((a0_0 == 5)), eqa, H', ⟨by first | omega | exact Nat.le_refl _⟩, ⟨pk BK171.out⟩, ⟨pl1 HB.out GE171.out⟩⟩
    ·rw [if_neg c9] at H
     have c9b0 : (a0_0 == 5) = false := beq_eq_false_iff_ne.mpr c9
     have c9b1 : (a0_0 != 5) = true := bne_iff_ne.mpr c9
     (first | rw [c9b0] | (simp only [i64_w, i32_w]; rw [c9b0]) | skip)
     have H' := Aside0.mk H
     clear H
     go_wp2
     repeat (go_quiet (fail); try go_wp2)
     go_meet
     case rel => exact ⟨_, ((a0_0 == 6)), eqa, H', ⟨by first | omega | exact Nat.le_refl _⟩, ⟨pk BK171.out⟩, ⟨pl1 HB.out GE171.out⟩⟩
   case rest =>
    clear HC8
    try clear hcz5_0; try clear hcz5_1; try clear hcz5_2; try clear hcz5_3; try clear hcz5_4; try clear hcz7_0; try clear hcz7_1; try clear hcz7_2; try clear hcz7_3; try clear hcz7_4; try clear hfz5_0; try clear hfz5_1; try clear hfz5_2; try clear hfz5_3; try clear hfz5_4; try clear hfz7_0; try clear hfz7_1; try clear hfz7_2; try clear hfz7_3; try clear hfz7_4
    obtain ⟨kq, x12_7, rfl, HA, HJ7, BK171, HB⟩ := hcut
    cases kq with
    | zero => exact absurd HA.out (by simp [impl_EditOk.j0])
    | succ kj7 =>
     have H := HA.out
     clear HA
     simp only [impl_EditOk.j0] at H
     by_cases c10 : x12_7 = true
     ·subst c10
      have H1 : (if t172 = true then (impl_EditOk.j1 kj7 true a0_0 a0_1 a0_2 a0_3 a0_4) else (impl_EditOk.j1 kj7 (a0_1.toList == ([47] : List UInt8)) a0_0 a0_1 a0_2 a0_3 a0_4)) = some r := by rw [if_pos rfl] at H; exact H
      clear H
      have H := H1
      clear H1
      by_cases c11 : t172 = true
      ·subst c11
       have H1 : (impl_EditOk.j1 kj7 true a0_0 a0_1 a0_2 a0_3 a0_4) = some r := by rw [if_pos rfl] at H; exact H
       clear H
       have H := H1
       clear H1
       have H' := Aside0.mk H
       clear H
       go_wp2
       repeat (go_quiet (fail); try go_wp2)
       go_meet
       case rel => exact ⟨_, (true), eqa, H', ⟨by have := HJ7.out; first | omega | exact Nat.le_refl _⟩, ⟨pk BK171.out⟩, ⟨pl1 HB.out GE171.out⟩⟩
      ·replace c11 := Bool.eq_false_iff.mpr c11
       subst c11
       have H1 : (impl_EditOk.j1 kj7 (a0_1.toList == ([47] : List UInt8)) a0_0 a0_1 a0_2 a0_3 a0_4) = some r := by rw [if_neg (show ¬ (false = true) by decide)] at H; exact H
       clear H
       have H := H1
       clear H1
       have H' := Aside0.mk H
       clear H
       obtain ⟨hcz12_0, hcz12_1, hcz12_2, hcz12_3, hcz12_4, hfz12_0, hfz12_1, hfz12_2, hfz12_3, hfz12_4⟩ := z5 BK171.out
       go_wp2
       repeat (go_quiet (fail); try go_wp2)
       go_meet
       case rel => exact ⟨_, ((a0_1.toList == ([47] : List UInt8))), eqa, H', ⟨by have := HJ7.out; first | omega | exact Nat.le_refl _⟩, ⟨pk BK171.out⟩, ⟨pl1 HB.out GE171.out⟩⟩
     ·replace c10 := Bool.eq_false_iff.mpr c10
      subst c10
      have H1 : (if a0_0 = 10 then (impl_EditOk.j1 kj7 (a0_1.toList == ([47] : List UInt8)) a0_0 a0_1 a0_2 a0_3 a0_4) else (impl_EditOk.j1 kj7 t172 a0_0 a0_1 a0_2 a0_3 a0_4)) = some r := by rw [if_neg (show ¬ (false = true) by decide)] at H; exact H
      clear H
      have H := H1
      clear H1
      by_cases c13 : a0_0 = 10
      ·rw [if_pos c13] at H
       have c13b0 : (a0_0 == 10) = true := beq_iff_eq.mpr c13
       have c13b1 : (a0_0 != 10) = false := bne_eq_false_iff_eq.mpr c13
       clear c13
       have H' := Aside0.mk H
       clear H
       obtain ⟨hcz14_0, hcz14_1, hcz14_2, hcz14_3, hcz14_4, hfz14_0, hfz14_1, hfz14_2, hfz14_3, hfz14_4⟩ := z5 BK171.out
       go_wp2
       repeat (go_quiet (fail); try go_wp2)
       go_meet
       case rel => exact ⟨_, ((a0_1.toList == ([47] : List UInt8))), eqa, H', ⟨by have := HJ7.out; first | omega | exact Nat.le_refl _⟩, ⟨pk BK171.out⟩, ⟨pl1 HB.out GE171.out⟩⟩
      ·rw [if_neg c13] at H
       have c13b0 : (a0_0 == 10) = false := beq_eq_false_iff_ne.mpr c13
       have c13b1 : (a0_0 != 10) = true := bne_iff_ne.mpr c13
       have H' := Aside0.mk H
       clear H
       go_wp2
       repeat (go_quiet (fail); try go_wp2)
       go_meet
       case rel => exact ⟨_, (t172), eqa, H', ⟨by have := HJ7.out; first | omega | exact Nat.le_refl _⟩, ⟨pk BK171.out⟩, ⟨pl1 HB.out GE171.out⟩⟩
  case rest =>
   clear HC3
   obtain ⟨kq, x3_2, rfl, HA, HJ2, BK171, HB⟩ := hcut
   cases kq with
   | zero => exact absurd HA.out (by simp [impl_EditOk.j1])
   | succ kj2 =>
    have H := HA.out
    clear HA
    simp only [impl_EditOk.j1] at H
    by_cases c15 : a0_0 = 5
    ·rw [if_pos c15] at H
     have c15b0 : (a0_0 == 5) = true := beq_iff_eq.mpr c15
     have c15b1 : (a0_0 != 5) = false := bne_eq_false_iff_eq.mpr c15
     clear c15
     replace H := Option.bind_eq_some_iff.mp H
     obtain ⟨t173, A160, H⟩ := H
     replace H : ((impl_within.f a0_0 1 10).bind fun t174 => (if t174 = true then (if x3_2 = true then (if t173 = true then (if a0_4 = 0 then (some (a0_2.toList == ([] : List UInt8))) else (some false)) else (some false)) else (some false)) else (some false))) = some r := H
     have A16 := Aside0.mk A160
     clear A160
     replace H := Option.bind_eq_some_iff.mp H
     obtain ⟨t174, A170, H⟩ := H
     replace H : (if t174 = true then (if x3_2 = true then (if t173 = true then (if a0_4 = 0 then (some (a0_2.toList == ([] : List UInt8))) else (some false)) else (some false)) else (some false)) else (some false)) = some r := H
     have A17 := Aside0.mk A170
     clear A170
     by_cases c18 : t174 = true
     ·subst c18
      have H1 : (if x3_2 = true then (if t173 = true then (if a0_4 = 0 then (some (a0_2.toList == ([] : List UInt8))) else (some false)) else (some false)) else (some false)) = some r := by rw [if_pos rfl] at H; exact H
      clear H
      have H := H1
      clear H1
      by_cases c19 : x3_2 = true
      ·subst c19
       have H1 : (if t173 = true then (if a0_4 = 0 then (some (a0_2.toList == ([] : List UInt8))) else (some false)) else (some false)) = some r := by rw [if_pos rfl] at H; exact H
       clear H
       have H := H1
       clear H1
       by_cases c20 : t173 = true
       ·subst c20
        have H1 : (if a0_4 = 0 then (some (a0_2.toList == ([] : List UInt8))) else (some false)) = some r := by rw [if_pos rfl] at H; exact H
        clear H
        have H := H1
        clear H1
        by_cases c21 : a0_4 = 0
        ·rw [if_pos c21] at H
         have c21b0 : (a0_4 == 0) = true := beq_iff_eq.mpr c21
         have c21b1 : (a0_4 != 0) = false := bne_eq_false_iff_eq.mpr c21
         clear c21
         obtain rfl := Option.some.inj H
         obtain ⟨hcz22_0, hcz22_1, hcz22_2, hcz22_3, hcz22_4, hfz22_0, hfz22_1, hfz22_2, hfz22_3, hfz22_4⟩ := z5 BK171.out
         go_wp2_with (first | (go_at_call 48; (with_reducible refine (impl_within.calls a0_3 1 3 true _ A16.out).mono ?_); rintro e w' ⟨rfl, ⟨nd, rfl⟩⟩; (try exact dw)) | (go_at_call 48; (with_reducible refine (impl_within.calls a0_0 1 10 true _ A17.out).mono ?_); rintro e w' ⟨rfl, ⟨nd, rfl⟩⟩; (try exact dw)))
         repeat (go_quiet (first | (go_at_call 48; (with_reducible refine (impl_within.calls a0_3 1 3 true _ A16.out).mono ?_); rintro e w' ⟨rfl, ⟨nd, rfl⟩⟩; (try exact dw)) | (go_at_call 48; (with_reducible refine (impl_within.calls a0_0 1 10 true _ A17.out).mono ?_); rintro e w' ⟨rfl, ⟨nd, rfl⟩⟩; (try exact dw))); try go_wp2_with (first | (go_at_call 48; (with_reducible refine (impl_within.calls a0_3 1 3 true _ A16.out).mono ?_); rintro e w' ⟨rfl, ⟨nd, rfl⟩⟩; (try exact dw)) | (go_at_call 48; (with_reducible refine (impl_within.calls a0_0 1 10 true _ A17.out).mono ?_); rintro e w' ⟨rfl, ⟨nd, rfl⟩⟩; (try exact dw))))
         go_ret
         exact ⟨erq, pl1 HB.out GE171.out⟩
        ·rw [if_neg c21] at H
         have c21b0 : (a0_4 == 0) = false := beq_eq_false_iff_ne.mpr c21
         have c21b1 : (a0_4 != 0) = true := bne_iff_ne.mpr c21
         obtain rfl := Option.some.inj H
         obtain ⟨hcz23_0, hcz23_1, hcz23_2, hcz23_3, hcz23_4, hfz23_0, hfz23_1, hfz23_2, hfz23_3, hfz23_4⟩ := z5 BK171.out
         go_wp2_with (first | (go_at_call 48; (with_reducible refine (impl_within.calls a0_3 1 3 true _ A16.out).mono ?_); rintro e w' ⟨rfl, ⟨nd, rfl⟩⟩; (try exact dw)) | (go_at_call 48; (with_reducible refine (impl_within.calls a0_0 1 10 true _ A17.out).mono ?_); rintro e w' ⟨rfl, ⟨nd, rfl⟩⟩; (try exact dw)))
         repeat (go_quiet (first | (go_at_call 48; (with_reducible refine (impl_within.calls a0_3 1 3 true _ A16.out).mono ?_); rintro e w' ⟨rfl, ⟨nd, rfl⟩⟩; (try exact dw)) | (go_at_call 48; (with_reducible refine (impl_within.calls a0_0 1 10 true _ A17.out).mono ?_); rintro e w' ⟨rfl, ⟨nd, rfl⟩⟩; (try exact dw))); try go_wp2_with (first | (go_at_call 48; (with_reducible refine (impl_within.calls a0_3 1 3 true _ A16.out).mono ?_); rintro e w' ⟨rfl, ⟨nd, rfl⟩⟩; (try exact dw)) | (go_at_call 48; (with_reducible refine (impl_within.calls a0_0 1 10 true _ A17.out).mono ?_); rintro e w' ⟨rfl, ⟨nd, rfl⟩⟩; (try exact dw))))
         go_ret
         exact ⟨erq, pl1 HB.out GE171.out⟩
       ·replace c20 := Bool.eq_false_iff.mpr c20
        subst c20
        have H1 : (some false) = some r := by rw [if_neg (show ¬ (false = true) by decide)] at H; exact H
        clear H
        have H := H1
        clear H1
        obtain rfl := Option.some.inj H
        obtain ⟨hcz24_0, hcz24_1, hcz24_2, hcz24_3, hcz24_4, hfz24_0, hfz24_1, hfz24_2, hfz24_3, hfz24_4⟩ := z5 BK171.out
        go_wp2_with (first | (go_at_call 48; (with_reducible refine (impl_within.calls a0_3 1 3 false _ A16.out).mono ?_); rintro e w' ⟨rfl, ⟨nd, rfl⟩⟩; (try exact dw)) | (go_at_call 48; (with_reducible refine (impl_within.calls a0_0 1 10 true _ A17.out).mono ?_); rintro e w' ⟨rfl, ⟨nd, rfl⟩⟩; (try exact dw)))
        repeat (go_quiet (first | (go_at_call 48; (with_reducible refine (impl_within.calls a0_3 1 3 false _ A16.out).mono ?_); rintro e w' ⟨rfl, ⟨nd, rfl⟩⟩; (try exact dw)) | (go_at_call 48; (with_reducible refine (impl_within.calls a0_0 1 10 true _ A17.out).mono ?_); rintro e w' ⟨rfl, ⟨nd, rfl⟩⟩; (try exact dw))); try go_wp2_with (first | (go_at_call 48; (with_reducible refine (impl_within.calls a0_3 1 3 false _ A16.out).mono ?_); rintro e w' ⟨rfl, ⟨nd, rfl⟩⟩; (try exact dw)) | (go_at_call 48; (with_reducible refine (impl_within.calls a0_0 1 10 true _ A17.out).mono ?_); rintro e w' ⟨rfl, ⟨nd, rfl⟩⟩; (try exact dw))))
        go_ret
        exact ⟨erq, pl1 HB.out GE171.out⟩
      ·replace c19 := Bool.eq_false_iff.mpr c19
       subst c19
       have H1 : (some false) = some r := by rw [if_neg (show ¬ (false = true) by decide)] at H; exact H
       clear H
       have H := H1
       clear H1
       obtain rfl := Option.some.inj H
       obtain ⟨hcz25_0, hcz25_1, hcz25_2, hcz25_3, hcz25_4, hfz25_0, hfz25_1, hfz25_2, hfz25_3, hfz25_4⟩ := z5 BK171.out
       go_wp2_with (first | (go_at_call 48; (with_reducible refine (impl_within.calls a0_3 1 3 t173 _ A16.out).mono ?_); rintro e w' ⟨rfl, ⟨nd, rfl⟩⟩; (try exact dw)) | (go_at_call 48; (with_reducible refine (impl_within.calls a0_0 1 10 true _ A17.out).mono ?_); rintro e w' ⟨rfl, ⟨nd, rfl⟩⟩; (try exact dw)))
       repeat (go_quiet (first | (go_at_call 48; (with_reducible refine (impl_within.calls a0_3 1 3 t173 _ A16.out).mono ?_); rintro e w' ⟨rfl, ⟨nd, rfl⟩⟩; (try exact dw)) | (go_at_call 48; (with_reducible refine (impl_within.calls a0_0 1 10 true _ A17.out).mono ?_); rintro e w' ⟨rfl, ⟨nd, rfl⟩⟩; (try exact dw))); try go_wp2_with (first | (go_at_call 48; (with_reducible refine (impl_within.calls a0_3 1 3 t173 _ A16.out).mono ?_); rintro e w' ⟨rfl, ⟨nd, rfl⟩⟩; (try exact dw)) | (go_at_call 48; (with_reducible refine (impl_within.calls a0_0 1 10 true _ A17.out).mono ?_); rintro e w' ⟨rfl, ⟨nd, rfl⟩⟩; (try exact dw))))
       go_ret
       exact ⟨erq, pl1 HB.out GE171.out⟩
     ·replace c18 := Bool.eq_false_iff.mpr c18
      subst c18
      have H1 : (some false) = some r := by rw [if_neg (show ¬ (false = true) by decide)] at H; exact H
      clear H
      have H := H1
      clear H1
      obtain rfl := Option.some.inj H
      obtain ⟨hcz26_0, hcz26_1, hcz26_2, hcz26_3, hcz26_4, hfz26_0, hfz26_1, hfz26_2, hfz26_3, hfz26_4⟩ := z5 BK171.out
      go_wp2_with (first | (go_at_call 48; (with_reducible refine (impl_within.calls a0_3 1 3 t173 _ A16.out).mono ?_); rintro e w' ⟨rfl, ⟨nd, rfl⟩⟩; (try exact dw)) | (go_at_call 48; (with_reducible refine (impl_within.calls a0_0 1 10 false _ A17.out).mono ?_); rintro e w' ⟨rfl, ⟨nd, rfl⟩⟩; (try exact dw)))
      repeat (go_quiet (first | (go_at_call 48; (with_reducible refine (impl_within.calls a0_3 1 3 t173 _ A16.out).mono ?_); rintro e w' ⟨rfl, ⟨nd, rfl⟩⟩; (try exact dw)) | (go_at_call 48; (with_reducible refine (impl_within.calls a0_0 1 10 false _ A17.out).mono ?_); rintro e w' ⟨rfl, ⟨nd, rfl⟩⟩; (try exact dw))); try go_wp2_with (first | (go_at_call 48; (with_reducible refine (impl_within.calls a0_3 1 3 t173 _ A16.out).mono ?_); rintro e w' ⟨rfl, ⟨nd, rfl⟩⟩; (try exact dw)) | (go_at_call 48; (with_reducible refine (impl_within.calls a0_0 1 10 false _ A17.out).mono ?_); rintro e w' ⟨rfl, ⟨nd, rfl⟩⟩; (try exact dw))))
      go_ret
      exact ⟨erq, pl1 HB.out GE171.out⟩
    ·rw [if_neg c15] at H
     have c15b0 : (a0_0 == 5) = false := beq_eq_false_iff_ne.mpr c15
     have c15b1 : (a0_0 != 5) = true := bne_iff_ne.mpr c15
     by_cases c27 : a0_0 = 6
     ·rw [if_pos c27] at H
      have c27b0 : (a0_0 == 6) = true := beq_iff_eq.mpr c27
      have c27b1 : (a0_0 != 6) = false := bne_eq_false_iff_eq.mpr c27
      clear c27
      replace H := Option.bind_eq_some_iff.mp H
      obtain ⟨t175, A280, H⟩ := H
      replace H : ((impl_within.f a0_0 1 10).bind fun t176 => (if t176 = true then (if x3_2 = true then (if t175 = true then (if a0_4 = 0 then (some (a0_2.toList == ([] : List UInt8))) else (some false)) else (some false)) else (some false)) else (some false))) = some r := H
      have A28 := Aside0.mk A280
      clear A280
      replace H := Option.bind_eq_some_iff.mp H
      obtain ⟨t176, A290, H⟩ := H
      replace H : (if t176 = true then (if x3_2 = true then (if t175 = true then (if a0_4 = 0 then (some (a0_2.toList == ([] : List UInt8))) else (some false)) else (some false)) else (some false)) else (some false)) = some r := H
      have A29 := Aside0.mk A290
      clear A290
      by_cases c30 : t176 = true
      ·subst c30
       have H1 : (if x3_2 = true then (if t175 = true then (if a0_4 = 0 then (some (a0_2.toList == ([] : List UInt8))) else (some false)) else (some false)) else (some false)) = some r := by rw [if_pos rfl] at H; exact H
       clear H
       have H := H1
       clear H1
       by_cases c31 : x3_2 = true
       ·subst c31
        have H1 : (if t175 = true then (if a0_4 = 0 then (some (a0_2.toList == ([] : List UInt8))) else (some false)) else (some false)) = some r := by rw [if_pos rfl] at H; exact H
        clear H
        have H := H1
        clear H1
        by_cases c32 : t175 = true
        ·subst c32
         have H1 : (if a0_4 = 0 then (some (a0_2.toList == ([] : List UInt8))) else (some false)) = some r := by rw [if_pos rfl] at H; exact H
         clear H
         have H := H1
         clear H1
         by_cases c33 : a0_4 = 0
         ·rw [if_pos c33] at H
          have c33b0 : (a0_4 == 0) = true := beq_iff_eq.mpr c33
          have c33b1 : (a0_4 != 0) = false := bne_eq_false_iff_eq.mpr c33
          clear c33
          obtain rfl := Option.some.inj H
          obtain ⟨hcz34_0, hcz34_1, hcz34_2, hcz34_3, hcz34_4, hfz34_0, hfz34_1, hfz34_2, hfz34_3, hfz34_4⟩ := z5 BK171.out
          go_wp2_with (first | (go_at_call 48; (with_reducible refine (impl_within.calls a0_3 0 1000 true _ A28.out).mono ?_); rintro e w' ⟨rfl, ⟨nd, rfl⟩⟩; (try exact dw)) | (go_at_call 48; (with_reducible refine (impl_within.calls a0_0 1 10 true _ A29.out).mono ?_); rintro e w' ⟨rfl, ⟨nd, rfl⟩⟩; (try exact dw)))
          repeat (go_quiet (first | (go_at_call 48; (with_reducible refine (impl_within.calls a0_3 0 1000 true _ A28.out).mono ?_); rintro e w' ⟨rfl, ⟨nd, rfl⟩⟩; (try exact dw)) | (go_at_call 48; (with_reducible refine (impl_within.calls a0_0 1 10 true _ A29.out).mono ?_); rintro e w' ⟨rfl, ⟨nd, rfl⟩⟩; (try exact dw))); try go_wp2_with (first | (go_at_call 48; (with_reducible refine (impl_within.calls a0_3 0 1000 true _ A28.out).mono ?_); rintro e w' ⟨rfl, ⟨nd, rfl⟩⟩; (try exact dw)) | (go_at_call 48; (with_reducible refine (impl_within.calls a0_0 1 10 true _ A29.out).mono ?_); rintro e w' ⟨rfl, ⟨nd, rfl⟩⟩; (try exact dw))))
          go_ret
          exact ⟨erq, pl1 HB.out GE171.out⟩
         ·rw [if_neg c33] at H
          have c33b0 : (a0_4 == 0) = false := beq_eq_false_iff_ne.mpr c33
          have c33b1 : (a0_4 != 0) = true := bne_iff_ne.mpr c33
          obtain rfl := Option.some.inj H
          obtain ⟨hcz35_0, hcz35_1, hcz35_2, hcz35_3, hcz35_4, hfz35_0, hfz35_1, hfz35_2, hfz35_3, hfz35_4⟩ := z5 BK171.out
          go_wp2_with (first | (go_at_call 48; (with_reducible refine (impl_within.calls a0_3 0 1000 true _ A28.out).mono ?_); rintro e w' ⟨rfl, ⟨nd, rfl⟩⟩; (try exact dw)) | (go_at_call 48; (with_reducible refine (impl_within.calls a0_0 1 10 true _ A29.out).mono ?_); rintro e w' ⟨rfl, ⟨nd, rfl⟩⟩; (try exact dw)))
          repeat (go_quiet (first | (go_at_call 48; (with_reducible refine (impl_within.calls a0_3 0 1000 true _ A28.out).mono ?_); rintro e w' ⟨rfl, ⟨nd, rfl⟩⟩; (try exact dw)) | (go_at_call 48; (with_reducible refine (impl_within.calls a0_0 1 10 true _ A29.out).mono ?_); rintro e w' ⟨rfl, ⟨nd, rfl⟩⟩; (try exact dw))); try go_wp2_with (first | (go_at_call 48; (with_reducible refine (impl_within.calls a0_3 0 1000 true _ A28.out).mono ?_); rintro e w' ⟨rfl, ⟨nd, rfl⟩⟩; (try exact dw)) | (go_at_call 48; (with_reducible refine (impl_within.calls a0_0 1 10 true _ A29.out).mono ?_); rintro e w' ⟨rfl, ⟨nd, rfl⟩⟩; (try exact dw))))
          go_ret
          exact ⟨erq, pl1 HB.out GE171.out⟩
        ·replace c32 := Bool.eq_false_iff.mpr c32
         subst c32
         have H1 : (some false) = some r := by rw [if_neg (show ¬ (false = true) by decide)] at H; exact H
         clear H
         have H := H1
         clear H1
         obtain rfl := Option.some.inj H
         obtain ⟨hcz36_0, hcz36_1, hcz36_2, hcz36_3, hcz36_4, hfz36_0, hfz36_1, hfz36_2, hfz36_3, hfz36_4⟩ := z5 BK171.out
         go_wp2_with (first | (go_at_call 48; (with_reducible refine (impl_within.calls a0_3 0 1000 false _ A28.out).mono ?_); rintro e w' ⟨rfl, ⟨nd, rfl⟩⟩; (try exact dw)) | (go_at_call 48; (with_reducible refine (impl_within.calls a0_0 1 10 true _ A29.out).mono ?_); rintro e w' ⟨rfl, ⟨nd, rfl⟩⟩; (try exact dw)))
         repeat (go_quiet (first | (go_at_call 48; (with_reducible refine (impl_within.calls a0_3 0 1000 false _ A28.out).mono ?_); rintro e w' ⟨rfl, ⟨nd, rfl⟩⟩; (try exact dw)) | (go_at_call 48; (with_reducible refine (impl_within.calls a0_0 1 10 true _ A29.out).mono ?_); rintro e w' ⟨rfl, ⟨nd, rfl⟩⟩; (try exact dw))); try go_wp2_with (first | (go_at_call 48; (with_reducible refine (impl_within.calls a0_3 0 1000 false _ A28.out).mono ?_); rintro e w' ⟨rfl, ⟨nd, rfl⟩⟩; (try exact dw)) | (go_at_call 48; (with_reducible refine (impl_within.calls a0_0 1 10 true _ A29.out).mono ?_); rintro e w' ⟨rfl, ⟨nd, rfl⟩⟩; (try exact dw))))
         go_ret
         exact ⟨erq, pl1 HB.out GE171.out⟩
       ·replace c31 := Bool.eq_false_iff.mpr c31
        subst c31
        have H1 : (some false) = some r := by rw [if_neg (show ¬ (false = true) by decide)] at H; exact H
        clear H
        have H := H1
        clear H1
        obtain rfl := Option.some.inj H
        obtain ⟨hcz37_0, hcz37_1, hcz37_2, hcz37_3, hcz37_4, hfz37_0, hfz37_1, hfz37_2, hfz37_3, hfz37_4⟩ := z5 BK171.out
        go_wp2_with (first | (go_at_call 48; (with_reducible refine (impl_within.calls a0_3 0 1000 t175 _ A28.out).mono ?_); rintro e w' ⟨rfl, ⟨nd, rfl⟩⟩; (try exact dw)) | (go_at_call 48; (with_reducible refine (impl_within.calls a0_0 1 10 true _ A29.out).mono ?_); rintro e w' ⟨rfl, ⟨nd, rfl⟩⟩; (try exact dw)))
        repeat (go_quiet (first | (go_at_call 48; (with_reducible refine (impl_within.calls a0_3 0 1000 t175 _ A28.out).mono ?_); rintro e w' ⟨rfl, ⟨nd, rfl⟩⟩; (try exact dw)) | (go_at_call 48; (with_reducible refine (impl_within.calls a0_0 1 10 true _ A29.out).mono ?_); rintro e w' ⟨rfl, ⟨nd, rfl⟩⟩; (try exact dw))); try go_wp2_with (first | (go_at_call 48; (with_reducible refine (impl_within.calls a0_3 0 1000 t175 _ A28.out).mono ?_); rintro e w' ⟨rfl, ⟨nd, rfl⟩⟩; (try exact dw)) | (go_at_call 48; (with_reducible refine (impl_within.calls a0_0 1 10 true _ A29.out).mono ?_); rintro e w' ⟨rfl, ⟨nd, rfl⟩⟩; (try exact dw))))
        go_ret
        exact ⟨erq, pl1 HB.out GE171.out⟩
      ·replace c30 := Bool.eq_false_iff.mpr c30
       subst c30
       have H1 : (some false) = some r := by rw [if_neg (show ¬ (false = true) by decide)] at H; exact H
       clear H
       have H := H1
       clear H1
       obtain rfl := Option.some.inj H
       obtain ⟨hcz38_0, hcz38_1, hcz38_2, hcz38_3, hcz38_4, hfz38_0, hfz38_1, hfz38_2, hfz38_3, hfz38_4⟩ := z5 BK171.out
       go_wp2_with (first | (go_at_call 48; (with_reducible refine (impl_within.calls a0_3 0 1000 t175 _ A28.out).mono ?_); rintro e w' ⟨rfl, ⟨nd, rfl⟩⟩; (try exact dw)) | (go_at_call 48; (with_reducible refine (impl_within.calls a0_0 1 10 false _ A29.out).mono ?_); rintro e w' ⟨rfl, ⟨nd, rfl⟩⟩; (try exact dw)))
       repeat (go_quiet (first | (go_at_call 48; (with_reducible refine (impl_within.calls a0_3 0 1000 t175 _ A28.out).mono ?_); rintro e w' ⟨rfl, ⟨nd, rfl⟩⟩; (try exact dw)) | (go_at_call 48; (with_reducible refine (impl_within.calls a0_0 1 10 false _ A29.out).mono ?_); rintro e w' ⟨rfl, ⟨nd, rfl⟩⟩; (try exact dw))); try go_wp2_with (first | (go_at_call 48; (with_reducible refine (impl_within.calls a0_3 0 1000 t175 _ A28.out).mono ?_); rintro e w' ⟨rfl, ⟨nd, rfl⟩⟩; (try exact dw)) | (go_at_call 48; (with_reducible refine (impl_within.calls a0_0 1 10 false _ A29.out).mono ?_); rintro e w' ⟨rfl, ⟨nd, rfl⟩⟩; (try exact dw))))
       go_ret
       exact ⟨erq, pl1 HB.out GE171.out⟩
     ·rw [if_neg c27] at H
      have c27b0 : (a0_0 == 6) = false := beq_eq_false_iff_ne.mpr c27
      have c27b1 : (a0_0 != 6) = true := bne_iff_ne.mpr c27
      by_cases c39 : a0_0 = 7
      ·rw [if_pos c39] at H
       have c39b0 : (a0_0 == 7) = true := beq_iff_eq.mpr c39
       have c39b1 : (a0_0 != 7) = false := bne_eq_false_iff_eq.mpr c39
       clear c39
       replace H := Option.bind_eq_some_iff.mp H
       obtain ⟨t177, A400, H⟩ := H
       replace H : ((impl_within.f a0_0 1 10).bind fun t178 => (if t178 = true then (if x3_2 = true then (if t177 = true then (if a0_4 = 0 then (some (a0_2.toList == ([] : List UInt8))) else (some false)) else (some false)) else (some false)) else (some false))) = some r := H
       have A40 := Aside0.mk A400
       clear A400
       replace H := Option.bind_eq_some_iff.mp H
       obtain ⟨t178, A410, H⟩ := H
       replace H : (if t178 = true then (if x3_2 = true then (if t177 = true then (if a0_4 = 0 then (some (a0_2.toList == ([] : List UInt8))) else (some false)) else (some false)) else (some false)) else (some false)) = some r := H
       have A41 := Aside0.mk A410
       clear A410
       by_cases c42 : t178 = true
       ·subst c42
        have H1 : (if x3_2 = true then (if t177 = true then (if a0_4 = 0 then (some (a0_2.toList == ([] : List UInt8))) else (some false)) else (some false)) else (some false)) = some r := by rw [if_pos rfl] at H; exact H
        clear H
        have H := H1
        clear H1
        by_cases c43 : x3_2 = true
        ·subst c43
         have H1 : (if t177 = true then (if a0_4 = 0 then (some (a0_2.toList == ([] : List UInt8))) else (some false)) else (some false)) = some r := by rw [if_pos rfl] at H; exact H
         clear H
         have H := H1
         clear H1
         by_cases c44 : t177 = true
         ·subst c44
          have H1 : (if a0_4 = 0 then (some (a0_2.toList == ([] : List UInt8))) else (some false)) = some r := by rw [if_pos rfl] at H; exact H
          clear H
          have H := H1
          clear H1
          by_cases c45 : a0_4 = 0
          ·rw [if_pos c45] at H
           have c45b0 : (a0_4 == 0) = true := beq_iff_eq.mpr c45
           have c45b1 : (a0_4 != 0) = false := bne_eq_false_iff_eq.mpr c45
           clear c45
           obtain rfl := Option.some.inj H
           obtain ⟨hcz46_0, hcz46_1, hcz46_2, hcz46_3, hcz46_4, hfz46_0, hfz46_1, hfz46_2, hfz46_3, hfz46_4⟩ := z5 BK171.out
           go_wp2_with (first | (go_at_call 48; (with_reducible refine (impl_within.calls a0_3 1 200 true _ A40.out).mono ?_); rintro e w' ⟨rfl, ⟨nd, rfl⟩⟩; (try exact dw)) | (go_at_call 48; (with_reducible refine (impl_within.calls a0_0 1 10 true _ A41.out).mono ?_); rintro e w' ⟨rfl, ⟨nd, rfl⟩⟩; (try exact dw)))
           repeat (go_quiet (first | (go_at_call 48; (with_reducible refine (impl_within.calls a0_3 1 200 true _ A40.out).mono ?_); rintro e w' ⟨rfl, ⟨nd, rfl⟩⟩; (try exact dw)) | (go_at_call 48; (with_reducible refine (impl_within.calls a0_0 1 10 true _ A41.out).mono ?_); rintro e w' ⟨rfl, ⟨nd, rfl⟩⟩; (try exact dw))); try go_wp2_with (first | (go_at_call 48; (with_reducible refine (impl_within.calls a0_3 1 200 true _ A40.out).mono ?_); rintro e w' ⟨rfl, ⟨nd, rfl⟩⟩; (try exact dw)) | (go_at_call 48; (with_reducible refine (impl_within.calls a0_0 1 10 true _ A41.out).mono ?_); rintro e w' ⟨rfl, ⟨nd, rfl⟩⟩; (try exact dw))))
           go_ret
           exact ⟨erq, pl1 HB.out GE171.out⟩
          ·rw [if_neg c45] at H
           have c45b0 : (a0_4 == 0) = false := beq_eq_false_iff_ne.mpr c45
           have c45b1 : (a0_4 != 0) = true := bne_iff_ne.mpr c45
           obtain rfl := Option.some.inj H
           obtain ⟨hcz47_0, hcz47_1, hcz47_2, hcz47_3, hcz47_4, hfz47_0, hfz47_1, hfz47_2, hfz47_3, hfz47_4⟩ := z5 BK171.out
           go_wp2_with (first | (go_at_call 48; (with_reducible refine (impl_within.calls a0_3 1 200 true _ A40.out).mono ?_); rintro e w' ⟨rfl, ⟨nd, rfl⟩⟩; (try exact dw)) | (go_at_call 48; (with_reducible refine (impl_within.calls a0_0 1 10 true _ A41.out).mono ?_); rintro e w' ⟨rfl, ⟨nd, rfl⟩⟩; (try exact dw)))
           repeat (go_quiet (first | (go_at_call 48; (with_reducible refine (impl_within.calls a0_3 1 200 true _ A40.out).mono ?_); rintro e w' ⟨rfl, ⟨nd, rfl⟩⟩; (try exact dw)) | (go_at_call 48; (with_reducible refine (impl_within.calls a0_0 1 10 true _ A41.out).mono ?_); rintro e w' ⟨rfl, ⟨nd, rfl⟩⟩; (try exact dw))); try go_wp2_with (first | (go_at_call 48; (with_reducible refine (impl_within.calls a0_3 1 200 true _ A40.out).mono ?_); rintro e w' ⟨rfl, ⟨nd, rfl⟩⟩; (try exact dw)) | (go_at_call 48; (with_reducible refine (impl_within.calls a0_0 1 10 true _ A41.out).mono ?_); rintro e w' ⟨rfl, ⟨nd, rfl⟩⟩; (try exact dw))))
           go_ret
           exact ⟨erq, pl1 HB.out GE171.out⟩
         ·replace c44 := Bool.eq_false_iff.mpr c44
          subst c44
          have H1 : (some false) = some r := by rw [if_neg (show ¬ (false = true) by decide)] at H; exact H
          clear H
          have H := H1
          clear H1
          obtain rfl := Option.some.inj H
          obtain ⟨hcz48_0, hcz48_1, hcz48_2, hcz48_3, hcz48_4, hfz48_0, hfz48_1, hfz48_2, hfz48_3, hfz48_4⟩ := z5 BK171.out
          go_wp2_with (first | (go_at_call 48; (with_reducible refine (impl_within.calls a0_3 1 200 false _ A40.out).mono ?_); rintro e w' ⟨rfl, ⟨nd, rfl⟩⟩; (try exact dw)) | (go_at_call 48; (with_reducible refine (impl_within.calls a0_0 1 10 true _ A41.out).mono ?_); rintro e w' ⟨rfl, ⟨nd, rfl⟩⟩; (try exact dw)))
          repeat (go_quiet (first | (go_at_call 48; (with_reducible refine (impl_within.calls a0_3 1 200 false _ A40.out).mono ?_); rintro e w' ⟨rfl, ⟨nd, rfl⟩⟩; (try exact dw)) | (go_at_call 48; (with_reducible refine (impl_within.calls a0_0 1 10 true _ A41.out).mono ?_); rintro e w' ⟨rfl, ⟨nd, rfl⟩⟩; (try exact dw))); try go_wp2_with (first | (go_at_call 48; (with_reducible refine (impl_within.calls a0_3 1 200 false _ A40.out).mono ?_); rintro e w' ⟨rfl, ⟨nd, rfl⟩⟩; (try exact dw)) | (go_at_call 48; (with_reducible refine (impl_within.calls a0_0 1 10 true _ A41.out).mono ?_); rintro e w' ⟨rfl, ⟨nd, rfl⟩⟩; (try exact dw))))
          go_ret
          exact ⟨erq, pl1 HB.out GE171.out⟩
        ·replace c43 := Bool.eq_false_iff.mpr c43
         subst c43
         have H1 : (some false) = some r := by rw [if_neg (show ¬ (false = true) by decide)] at H; exact H
         clear H
         have H := H1
         clear H1
         obtain rfl := Option.some.inj H
         obtain ⟨hcz49_0, hcz49_1, hcz49_2, hcz49_3, hcz49_4, hfz49_0, hfz49_1, hfz49_2, hfz49_3, hfz49_4⟩ := z5 BK171.out
         go_wp2_with (first | (go_at_call 48; (with_reducible refine (impl_within.calls a0_3 1 200 t177 _ A40.out).mono ?_); rintro e w' ⟨rfl, ⟨nd, rfl⟩⟩; (try exact dw)) | (go_at_call 48; (with_reducible refine (impl_within.calls a0_0 1 10 true _ A41.out).mono ?_); rintro e w' ⟨rfl, ⟨nd, rfl⟩⟩; (try exact dw)))
         repeat (go_quiet (first | (go_at_call 48; (with_reducible refine (impl_within.calls a0_3 1 200 t177 _ A40.out).mono ?_); rintro e w' ⟨rfl, ⟨nd, rfl⟩⟩; (try exact dw)) | (go_at_call 48; (with_reducible refine (impl_within.calls a0_0 1 10 true _ A41.out).mono ?_); rintro e w' ⟨rfl, ⟨nd, rfl⟩⟩; (try exact dw))); try go_wp2_with (first | (go_at_call 48; (with_reducible refine (impl_within.calls a0_3 1 200 t177 _ A40.out).mono ?_); rintro e w' ⟨rfl, ⟨nd, rfl⟩⟩; (try exact dw)) | (go_at_call 48; (with_reducible refine (impl_within.calls a0_0 1 10 true _ A41.out).mono ?_); rintro e w' ⟨rfl, ⟨nd, rfl⟩⟩; (try exact dw))))
         go_ret
         exact ⟨erq, pl1 HB.out GE171.out⟩
       ·replace c42 := Bool.eq_false_iff.mpr c42
        subst c42
        have H1 : (some false) = some r := by rw [if_neg (show ¬ (false = true) by decide)] at H; exact H
        clear H
        have H := H1
        clear H1
        obtain rfl := Option.some.inj H
        obtain ⟨hcz50_0, hcz50_1, hcz50_2, hcz50_3, hcz50_4, hfz50_0, hfz50_1, hfz50_2, hfz50_3, hfz50_4⟩ := z5 BK171.out
        go_wp2_with (first | (go_at_call 48; (with_reducible refine (impl_within.calls a0_3 1 200 t177 _ A40.out).mono ?_); rintro e w' ⟨rfl, ⟨nd, rfl⟩⟩; (try exact dw)) | (go_at_call 48; (with_reducible refine (impl_within.calls a0_0 1 10 false _ A41.out).mono ?_); rintro e w' ⟨rfl, ⟨nd, rfl⟩⟩; (try exact dw)))
        repeat (go_quiet (first | (go_at_call 48; (with_reducible refine (impl_within.calls a0_3 1 200 t177 _ A40.out).mono ?_); rintro e w' ⟨rfl, ⟨nd, rfl⟩⟩; (try exact dw)) | (go_at_call 48; (with_reducible refine (impl_within.calls a0_0 1 10 false _ A41.out).mono ?_); rintro e w' ⟨rfl, ⟨nd, rfl⟩⟩; (try exact dw))); try go_wp2_with (first | (go_at_call 48; (with_reducible refine (impl_within.calls a0_3 1 200 t177 _ A40.out).mono ?_); rintro e w' ⟨rfl, ⟨nd, rfl⟩⟩; (try exact dw)) | (go_at_call 48; (with_reducible refine (impl_within.calls a0_0 1 10 false _ A41.out).mono ?_); rintro e w' ⟨rfl, ⟨nd, rfl⟩⟩; (try exact dw))))
        go_ret
        exact ⟨erq, pl1 HB.out GE171.out⟩
      ·rw [if_neg c39] at H
       have c39b0 : (a0_0 == 7) = false := beq_eq_false_iff_ne.mpr c39
       have c39b1 : (a0_0 != 7) = true := bne_iff_ne.mpr c39
       have HC51 := Aside0.mk H
       clear H
       obtain ⟨hcz52_0, hcz52_1, hcz52_2, hcz52_3, hcz52_4, hfz52_0, hfz52_1, hfz52_2, hfz52_3, hfz52_4⟩ := z5 BK171.out
       go_upto_if 52 with (fail)
       repeat (go_quiet (fail); go_upto_if 52 with (fail))
       go_cut [52] (fun v52 wc => ∃ (kq : Nat) (x52_50 : Bool), v52 = .bool x52_50 ∧ Aside0 (impl_EditOk.j2 kq x3_2 (a0_3 == 0) (a0_4 == 0) (a0_2.toList == ([] : List UInt8)) a0_0 x52_50 a0_0 a0_1 a0_2 a0_3 a0_4 = some r) ∧ Aside0 (kq ≤ kj2) ∧ Aside0 (wc.heap[gb171]? = some (.cells #[.int .i64 a0_0, .string a0_1, .string a0_2, .int .i64 a0_3, .int .i64 a0_4] 34 (0, 0))) ∧ Aside0 (Below w.heap.size w wc))
       case first =>
        have H := HC51.out
        clear HC51
        by_cases c53 : a0_0 = 2
        ·rw [if_pos c53] at H
         have c53b0 : (a0_0 == 2) = true := beq_iff_eq.mpr c53
         have c53b1 : (a0_0 != 2) = false := bne_eq_false_iff_eq.mpr c53
         clear c53
         (first | rw [c53b0] | (simp only [i64_w, i32_w]; rw [c53b0]) | skip)
         have H' := Aside0.mk H
         clear H
         go_wp2
         repeat (go_quiet (fail); try go_wp2)
         go_meet
         case rel => exact ⟨_, ((a0_0 == 2)), eqa, H', ⟨by have := HJ2.out; first | omega | exact Nat.le_refl _⟩, ⟨pk BK171.out⟩, ⟨pl1 HB.out GE171.out⟩⟩
        ·rw [if_neg c53] at H
         have c53b0 : (a0_0 == 2) = false := beq_eq_false_iff_ne.mpr c53
         have c53b1 : (a0_0 != 2) = true := bne_iff_ne.mpr c53
         (first | rw [c53b0] | (simp only [i64_w, i32_w]; rw [c53b0]) | skip)
         have H' := Aside0.mk H
         clear H
         go_wp2
         repeat (go_quiet (fail); try go_wp2)
         go_meet
         case rel => exact ⟨_, ((a0_0 == 9)), eqa, H', ⟨by have := HJ2.out; first | omega | exact Nat.le_refl _⟩, ⟨pk BK171.out⟩, ⟨pl1 HB.out GE171.out⟩⟩
       case rest =>
        clear HC51
        try clear c15; try clear c15b0; try clear c15b1; try clear c27; try clear c27b0; try clear c27b1; try clear c39; try clear c39b0; try clear c39b1; try clear hcz52_0; try clear hcz52_1; try clear hcz52_2; try clear hcz52_3; try clear hcz52_4; try clear hfz52_0; try clear hfz52_1; try clear hfz52_2; try clear hfz52_3; try clear hfz52_4
        obtain ⟨kq, x52_50, rfl, HA, HJ50, BK171, HB⟩ := hcut
        cases kq with
        | zero => exact absurd HA.out (by simp [impl_EditOk.j2])
        | succ kj50 =>
         have H := HA.out
         clear HA
         simp only [impl_EditOk.j2] at H
         by_cases c54 : x52_50 = true
         ·subst c54
          have H1 : ((impl_within.f a0_4 1 9).bind fun t179 => ((impl_within.f a0_0 1 10).bind fun t180 => (if t180 = true then (if x3_2 = true then (if (a0_3 == 0) = true then (if t179 = true then (some (a0_2.toList == ([] : List UInt8))) else (some false)) else (some false)) else (some false)) else (some false)))) = some r := by rw [if_pos rfl] at H; exact H
          clear H
          have H := H1
          clear H1
          replace H := Option.bind_eq_some_iff.mp H
          obtain ⟨t179, A550, H⟩ := H
          replace H : ((impl_within.f a0_0 1 10).bind fun t180 => (if t180 = true then (if x3_2 = true then (if (a0_3 == 0) = true then (if t179 = true then (some (a0_2.toList == ([] : List UInt8))) else (some false)) else (some false)) else (some false)) else (some false))) = some r := H
          have A55 := Aside0.mk A550
          clear A550
          replace H := Option.bind_eq_some_iff.mp H
          obtain ⟨t180, A560, H⟩ := H
          replace H : (if t180 = true then (if x3_2 = true then (if (a0_3 == 0) = true then (if t179 = true then (some (a0_2.toList == ([] : List UInt8))) else (some false)) else (some false)) else (some false)) else (some false)) = some r := H
          have A56 := Aside0.mk A560
          clear A560
          by_cases c57 : t180 = true
          ·subst c57
           have H1 : (if x3_2 = true then (if (a0_3 == 0) = true then (if t179 = true then (some (a0_2.toList == ([] : List UInt8))) else (some false)) else (some false)) else (some false)) = some r := by rw [if_pos rfl] at H; exact H
           clear H
           have H := H1
           clear H1
           by_cases c58 : x3_2 = true
           ·subst c58
            have H1 : (if (a0_3 == 0) = true then (if t179 = true then (some (a0_2.toList == ([] : List UInt8))) else (some false)) else (some false)) = some r := by rw [if_pos rfl] at H; exact H
            clear H
            have H := H1
            clear H1
            by_cases c59 : (a0_3 == 0) = true
            ·rw [if_pos c59] at H
             have c59b0 : (a0_3 == 0) = true := c59
             (try (have c59b1 : decide (a0_3 = 0) = true := by simpa using c59))
             (try (have c59b2 : (a0_3 == 0) = true := by simpa using c59))
             clear c59
             by_cases c60 : t179 = true
             ·subst c60
              have H1 : (some (a0_2.toList == ([] : List UInt8))) = some r := by rw [if_pos rfl] at H; exact H
              clear H
              have H := H1
              clear H1
              obtain rfl := Option.some.inj H
              obtain ⟨hcz61_0, hcz61_1, hcz61_2, hcz61_3, hcz61_4, hfz61_0, hfz61_1, hfz61_2, hfz61_3, hfz61_4⟩ := z5 BK171.out
              go_wp2_with (first | (go_at_call 48; (with_reducible refine (impl_within.calls a0_4 1 9 true _ A55.out).mono ?_); rintro e w' ⟨rfl, ⟨nd, rfl⟩⟩; (try exact dw)) | (go_at_call 48; (with_reducible refine (impl_within.calls a0_0 1 10 true _ A56.out).mono ?_); rintro e w' ⟨rfl, ⟨nd, rfl⟩⟩; (try exact dw)))
              repeat (go_quiet (first | (go_at_call 48; (with_reducible refine (impl_within.calls a0_4 1 9 true _ A55.out).mono ?_); rintro e w' ⟨rfl, ⟨nd, rfl⟩⟩; (try exact dw)) | (go_at_call 48; (with_reducible refine (impl_within.calls a0_0 1 10 true _ A56.out).mono ?_); rintro e w' ⟨rfl, ⟨nd, rfl⟩⟩; (try exact dw))); try go_wp2_with (first | (go_at_call 48; (with_reducible refine (impl_within.calls a0_4 1 9 true _ A55.out).mono ?_); rintro e w' ⟨rfl, ⟨nd, rfl⟩⟩; (try exact dw)) | (go_at_call 48; (with_reducible refine (impl_within.calls a0_0 1 10 true _ A56.out).mono ?_); rintro e w' ⟨rfl, ⟨nd, rfl⟩⟩; (try exact dw))))
              go_ret
              exact ⟨erq, pl1 HB.out GE171.out⟩
             ·replace c60 := Bool.eq_false_iff.mpr c60
              subst c60
              have H1 : (some false) = some r := by rw [if_neg (show ¬ (false = true) by decide)] at H; exact H
              clear H
              have H := H1
              clear H1
              obtain rfl := Option.some.inj H
              obtain ⟨hcz62_0, hcz62_1, hcz62_2, hcz62_3, hcz62_4, hfz62_0, hfz62_1, hfz62_2, hfz62_3, hfz62_4⟩ := z5 BK171.out
              go_wp2_with (first | (go_at_call 48; (with_reducible refine (impl_within.calls a0_4 1 9 false _ A55.out).mono ?_); rintro e w' ⟨rfl, ⟨nd, rfl⟩⟩; (try exact dw)) | (go_at_call 48; (with_reducible refine (impl_within.calls a0_0 1 10 true _ A56.out).mono ?_); rintro e w' ⟨rfl, ⟨nd, rfl⟩⟩; (try exact dw)))
              repeat (go_quiet (first | (go_at_call 48; (with_reducible refine (impl_within.calls a0_4 1 9 false _ A55.out).mono ?_); rintro e w' ⟨rfl, ⟨nd, rfl⟩⟩; (try exact dw)) | (go_at_call 48; (with_reducible refine (impl_within.calls a0_0 1 10 true _ A56.out).mono ?_); rintro e w' ⟨rfl, ⟨nd, rfl⟩⟩; (try exact dw))); try go_wp2_with (first | (go_at_call 48; (with_reducible refine (impl_within.calls a0_4 1 9 false _ A55.out).mono ?_); rintro e w' ⟨rfl, ⟨nd, rfl⟩⟩; (try exact dw)) | (go_at_call 48; (with_reducible refine (impl_within.calls a0_0 1 10 true _ A56.out).mono ?_); rintro e w' ⟨rfl, ⟨nd, rfl⟩⟩; (try exact dw))))
              go_ret
              exact ⟨erq, pl1 HB.out GE171.out⟩
            ·rw [if_neg c59] at H
             have c59b0 : (a0_3 == 0) = false := by simpa using c59
             (try (have c59b1 : decide (a0_3 = 0) = false := by simpa using c59))
             (try (have c59b2 : (a0_3 == 0) = false := by simpa using c59))
             (try (have c59b3 : ¬ (a0_3 = 0) := by simpa using c59))
             clear c59
             obtain rfl := Option.some.inj H
             obtain ⟨hcz63_0, hcz63_1, hcz63_2, hcz63_3, hcz63_4, hfz63_0, hfz63_1, hfz63_2, hfz63_3, hfz63_4⟩ := z5 BK171.out
             go_wp2_with (first | (go_at_call 48; (with_reducible refine (impl_within.calls a0_4 1 9 t179 _ A55.out).mono ?_); rintro e w' ⟨rfl, ⟨nd, rfl⟩⟩; (try exact dw)) | (go_at_call 48; (with_reducible refine (impl_within.calls a0_0 1 10 true _ A56.out).mono ?_); rintro e w' ⟨rfl, ⟨nd, rfl⟩⟩; (try exact dw)))
             repeat (go_quiet (first | (go_at_call 48; (with_reducible refine (impl_within.calls a0_4 1 9 t179 _ A55.out).mono ?_); rintro e w' ⟨rfl, ⟨nd, rfl⟩⟩; (try exact dw)) | (go_at_call 48; (with_reducible refine (impl_within.calls a0_0 1 10 true _ A56.out).mono ?_); rintro e w' ⟨rfl, ⟨nd, rfl⟩⟩; (try exact dw))); try go_wp2_with (first | (go_at_call 48; (with_reducible refine (impl_within.calls a0_4 1 9 t179 _ A55.out).mono ?_); rintro e w' ⟨rfl, ⟨nd, rfl⟩⟩; (try exact dw)) | (go_at_call 48; (with_reducible refine (impl_within.calls a0_0 1 10 true _ A56.out).mono ?_); rintro e w' ⟨rfl, ⟨nd, rfl⟩⟩; (try exact dw))))
             go_ret
             exact ⟨erq, pl1 HB.out GE171.out⟩
           ·replace c58 := Bool.eq_false_iff.mpr c58
            subst c58
            have H1 : (some false) = some r := by rw [if_neg (show ¬ (false = true) by decide)] at H; exact H
            clear H
            have H := H1
            clear H1
            obtain rfl := Option.some.inj H
            obtain ⟨hcz64_0, hcz64_1, hcz64_2, hcz64_3, hcz64_4, hfz64_0, hfz64_1, hfz64_2, hfz64_3, hfz64_4⟩ := z5 BK171.out
            go_wp2_with (first | (go_at_call 48; (with_reducible refine (impl_within.calls a0_4 1 9 t179 _ A55.out).mono ?_); rintro e w' ⟨rfl, ⟨nd, rfl⟩⟩; (try exact dw)) | (go_at_call 48; (with_reducible refine (impl_within.calls a0_0 1 10 true _ A56.out).mono ?_); rintro e w' ⟨rfl, ⟨nd, rfl⟩⟩; (try exact dw)))
            repeat (go_quiet (first | (go_at_call 48; (with_reducible refine (impl_within.calls a0_4 1 9 t179 _ A55.out).mono ?_); rintro e w' ⟨rfl, ⟨nd, rfl⟩⟩; (try exact dw)) | (go_at_call 48; (with_reducible refine (impl_within.calls a0_0 1 10 true _ A56.out).mono ?_); rintro e w' ⟨rfl, ⟨nd, rfl⟩⟩; (try exact dw))); try go_wp2_with (first | (go_at_call 48; (with_reducible refine (impl_within.calls a0_4 1 9 t179 _ A55.out).mono ?_); rintro e w' ⟨rfl, ⟨nd, rfl⟩⟩; (try exact dw)) | (go_at_call 48; (with_reducible refine (impl_within.calls a0_0 1 10 true _ A56.out).mono ?_); rintro e w' ⟨rfl, ⟨nd, rfl⟩⟩; (try exact dw))))
            go_ret
            exact ⟨erq, pl1 HB.out GE171.out⟩
          ·replace c57 := Bool.eq_false_iff.mpr c57
           subst c57
           have H1 : (some false) = some r := by rw [if_neg (show ¬ (false = true) by decide)] at H; exact H
           clear H
           have H := H1
           clear H1
           obtain rfl := Option.some.inj H
           obtain ⟨hcz65_0, hcz65_1, hcz65_2, hcz65_3, hcz65_4, hfz65_0, hfz65_1, hfz65_2, hfz65_3, hfz65_4⟩ := z5 BK171.out
           go_wp2_with (first | (go_at_call 48; (with_reducible refine (impl_within.calls a0_4 1 9 t179 _ A55.out).mono ?_); rintro e w' ⟨rfl, ⟨nd, rfl⟩⟩; (try exact dw)) | (go_at_call 48; (with_reducible refine (impl_within.calls a0_0 1 10 false _ A56.out).mono ?_); rintro e w' ⟨rfl, ⟨nd, rfl⟩⟩; (try exact dw)))
           repeat (go_quiet (first | (go_at_call 48; (with_reducible refine (impl_within.calls a0_4 1 9 t179 _ A55.out).mono ?_); rintro e w' ⟨rfl, ⟨nd, rfl⟩⟩; (try exact dw)) | (go_at_call 48; (with_reducible refine (impl_within.calls a0_0 1 10 false _ A56.out).mono ?_); rintro e w' ⟨rfl, ⟨nd, rfl⟩⟩; (try exact dw))); try go_wp2_with (first | (go_at_call 48; (with_reducible refine (impl_within.calls a0_4 1 9 t179 _ A55.out).mono ?_); rintro e w' ⟨rfl, ⟨nd, rfl⟩⟩; (try exact dw)) | (go_at_call 48; (with_reducible refine (impl_within.calls a0_0 1 10 false _ A56.out).mono ?_); rintro e w' ⟨rfl, ⟨nd, rfl⟩⟩; (try exact dw))))
           go_ret
           exact ⟨erq, pl1 HB.out GE171.out⟩
         ·replace c54 := Bool.eq_false_iff.mpr c54
          subst c54
          have H1 : (if a0_0 = 3 then ((impl_named.f kj50 a0_2).bind fun t181 => ((impl_within.f a0_0 1 10).bind fun t182 => (if t182 = true then (if x3_2 = true then (if (a0_3 == 0) = true then (if (a0_4 == 0) = true then (some t181) else (some false)) else (some false)) else (some false)) else (some false)))) else ((impl_within.f a0_0 1 10).bind fun t183 => (if t183 = true then (if x3_2 = true then (if (a0_3 == 0) = true then (if (a0_4 == 0) = true then (some (a0_2.toList == ([] : List UInt8))) else (some false)) else (some false)) else (some false)) else (some false)))) = some r := by rw [if_neg (show ¬ (false = true) by decide)] at H; exact H
          clear H
          have H := H1
          clear H1
          by_cases c66 : a0_0 = 3
          ·rw [if_pos c66] at H
           have c66b0 : (a0_0 == 3) = true := beq_iff_eq.mpr c66
           have c66b1 : (a0_0 != 3) = false := bne_eq_false_iff_eq.mpr c66
           clear c66
           replace H := Option.bind_eq_some_iff.mp H
           obtain ⟨t181, A670, H⟩ := H
           replace H : ((impl_within.f a0_0 1 10).bind fun t182 => (if t182 = true then (if x3_2 = true then (if (a0_3 == 0) = true then (if (a0_4 == 0) = true then (some t181) else (some false)) else (some false)) else (some false)) else (some false))) = some r := H
           have A67 := Aside0.mk A670
           clear A670
           replace H := Option.bind_eq_some_iff.mp H
           obtain ⟨t182, A680, H⟩ := H
           replace H : (if t182 = true then (if x3_2 = true then (if (a0_3 == 0) = true then (if (a0_4 == 0) = true then (some t181) else (some false)) else (some false)) else (some false)) else (some false)) = some r := H
           have A68 := Aside0.mk A680
           clear A680
           by_cases c69 : t182 = true
           ·subst c69
            have H1 : (if x3_2 = true then (if (a0_3 == 0) = true then (if (a0_4 == 0) = true then (some t181) else (some false)) else (some false)) else (some false)) = some r := by rw [if_pos rfl] at H; exact H
            clear H
            have H := H1
            clear H1
            by_cases c70 : x3_2 = true
            ·subst c70
             have H1 : (if (a0_3 == 0) = true then (if (a0_4 == 0) = true then (some t181) else (some false)) else (some false)) = some r := by rw [if_pos rfl] at H; exact H
             clear H
             have H := H1
             clear H1
             by_cases c71 : (a0_3 == 0) = true
             ·rw [if_pos c71] at H
              have c71b0 : (a0_3 == 0) = true := c71
              (try (have c71b1 : decide (a0_3 = 0) = true := by simpa using c71))
              (try (have c71b2 : (a0_3 == 0) = true := by simpa using c71))
              clear c71
              by_cases c72 : (a0_4 == 0) = true
              ·rw [if_pos c72] at H
               have c72b0 : (a0_4 == 0) = true := c72
               (try (have c72b1 : decide (a0_4 = 0) = true := by simpa using c72))
               (try (have c72b2 : (a0_4 == 0) = true := by simpa using c72))
               clear c72
               obtain rfl := Option.some.inj H
               obtain ⟨hcz73_0, hcz73_1, hcz73_2, hcz73_3, hcz73_4, hfz73_0, hfz73_1, hfz73_2, hfz73_3, hfz73_4⟩ := z5 BK171.out
               go_wp2_with (first | (go_at_call 47; (with_reducible refine (impl_named.calls kj50 a0_2 t181 _ A67.out ?mg).mono ?_); (case mg => exact HG.out.on (pl0 HB.out)); rintro e w74 ⟨rfl, hb⟩; have n0_ := Aside0.mk (pb BK171.out hb); have n1_ := Aside0.mk (below_step (pl1 HB.out GE171.out) hb); clear BK171; clear HB; have BK171 := n0_; have HB := n1_; clear n0_ n1_; (try clear hb); (try clear hb2); (try clear hk); (try clear hi); have hcz75_0 : w74.cell? ⟨gb171, 0, none⟩ = some (.int .i64 a0_0) := (blk_cell BK171.out 0).trans rfl; have hcz75_1 : w74.cell? ⟨gb171, 1, none⟩ = some (.string a0_1) := (blk_cell BK171.out 1).trans rfl; have hcz75_2 : w74.cell? ⟨gb171, 2, none⟩ = some (.string a0_2) := (blk_cell BK171.out 2).trans rfl; have hcz75_3 : w74.cell? ⟨gb171, 3, none⟩ = some (.int .i64 a0_3) := (blk_cell BK171.out 3).trans rfl; have hcz75_4 : w74.cell? ⟨gb171, 4, none⟩ = some (.int .i64 a0_4) := (blk_cell BK171.out 4).trans rfl; have hfz75_0 := blk_frozen BK171.out 0; have hfz75_1 := blk_frozen BK171.out 1; have hfz75_2 := blk_frozen BK171.out 2; have hfz75_3 := blk_frozen BK171.out 3; have hfz75_4 := blk_frozen BK171.out 4) | (go_at_call 48; (with_reducible refine (impl_within.calls a0_0 1 10 true _ A68.out).mono ?_); rintro e w' ⟨rfl, ⟨nd, rfl⟩⟩; (try exact dw)))
               repeat (go_quiet (first | (go_at_call 47; (with_reducible refine (impl_named.calls kj50 a0_2 t181 _ A67.out ?mg).mono ?_); (case mg => exact HG.out.on (pl0 HB.out)); rintro e w74 ⟨rfl, hb⟩; have n0_ := Aside0.mk (pb BK171.out hb); have n1_ := Aside0.mk (below_step (pl1 HB.out GE171.out) hb); clear BK171; clear HB; have BK171 := n0_; have HB := n1_; clear n0_ n1_; (try clear hb); (try clear hb2); (try clear hk); (try clear hi); have hcz75_0 : w74.cell? ⟨gb171, 0, none⟩ = some (.int .i64 a0_0) := (blk_cell BK171.out 0).trans rfl; have hcz75_1 : w74.cell? ⟨gb171, 1, none⟩ = some (.string a0_1) := (blk_cell BK171.out 1).trans rfl; have hcz75_2 : w74.cell? ⟨gb171, 2, none⟩ = some (.string a0_2) := (blk_cell BK171.out 2).trans rfl; have hcz75_3 : w74.cell? ⟨gb171, 3, none⟩ = some (.int .i64 a0_3) := (blk_cell BK171.out 3).trans rfl; have hcz75_4 : w74.cell? ⟨gb171, 4, none⟩ = some (.int .i64 a0_4) := (blk_cell BK171.out 4).trans rfl; have hfz75_0 := blk_frozen BK171.out 0; have hfz75_1 := blk_frozen BK171.out 1; have hfz75_2 := blk_frozen BK171.out 2; have hfz75_3 := blk_frozen BK171.out 3; have hfz75_4 := blk_frozen BK171.out 4) | (go_at_call 48; (with_reducible refine (impl_within.calls a0_0 1 10 true _ A68.out).mono ?_); rintro e w' ⟨rfl, ⟨nd, rfl⟩⟩; (try exact dw))); try go_wp2_with (first | (go_at_call 47; (with_reducible refine (impl_named.calls kj50 a0_2 t181 _ A67.out ?mg).mono ?_); (case mg => exact HG.out.on (pl0 HB.out)); rintro e w74 ⟨rfl, hb⟩; have n0_ := Aside0.mk (pb BK171.out hb); have n1_ := Aside0.mk (below_step (pl1 HB.out GE171.out) hb); clear BK171; clear HB; have BK171 := n0_; have HB := n1_; clear n0_ n1_; (try clear hb); (try clear hb2); (try clear hk); (try clear hi); have hcz75_0 : w74.cell? ⟨gb171, 0, none⟩ = some (.int .i64 a0_0) := (blk_cell BK171.out 0).trans rfl; have hcz75_1 : w74.cell? ⟨gb171, 1, none⟩ = some (.string a0_1) := (blk_cell BK171.out 1).trans rfl; have hcz75_2 : w74.cell? ⟨gb171, 2, none⟩ = some (.string a0_2) := (blk_cell BK171.out 2).trans rfl; have hcz75_3 : w74.cell? ⟨gb171, 3, none⟩ = some (.int .i64 a0_3) := (blk_cell BK171.out 3).trans rfl; have hcz75_4 : w74.cell? ⟨gb171, 4, none⟩ = some (.int .i64 a0_4) := (blk_cell BK171.out 4).trans rfl; have hfz75_0 := blk_frozen BK171.out 0; have hfz75_1 := blk_frozen BK171.out 1; have hfz75_2 := blk_frozen BK171.out 2; have hfz75_3 := blk_frozen BK171.out 3; have hfz75_4 := blk_frozen BK171.out 4) | (go_at_call 48; (with_reducible refine (impl_within.calls a0_0 1 10 true _ A68.out).mono ?_); rintro e w' ⟨rfl, ⟨nd, rfl⟩⟩; (try exact dw))))
               go_ret
               exact ⟨erq, pl1 HB.out GE171.out⟩
              ·rw [if_neg c72] at H
               have c72b0 : (a0_4 == 0) = false := by simpa using c72
               (try (have c72b1 : decide (a0_4 = 0) = false := by simpa using c72))
               (try (have c72b2 : (a0_4 == 0) = false := by simpa using c72))
               (try (have c72b3 : ¬ (a0_4 = 0) := by simpa using c72))
               clear c72
               obtain rfl := Option.some.inj H
               obtain ⟨hcz76_0, hcz76_1, hcz76_2, hcz76_3, hcz76_4, hfz76_0, hfz76_1, hfz76_2, hfz76_3, hfz76_4⟩ := z5 BK171.out
               go_wp2_with (first | (go_at_call 47; (with_reducible refine (impl_named.calls kj50 a0_2 t181 _ A67.out ?mg).mono ?_); (case mg => exact HG.out.on (pl0 HB.out)); rintro e w77 ⟨rfl, hb⟩; have n0_ := Aside0.mk (pb BK171.out hb); have n1_ := Aside0.mk (below_step (pl1 HB.out GE171.out) hb); clear BK171; clear HB; have BK171 := n0_; have HB := n1_; clear n0_ n1_; (try clear hb); (try clear hb2); (try clear hk); (try clear hi); have hcz78_0 : w77.cell? ⟨gb171, 0, none⟩ = some (.int .i64 a0_0) := (blk_cell BK171.out 0).trans rfl; have hcz78_1 : w77.cell? ⟨gb171, 1, none⟩ = some (.string a0_1) := (blk_cell BK171.out 1).trans rfl; have hcz78_2 : w77.cell? ⟨gb171, 2, none⟩ = some (.string a0_2) := (blk_cell BK171.out 2).trans rfl; have hcz78_3 : w77.cell? ⟨gb171, 3, none⟩ = some (.int .i64 a0_3) := (blk_cell BK171.out 3).trans rfl; have hcz78_4 : w77.cell? ⟨gb171, 4, none⟩ = some (.int .i64 a0_4) := (blk_cell BK171.out 4).trans rfl; have hfz78_0 := blk_frozen BK171.out 0; have hfz78_1 := blk_frozen BK171.out 1; have hfz78_2 := blk_frozen BK171.out 2; have hfz78_3 := blk_frozen BK171.out 3; have hfz78_4 := blk_frozen BK171.out 4) | (go_at_call 48; (with_reducible refine (impl_within.calls a0_0 1 10 true _ A68.out).mono ?_); rintro e w' ⟨rfl, ⟨nd, rfl⟩⟩; (try exact dw)))
               repeat (go_quiet (first | (go_at_call 47; (with_reducible refine (impl_named.calls kj50 a0_2 t181 _ A67.out ?mg).mono ?_); (case mg => exact HG.out.on (pl0 HB.out)); rintro e w77 ⟨rfl, hb⟩; have n0_ := Aside0.mk (pb BK171.out hb); have n1_ := Aside0.mk (below_step (pl1 HB.out GE171.out) hb); clear BK171; clear HB; have BK171 := n0_; have HB := n1_; clear n0_ n1_; (try clear hb); (try clear hb2); (try clear hk); (try clear hi); have hcz78_0 : w77.cell? ⟨gb171, 0, none⟩ = some (.int .i64 a0_0) := (blk_cell BK171.out 0).trans rfl; have hcz78_1 : w77.cell? ⟨gb171, 1, none⟩ = some (.string a0_1) := (blk_cell BK171.out 1).trans rfl; have hcz78_2 : w77.cell? ⟨gb171, 2, none⟩ = some (.string a0_2) := (blk_cell BK171.out 2).trans rfl; have hcz78_3 : w77.cell? ⟨gb171, 3, none⟩ = some (.int .i64 a0_3) := (blk_cell BK171.out 3).trans rfl; have hcz78_4 : w77.cell? ⟨gb171, 4, none⟩ = some (.int .i64 a0_4) := (blk_cell BK171.out 4).trans rfl; have hfz78_0 := blk_frozen BK171.out 0; have hfz78_1 := blk_frozen BK171.out 1; have hfz78_2 := blk_frozen BK171.out 2; have hfz78_3 := blk_frozen BK171.out 3; have hfz78_4 := blk_frozen BK171.out 4) | (go_at_call 48; (with_reducible refine (impl_within.calls a0_0 1 10 true _ A68.out).mono ?_); rintro e w' ⟨rfl, ⟨nd, rfl⟩⟩; (try exact dw))); try go_wp2_with (first | (go_at_call 47; (with_reducible refine (impl_named.calls kj50 a0_2 t181 _ A67.out ?mg).mono ?_); (case mg => exact HG.out.on (pl0 HB.out)); rintro e w77 ⟨rfl, hb⟩; have n0_ := Aside0.mk (pb BK171.out hb); have n1_ := Aside0.mk (below_step (pl1 HB.out GE171.out) hb); clear BK171; clear HB; have BK171 := n0_; have HB := n1_; clear n0_ n1_; (try clear hb); (try clear hb2); (try clear hk); (try clear hi); have hcz78_0 : w77.cell? ⟨gb171, 0, none⟩ = some (.int .i64 a0_0) := (blk_cell BK171.out 0).trans rfl; have hcz78_1 : w77.cell? ⟨gb171, 1, none⟩ = some (.string a0_1) := (blk_cell BK171.out 1).trans rfl; have hcz78_2 : w77.cell? ⟨gb171, 2, none⟩ = some (.string a0_2) := (blk_cell BK171.out 2).trans rfl; have hcz78_3 : w77.cell? ⟨gb171, 3, none⟩ = some (.int .i64 a0_3) := (blk_cell BK171.out 3).trans rfl; have hcz78_4 : w77.cell? ⟨gb171, 4, none⟩ = some (.int .i64 a0_4) := (blk_cell BK171.out 4).trans rfl; have hfz78_0 := blk_frozen BK171.out 0; have hfz78_1 := blk_frozen BK171.out 1; have hfz78_2 := blk_frozen BK171.out 2; have hfz78_3 := blk_frozen BK171.out 3; have hfz78_4 := blk_frozen BK171.out 4) | (go_at_call 48; (with_reducible refine (impl_within.calls a0_0 1 10 true _ A68.out).mono ?_); rintro e w' ⟨rfl, ⟨nd, rfl⟩⟩; (try exact dw))))
               go_ret
               exact ⟨erq, pl1 HB.out GE171.out⟩
             ·rw [if_neg c71] at H
              have c71b0 : (a0_3 == 0) = false := by simpa using c71
              (try (have c71b1 : decide (a0_3 = 0) = false := by simpa using c71))
              (try (have c71b2 : (a0_3 == 0) = false := by simpa using c71))
              (try (have c71b3 : ¬ (a0_3 = 0) := by simpa using c71))
              clear c71
              obtain rfl := Option.some.inj H
              obtain ⟨hcz79_0, hcz79_1, hcz79_2, hcz79_3, hcz79_4, hfz79_0, hfz79_1, hfz79_2, hfz79_3, hfz79_4⟩ := z5 BK171.out
              go_wp2_with (first | (go_at_call 47; (with_reducible refine (impl_named.calls kj50 a0_2 t181 _ A67.out ?mg).mono ?_); (case mg => exact HG.out.on (pl0 HB.out)); rintro e w80 ⟨rfl, hb⟩; have n0_ := Aside0.mk (pb BK171.out hb); have n1_ := Aside0.mk (below_step (pl1 HB.out GE171.out) hb); clear BK171; clear HB; have BK171 := n0_; have HB := n1_; clear n0_ n1_; (try clear hb); (try clear hb2); (try clear hk); (try clear hi); have hcz81_0 : w80.cell? ⟨gb171, 0, none⟩ = some (.int .i64 a0_0) := (blk_cell BK171.out 0).trans rfl; have hcz81_1 : w80.cell? ⟨gb171, 1, none⟩ = some (.string a0_1) := (blk_cell BK171.out 1).trans rfl; have hcz81_2 : w80.cell? ⟨gb171, 2, none⟩ = some (.string a0_2) := (blk_cell BK171.out 2).trans rfl; have hcz81_3 : w80.cell? ⟨gb171, 3, none⟩ = some (.int .i64 a0_3) := (blk_cell BK171.out 3).trans rfl; have hcz81_4 : w80.cell? ⟨gb171, 4, none⟩ = some (.int .i64 a0_4) := (blk_cell BK171.out 4).trans rfl; have hfz81_0 := blk_frozen BK171.out 0; have hfz81_1 := blk_frozen BK171.out 1; have hfz81_2 := blk_frozen BK171.out 2; have hfz81_3 := blk_frozen BK171.out 3; have hfz81_4 := blk_frozen BK171.out 4) | (go_at_call 48; (with_reducible refine (impl_within.calls a0_0 1 10 true _ A68.out).mono ?_); rintro e w' ⟨rfl, ⟨nd, rfl⟩⟩; (try exact dw)))
              repeat (go_quiet (first | (go_at_call 47; (with_reducible refine (impl_named.calls kj50 a0_2 t181 _ A67.out ?mg).mono ?_); (case mg => exact HG.out.on (pl0 HB.out)); rintro e w80 ⟨rfl, hb⟩; have n0_ := Aside0.mk (pb BK171.out hb); have n1_ := Aside0.mk (below_step (pl1 HB.out GE171.out) hb); clear BK171; clear HB; have BK171 := n0_; have HB := n1_; clear n0_ n1_; (try clear hb); (try clear hb2); (try clear hk); (try clear hi); have hcz81_0 : w80.cell? ⟨gb171, 0, none⟩ = some (.int .i64 a0_0) := (blk_cell BK171.out 0).trans rfl; have hcz81_1 : w80.cell? ⟨gb171, 1, none⟩ = some (.string a0_1) := (blk_cell BK171.out 1).trans rfl; have hcz81_2 : w80.cell? ⟨gb171, 2, none⟩ = some (.string a0_2) := (blk_cell BK171.out 2).trans rfl; have hcz81_3 : w80.cell? ⟨gb171, 3, none⟩ = some (.int .i64 a0_3) := (blk_cell BK171.out 3).trans rfl; have hcz81_4 : w80.cell? ⟨gb171, 4, none⟩ = some (.int .i64 a0_4) := (blk_cell BK171.out 4).trans rfl; have hfz81_0 := blk_frozen BK171.out 0; have hfz81_1 := blk_frozen BK171.out 1; have hfz81_2 := blk_frozen BK171.out 2; have hfz81_3 := blk_frozen BK171.out 3; have hfz81_4 := blk_frozen BK171.out 4) | (go_at_call 48; (with_reducible refine (impl_within.calls a0_0 1 10 true _ A68.out).mono ?_); rintro e w' ⟨rfl, ⟨nd, rfl⟩⟩; (try exact dw))); try go_wp2_with (first | (go_at_call 47; (with_reducible refine (impl_named.calls kj50 a0_2 t181 _ A67.out ?mg).mono ?_); (case mg => exact HG.out.on (pl0 HB.out)); rintro e w80 ⟨rfl, hb⟩; have n0_ := Aside0.mk (pb BK171.out hb); have n1_ := Aside0.mk (below_step (pl1 HB.out GE171.out) hb); clear BK171; clear HB; have BK171 := n0_; have HB := n1_; clear n0_ n1_; (try clear hb); (try clear hb2); (try clear hk); (try clear hi); have hcz81_0 : w80.cell? ⟨gb171, 0, none⟩ = some (.int .i64 a0_0) := (blk_cell BK171.out 0).trans rfl; have hcz81_1 : w80.cell? ⟨gb171, 1, none⟩ = some (.string a0_1) := (blk_cell BK171.out 1).trans rfl; have hcz81_2 : w80.cell? ⟨gb171, 2, none⟩ = some (.string a0_2) := (blk_cell BK171.out 2).trans rfl; have hcz81_3 : w80.cell? ⟨gb171, 3, none⟩ = some (.int .i64 a0_3) := (blk_cell BK171.out 3).trans rfl; have hcz81_4 : w80.cell? ⟨gb171, 4, none⟩ = some (.int .i64 a0_4) := (blk_cell BK171.out 4).trans rfl; have hfz81_0 := blk_frozen BK171.out 0; have hfz81_1 := blk_frozen BK171.out 1; have hfz81_2 := blk_frozen BK171.out 2; have hfz81_3 := blk_frozen BK171.out 3; have hfz81_4 := blk_frozen BK171.out 4) | (go_at_call 48; (with_reducible refine (impl_within.calls a0_0 1 10 true _ A68.out).mono ?_); rintro e w' ⟨rfl, ⟨nd, rfl⟩⟩; (try exact dw))))
              go_ret
              exact ⟨erq, pl1 HB.out GE171.out⟩
            ·replace c70 := Bool.eq_false_iff.mpr c70
             subst c70
             have H1 : (some false) = some r := by rw [if_neg (show ¬ (false = true) by decide)] at H; exact H
             clear H
             have H := H1
             clear H1
             obtain rfl := Option.some.inj H
             obtain ⟨hcz82_0, hcz82_1, hcz82_2, hcz82_3, hcz82_4, hfz82_0, hfz82_1, hfz82_2, hfz82_3, hfz82_4⟩ := z5 BK171.out
             go_wp2_with (first | (go_at_call 47; (with_reducible refine (impl_named.calls kj50 a0_2 t181 _ A67.out ?mg).mono ?_); (case mg => exact HG.out.on (pl0 HB.out)); rintro e w83 ⟨rfl, hb⟩; have n0_ := Aside0.mk (pb BK171.out hb); have n1_ := Aside0.mk (below_step (pl1 HB.out GE171.out) hb); clear BK171; clear HB; have BK171 := n0_; have HB := n1_; clear n0_ n1_; (try clear hb); (try clear hb2); (try clear hk); (try clear hi); have hcz84_0 : w83.cell? ⟨gb171, 0, none⟩ = some (.int .i64 a0_0) := (blk_cell BK171.out 0).trans rfl; have hcz84_1 : w83.cell? ⟨gb171, 1, none⟩ = some (.string a0_1) := (blk_cell BK171.out 1).trans rfl; have hcz84_2 : w83.cell? ⟨gb171, 2, none⟩ = some (.string a0_2) := (blk_cell BK171.out 2).trans rfl; have hcz84_3 : w83.cell? ⟨gb171, 3, none⟩ = some (.int .i64 a0_3) := (blk_cell BK171.out 3).trans rfl; have hcz84_4 : w83.cell? ⟨gb171, 4, none⟩ = some (.int .i64 a0_4) := (blk_cell BK171.out 4).trans rfl; have hfz84_0 := blk_frozen BK171.out 0; have hfz84_1 := blk_frozen BK171.out 1; have hfz84_2 := blk_frozen BK171.out 2; have hfz84_3 := blk_frozen BK171.out 3; have hfz84_4 := blk_frozen BK171.out 4) | (go_at_call 48; (with_reducible refine (impl_within.calls a0_0 1 10 true _ A68.out).mono ?_); rintro e w' ⟨rfl, ⟨nd, rfl⟩⟩; (try exact dw)))
             repeat (go_quiet (first | (go_at_call 47; (with_reducible refine (impl_named.calls kj50 a0_2 t181 _ A67.out ?mg).mono ?_); (case mg => exact HG.out.on (pl0 HB.out)); rintro e w83 ⟨rfl, hb⟩; have n0_ := Aside0.mk (pb BK171.out hb); have n1_ := Aside0.mk (below_step (pl1 HB.out GE171.out) hb); clear BK171; clear HB; have BK171 := n0_; have HB := n1_; clear n0_ n1_; (try clear hb); (try clear hb2); (try clear hk); (try clear hi); have hcz84_0 : w83.cell? ⟨gb171, 0, none⟩ = some (.int .i64 a0_0) := (blk_cell BK171.out 0).trans rfl; have hcz84_1 : w83.cell? ⟨gb171, 1, none⟩ = some (.string a0_1) := (blk_cell BK171.out 1).trans rfl; have hcz84_2 : w83.cell? ⟨gb171, 2, none⟩ = some (.string a0_2) := (blk_cell BK171.out 2).trans rfl; have hcz84_3 : w83.cell? ⟨gb171, 3, none⟩ = some (.int .i64 a0_3) := (blk_cell BK171.out 3).trans rfl; have hcz84_4 : w83.cell? ⟨gb171, 4, none⟩ = some (.int .i64 a0_4) := (blk_cell BK171.out 4).trans rfl; have hfz84_0 := blk_frozen BK171.out 0; have hfz84_1 := blk_frozen BK171.out 1; have hfz84_2 := blk_frozen BK171.out 2; have hfz84_3 := blk_frozen BK171.out 3; have hfz84_4 := blk_frozen BK171.out 4) | (go_at_call 48; (with_reducible refine (impl_within.calls a0_0 1 10 true _ A68.out).mono ?_); rintro e w' ⟨rfl, ⟨nd, rfl⟩⟩; (try exact dw))); try go_wp2_with (first | (go_at_call 47; (with_reducible refine (impl_named.calls kj50 a0_2 t181 _ A67.out ?mg).mono ?_); (case mg => exact HG.out.on (pl0 HB.out)); rintro e w83 ⟨rfl, hb⟩; have n0_ := Aside0.mk (pb BK171.out hb); have n1_ := Aside0.mk (below_step (pl1 HB.out GE171.out) hb); clear BK171; clear HB; have BK171 := n0_; have HB := n1_; clear n0_ n1_; (try clear hb); (try clear hb2); (try clear hk); (try clear hi); have hcz84_0 : w83.cell? ⟨gb171, 0, none⟩ = some (.int .i64 a0_0) := (blk_cell BK171.out 0).trans rfl; have hcz84_1 : w83.cell? ⟨gb171, 1, none⟩ = some (.string a0_1) := (blk_cell BK171.out 1).trans rfl; have hcz84_2 : w83.cell? ⟨gb171, 2, none⟩ = some (.string a0_2) := (blk_cell BK171.out 2).trans rfl; have hcz84_3 : w83.cell? ⟨gb171, 3, none⟩ = some (.int .i64 a0_3) := (blk_cell BK171.out 3).trans rfl; have hcz84_4 : w83.cell? ⟨gb171, 4, none⟩ = some (.int .i64 a0_4) := (blk_cell BK171.out 4).trans rfl; have hfz84_0 := blk_frozen BK171.out 0; have hfz84_1 := blk_frozen BK171.out 1; have hfz84_2 := blk_frozen BK171.out 2; have hfz84_3 := blk_frozen BK171.out 3; have hfz84_4 := blk_frozen BK171.out 4) | (go_at_call 48; (with_reducible refine (impl_within.calls a0_0 1 10 true _ A68.out).mono ?_); rintro e w' ⟨rfl, ⟨nd, rfl⟩⟩; (try exact dw))))
             go_ret
             exact ⟨erq, pl1 HB.out GE171.out⟩
           ·replace c69 := Bool.eq_false_iff.mpr c69
            subst c69
            have H1 : (some false) = some r := by rw [if_neg (show ¬ (false = true) by decide)] at H; exact H
            clear H
            have H := H1
            clear H1
            obtain rfl := Option.some.inj H
            obtain ⟨hcz85_0, hcz85_1, hcz85_2, hcz85_3, hcz85_4, hfz85_0, hfz85_1, hfz85_2, hfz85_3, hfz85_4⟩ := z5 BK171.out
            go_wp2_with (first | (go_at_call 47; (with_reducible refine (impl_named.calls kj50 a0_2 t181 _ A67.out ?mg).mono ?_); (case mg => exact HG.out.on (pl0 HB.out)); rintro e w86 ⟨rfl, hb⟩; have n0_ := Aside0.mk (pb BK171.out hb); have n1_ := Aside0.mk (below_step (pl1 HB.out GE171.out) hb); clear BK171; clear HB; have BK171 := n0_; have HB := n1_; clear n0_ n1_; (try clear hb); (try clear hb2); (try clear hk); (try clear hi); have hcz87_0 : w86.cell? ⟨gb171, 0, none⟩ = some (.int .i64 a0_0) := (blk_cell BK171.out 0).trans rfl; have hcz87_1 : w86.cell? ⟨gb171, 1, none⟩ = some (.string a0_1) := (blk_cell BK171.out 1).trans rfl; have hcz87_2 : w86.cell? ⟨gb171, 2, none⟩ = some (.string a0_2) := (blk_cell BK171.out 2).trans rfl; have hcz87_3 : w86.cell? ⟨gb171, 3, none⟩ = some (.int .i64 a0_3) := (blk_cell BK171.out 3).trans rfl; have hcz87_4 : w86.cell? ⟨gb171, 4, none⟩ = some (.int .i64 a0_4) := (blk_cell BK171.out 4).trans rfl; have hfz87_0 := blk_frozen BK171.out 0; have hfz87_1 := blk_frozen BK171.out 1; have hfz87_2 := blk_frozen BK171.out 2; have hfz87_3 := blk_frozen BK171.out 3; have hfz87_4 := blk_frozen BK171.out 4) | (go_at_call 48; (with_reducible refine (impl_within.calls a0_0 1 10 false _ A68.out).mono ?_); rintro e w' ⟨rfl, ⟨nd, rfl⟩⟩; (try exact dw)))
            repeat (go_quiet (first | (go_at_call 47; (with_reducible refine (impl_named.calls kj50 a0_2 t181 _ A67.out ?mg).mono ?_); (case mg => exact HG.out.on (pl0 HB.out)); rintro e w86 ⟨rfl, hb⟩; have n0_ := Aside0.mk (pb BK171.out hb); have n1_ := Aside0.mk (below_step (pl1 HB.out GE171.out) hb); clear BK171; clear HB; have BK171 := n0_; have HB := n1_; clear n0_ n1_; (try clear hb); (try clear hb2); (try clear hk); (try clear hi); have hcz87_0 : w86.cell? ⟨gb171, 0, none⟩ = some (.int .i64 a0_0) := (blk_cell BK171.out 0).trans rfl; have hcz87_1 : w86.cell? ⟨gb171, 1, none⟩ = some (.string a0_1) := (blk_cell BK171.out 1).trans rfl; have hcz87_2 : w86.cell? ⟨gb171, 2, none⟩ = some (.string a0_2) := (blk_cell BK171.out 2).trans rfl; have hcz87_3 : w86.cell? ⟨gb171, 3, none⟩ = some (.int .i64 a0_3) := (blk_cell BK171.out 3).trans rfl; have hcz87_4 : w86.cell? ⟨gb171, 4, none⟩ = some (.int .i64 a0_4) := (blk_cell BK171.out 4).trans rfl; have hfz87_0 := blk_frozen BK171.out 0; have hfz87_1 := blk_frozen BK171.out 1; have hfz87_2 := blk_frozen BK171.out 2; have hfz87_3 := blk_frozen BK171.out 3; have hfz87_4 := blk_frozen BK171.out 4) | (go_at_call 48; (with_reducible refine (impl_within.calls a0_0 1 10 false _ A68.out).mono ?_); rintro e w' ⟨rfl, ⟨nd, rfl⟩⟩; (try exact dw))); try go_wp2_with (first | (go_at_call 47; (with_reducible refine (impl_named.calls kj50 a0_2 t181 _ A67.out ?mg).mono ?_); (case mg => exact HG.out.on (pl0 HB.out)); rintro e w86 ⟨rfl, hb⟩; have n0_ := Aside0.mk (pb BK171.out hb); have n1_ := Aside0.mk (below_step (pl1 HB.out GE171.out) hb); clear BK171; clear HB; have BK171 := n0_; have HB := n1_; clear n0_ n1_; (try clear hb); (try clear hb2); (try clear hk); (try clear hi); have hcz87_0 : w86.cell? ⟨gb171, 0, none⟩ = some (.int .i64 a0_0) := (blk_cell BK171.out 0).trans rfl; have hcz87_1 : w86.cell? ⟨gb171, 1, none⟩ = some (.string a0_1) := (blk_cell BK171.out 1).trans rfl; have hcz87_2 : w86.cell? ⟨gb171, 2, none⟩ = some (.string a0_2) := (blk_cell BK171.out 2).trans rfl; have hcz87_3 : w86.cell? ⟨gb171, 3, none⟩ = some (.int .i64 a0_3) := (blk_cell BK171.out 3).trans rfl; have hcz87_4 : w86.cell? ⟨gb171, 4, none⟩ = some (.int .i64 a0_4) := (blk_cell BK171.out 4).trans rfl; have hfz87_0 := blk_frozen BK171.out 0; have hfz87_1 := blk_frozen BK171.out 1; have hfz87_2 := blk_frozen BK171.out 2; have hfz87_3 := blk_frozen BK171.out 3; have hfz87_4 := blk_frozen BK171.out 4) | (go_at_call 48; (with_reducible refine (impl_within.calls a0_0 1 10 false _ A68.out).mono ?_); rintro e w' ⟨rfl, ⟨nd, rfl⟩⟩; (try exact dw))))
            go_ret
            exact ⟨erq, pl1 HB.out GE171.out⟩
          ·rw [if_neg c66] at H
           have c66b0 : (a0_0 == 3) = false := beq_eq_false_iff_ne.mpr c66
           have c66b1 : (a0_0 != 3) = true := bne_iff_ne.mpr c66
           replace H := Option.bind_eq_some_iff.mp H
           obtain ⟨t183, A880, H⟩ := H
           replace H : (if t183 = true then (if x3_2 = true then (if (a0_3 == 0) = true then (if (a0_4 == 0) = true then (some (a0_2.toList == ([] : List UInt8))) else (some false)) else (some false)) else (some false)) else (some false)) = some r := H
           have A88 := Aside0.mk A880
           clear A880
           by_cases c89 : t183 = true
           ·subst c89
            have H1 : (if x3_2 = true then (if (a0_3 == 0) = true then (if (a0_4 == 0) = true then (some (a0_2.toList == ([] : List UInt8))) else (some false)) else (some false)) else (some false)) = some r := by rw [if_pos rfl] at H; exact H
            clear H
            have H := H1
            clear H1
            by_cases c90 : x3_2 = true
            ·subst c90
             have H1 : (if (a0_3 == 0) = true then (if (a0_4 == 0) = true then (some (a0_2.toList == ([] : List UInt8))) else (some false)) else (some false)) = some r := by rw [if_pos rfl] at H; exact H
             clear H
             have H := H1
             clear H1
             by_cases c91 : (a0_3 == 0) = true
             ·rw [if_pos c91] at H
              have c91b0 : (a0_3 == 0) = true := c91
              (try (have c91b1 : decide (a0_3 = 0) = true := by simpa using c91))
              (try (have c91b2 : (a0_3 == 0) = true := by simpa using c91))
              clear c91
              by_cases c92 : (a0_4 == 0) = true
              ·rw [if_pos c92] at H
               have c92b0 : (a0_4 == 0) = true := c92
               (try (have c92b1 : decide (a0_4 = 0) = true := by simpa using c92))
               (try (have c92b2 : (a0_4 == 0) = true := by simpa using c92))
               clear c92
               obtain rfl := Option.some.inj H
               obtain ⟨hcz93_0, hcz93_1, hcz93_2, hcz93_3, hcz93_4, hfz93_0, hfz93_1, hfz93_2, hfz93_3, hfz93_4⟩ := z5 BK171.out
               go_wp2_with (first | (go_at_call 48; (with_reducible refine (impl_within.calls a0_0 1 10 true _ A88.out).mono ?_); rintro e w' ⟨rfl, ⟨nd, rfl⟩⟩; (try exact dw)))
               repeat (go_quiet (first | (go_at_call 48; (with_reducible refine (impl_within.calls a0_0 1 10 true _ A88.out).mono ?_); rintro e w' ⟨rfl, ⟨nd, rfl⟩⟩; (try exact dw))); try go_wp2_with (first | (go_at_call 48; (with_reducible refine (impl_within.calls a0_0 1 10 true _ A88.out).mono ?_); rintro e w' ⟨rfl, ⟨nd, rfl⟩⟩; (try exact dw))))
               go_ret
               exact ⟨erq, pl1 HB.out GE171.out⟩
              ·rw [if_neg c92] at H
               have c92b0 : (a0_4 == 0) = false := by simpa using c92
               (try (have c92b1 : decide (a0_4 = 0) = false := by simpa using c92))
               (try (have c92b2 : (a0_4 == 0) = false := by simpa using c92))
               (try (have c92b3 : ¬ (a0_4 = 0) := by simpa using c92))
               clear c92
               obtain rfl := Option.some.inj H
               obtain ⟨hcz94_0, hcz94_1, hcz94_2, hcz94_3, hcz94_4, hfz94_0, hfz94_1, hfz94_2, hfz94_3, hfz94_4⟩ := z5 BK171.out
               go_wp2_with (first | (go_at_call 48; (with_reducible refine (impl_within.calls a0_0 1 10 true _ A88.out).mono ?_); rintro e w' ⟨rfl, ⟨nd, rfl⟩⟩; (try exact dw)))
               repeat (go_quiet (first | (go_at_call 48; (with_reducible refine (impl_within.calls a0_0 1 10 true _ A88.out).mono ?_); rintro e w' ⟨rfl, ⟨nd, rfl⟩⟩; (try exact dw))); try go_wp2_with (first | (go_at_call 48; (with_reducible refine (impl_within.calls a0_0 1 10 true _ A88.out).mono ?_); rintro e w' ⟨rfl, ⟨nd, rfl⟩⟩; (try exact dw))))
               go_ret
               exact ⟨erq, pl1 HB.out GE171.out⟩
             ·rw [if_neg c91] at H
              have c91b0 : (a0_3 == 0) = false := by simpa using c91
              (try (have c91b1 : decide (a0_3 = 0) = false := by simpa using c91))
              (try (have c91b2 : (a0_3 == 0) = false := by simpa using c91))
              (try (have c91b3 : ¬ (a0_3 = 0) := by simpa using c91))
              clear c91
              obtain rfl := Option.some.inj H
              obtain ⟨hcz95_0, hcz95_1, hcz95_2, hcz95_3, hcz95_4, hfz95_0, hfz95_1, hfz95_2, hfz95_3, hfz95_4⟩ := z5 BK171.out
              go_wp2_with (first | (go_at_call 48; (with_reducible refine (impl_within.calls a0_0 1 10 true _ A88.out).mono ?_); rintro e w' ⟨rfl, ⟨nd, rfl⟩⟩; (try exact dw)))
              repeat (go_quiet (first | (go_at_call 48; (with_reducible refine (impl_within.calls a0_0 1 10 true _ A88.out).mono ?_); rintro e w' ⟨rfl, ⟨nd, rfl⟩⟩; (try exact dw))); try go_wp2_with (first | (go_at_call 48; (with_reducible refine (impl_within.calls a0_0 1 10 true _ A88.out).mono ?_); rintro e w' ⟨rfl, ⟨nd, rfl⟩⟩; (try exact dw))))
              go_ret
              exact ⟨erq, pl1 HB.out GE171.out⟩
            ·replace c90 := Bool.eq_false_iff.mpr c90
             subst c90
             have H1 : (some false) = some r := by rw [if_neg (show ¬ (false = true) by decide)] at H; exact H
             clear H
             have H := H1
             clear H1
             obtain rfl := Option.some.inj H
             obtain ⟨hcz96_0, hcz96_1, hcz96_2, hcz96_3, hcz96_4, hfz96_0, hfz96_1, hfz96_2, hfz96_3, hfz96_4⟩ := z5 BK171.out
             go_wp2_with (first | (go_at_call 48; (with_reducible refine (impl_within.calls a0_0 1 10 true _ A88.out).mono ?_); rintro e w' ⟨rfl, ⟨nd, rfl⟩⟩; (try exact dw)))
             repeat (go_quiet (first | (go_at_call 48; (with_reducible refine (impl_within.calls a0_0 1 10 true _ A88.out).mono ?_); rintro e w' ⟨rfl, ⟨nd, rfl⟩⟩; (try exact dw))); try go_wp2_with (first | (go_at_call 48; (with_reducible refine (impl_within.calls a0_0 1 10 true _ A88.out).mono ?_); rintro e w' ⟨rfl, ⟨nd, rfl⟩⟩; (try exact dw))))
             go_ret
             exact ⟨erq, pl1 HB.out GE171.out⟩
           ·replace c89 := Bool.eq_false_iff.mpr c89
            subst c89
            have H1 : (some false) = some r := by rw [if_neg (show ¬ (false = true) by decide)] at H; exact H
            clear H
            have H := H1
            clear H1
            obtain rfl := Option.some.inj H
            obtain ⟨hcz97_0, hcz97_1, hcz97_2, hcz97_3, hcz97_4, hfz97_0, hfz97_1, hfz97_2, hfz97_3, hfz97_4⟩ := z5 BK171.out
            go_wp2_with (first | (go_at_call 48; (with_reducible refine (impl_within.calls a0_0 1 10 false _ A88.out).mono ?_); rintro e w' ⟨rfl, ⟨nd, rfl⟩⟩; (try exact dw)))
            repeat (go_quiet (first | (go_at_call 48; (with_reducible refine (impl_within.calls a0_0 1 10 false _ A88.out).mono ?_); rintro e w' ⟨rfl, ⟨nd, rfl⟩⟩; (try exact dw))); try go_wp2_with (first | (go_at_call 48; (with_reducible refine (impl_within.calls a0_0 1 10 false _ A88.out).mono ?_); rintro e w' ⟨rfl, ⟨nd, rfl⟩⟩; (try exact dw))))
            go_ret
            exact ⟨erq, pl1 HB.out GE171.out⟩
end Go.Proofs.YtffnjbhimhbomaaDoor.QTC
