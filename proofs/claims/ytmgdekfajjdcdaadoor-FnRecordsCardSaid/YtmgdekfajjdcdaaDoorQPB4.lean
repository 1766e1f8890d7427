/- Walks, as the kit's print writes them, run with stubs of my own and mended: PB. -/
import Derived.Test.YtmgdekfajjdcdaaDoorQPB0
import Derived.Test.YtmgdekfajjdcdaaDoorQPB3
import Derived.Test.YtmgdekfajjdcdaaDoorQPA0
import Derived.Test.YtmgdekfajjdcdaaDoorQPA1
import Derived.Test.YtmgdekfajjdcdaaDoorQPA2
import Derived.Test.YtmgdekfajjdcdaaDoorZrPB
namespace Go.Proofs.YtmgdekfajjdcdaaDoor.QPB
open Go.Proofs.YtmgdekfajjdcdaaDoorW.Zip.RPB
open Go.Proofs.YtmgdekfajjdcdaaDoor.QPA
open Go.Proofs.YtmgdekfajjdcdaaDoorW Go.Proofs.YtmgdekfajjdcdaaDoorW.Zip
open Go.RowKit Go.Proofs.YtmgdekfajjdcdaaDoorW.PrintWords Go.Proofs.YtmgdekfajjdcdaaDoorW.PrintLast Go.Proofs.YtmgdekfajjdcdaaDoorW.PrintMore
attribute [local go_sem] max2_int min2_int max_two min_two max_three min_three max_four min_four   -- for this text's walks alone
set_option linter.unusedVariables false
set_option linter.unusedSimpArgs false
mutual
def impl_EditOk.j1 : Nat → Bool → Int → ByteArray → ByteArray → Int → Int → Option (Bool)
  | 0, _, _, _, _, _, _ => none
  | k + 1, x3, x312000, x312001, x312002, x312003, x312004 => if x312000 = 5 then ((impl_within.f x312003 1 3).bind fun t313 => ((impl_within.f x312000 1 10).bind fun t314 => (if t314 = true then (if x3 = true then (if t313 = true then (if x312004 = 0 then (some (x312002.toList == ([] : List UInt8))) else (some false)) else (some false)) else (some false)) else (some false)))) else (if x312000 = 6 then ((impl_within.f x312003 0 1000).bind fun t315 => ((impl_within.f x312000 1 10).bind fun t316 => (if t316 = true then (if x3 = true then (if t315 = true then (if x312004 = 0 then (some (x312002.toList == ([] : List UInt8))) else (some false)) else (some false)) else (some false)) else (some false)))) else (if x312000 = 7 then ((impl_within.f x312003 1 200).bind fun t317 => ((impl_within.f x312000 1 10).bind fun t318 => (if t318 = true then (if x3 = true then (if t317 = true then (if x312004 = 0 then (some (x312002.toList == ([] : List UInt8))) else (some false)) else (some false)) else (some false)) else (some false)))) else (if x312000 = 2 then (impl_EditOk.j2 k x3 (x312003 == 0) (x312004 == 0) (x312002.toList == ([] : List UInt8)) x312000 (x312000 == 2) x312000 x312001 x312002 x312003 x312004) else (impl_EditOk.j2 k x3 (x312003 == 0) (x312004 == 0) (x312002.toList == ([] : List UInt8)) x312000 (x312000 == 9) x312000 x312001 x312002 x312003 x312004))))
def impl_EditOk.j2 : Nat → Bool → Bool → Bool → Bool → Int → Bool → Int → ByteArray → ByteArray → Int → Int → Option (Bool)
  | 0, _, _, _, _, _, _, _, _, _, _, _ => none
  | k + 1, x3, x4, x5, x6, x36, x52, x312000, x312001, x312002, x312003, x312004 => if x52 = true then ((impl_within.f x312004 1 9).bind fun t319 => ((impl_within.f x312000 1 10).bind fun t320 => (if t320 = true then (if x3 = true then (if x4 = true then (if t319 = true then (some x6) else (some false)) else (some false)) else (some false)) else (some false)))) else (if x36 = 3 then ((impl_named.f k x312002).bind fun t321 => ((impl_within.f x312000 1 10).bind fun t322 => (if t322 = true then (if x3 = true then (if x4 = true then (if x5 = true then (some t321) else (some false)) else (some false)) else (some false)) else (some false)))) else ((impl_within.f x312000 1 10).bind fun t323 => (if t323 = true then (if x3 = true then (if x4 = true then (if x5 = true then (some x6) else (some false)) else (some false)) else (some false)) else (some false))))
def impl_EditOk.j0 : Nat → Bool → Int → Bool → Int → ByteArray → ByteArray → Int → Int → Option (Bool)
  | 0, _, _, _, _, _, _, _, _ => none
  | k + 1, x3, x11, x12, x312000, x312001, x312002, x312003, x312004 => if x12 = true then (if x3 = true then (impl_EditOk.j1 k true x312000 x312001 x312002 x312003 x312004) else (impl_EditOk.j1 k (x312001.toList == ([47] : List UInt8)) x312000 x312001 x312002 x312003 x312004)) else (if x11 = 10 then (impl_EditOk.j1 k (x312001.toList == ([47] : List UInt8)) x312000 x312001 x312002 x312003 x312004) else (impl_EditOk.j1 k x3 x312000 x312001 x312002 x312003 x312004))
end
def impl_EditOk.f (k : Nat) (a0_0 : Int) (a0_1 : ByteArray) (a0_2 : ByteArray) (a0_3 : Int) (a0_4 : Int) : Option (Bool) := (impl_named.f k a0_1).bind fun t312 => (if a0_0 = 5 then (impl_EditOk.j0 k t312 a0_0 (a0_0 == 5) a0_0 a0_1 a0_2 a0_3 a0_4) else (impl_EditOk.j0 k t312 a0_0 (a0_0 == 6) a0_0 a0_1 a0_2 a0_3 a0_4))
set_option maxHeartbeats 8000000 in
set_option maxRecDepth 100000 in
theorem impl_EditOk.calls (k : Nat) (a0_0 : Int) (a0_1 : ByteArray) (a0_2 : ByteArray) (a0_3 : Int) (a0_4 : Int) (r : Bool) (w : World) (h : impl_EditOk.f k a0_0 a0_1 a0_2 a0_3 a0_4 = some r) (hg : MG w) :
    Calls Tryd.prog 17 #[.agg #[.int .i64 a0_0, .string a0_1, .string a0_2, .int .i64 a0_3, .int .i64 a0_4]] w fun e w' => e = .returned (.bool r) ∧ Below w.heap.size w w' := by
  have HG := Aside0.mk hg
  clear hg
  have hu34 := Tryd.underlying34
  have HB := Aside0.mk (Below.refl w.heap.size w)
  have H : ((impl_named.f k a0_1).bind fun t312 => (if a0_0 = 5 then (impl_EditOk.j0 k t312 a0_0 (a0_0 == 5) a0_0 a0_1 a0_2 a0_3 a0_4) else (impl_EditOk.j0 k t312 a0_0 (a0_0 == 6) a0_0 a0_1 a0_2 a0_3 a0_4))) = some r := h
  clear h
  replace H := Option.bind_eq_some_iff.mp H
  obtain ⟨t312, A20, H⟩ := H
  replace H : (if a0_0 = 5 then (impl_EditOk.j0 k t312 a0_0 (a0_0 == 5) a0_0 a0_1 a0_2 a0_3 a0_4) else (impl_EditOk.j0 k t312 a0_0 (a0_0 == 6) a0_0 a0_1 a0_2 a0_3 a0_4)) = some r := H
  have A2 := Aside0.mk A20
  clear A20
  have HC3 := Aside0.mk H
  clear H
  go_enter Tryd.func17, Tryd.ntmps17
  go_upto_block 0 with (first | ((with_reducible refine gate_dst (N := 1) rfl ?_); refine box_event ?hg (N := 1) ?hd (cs := #[.int .i64 a0_0, .string a0_1, .string a0_2, .int .i64 a0_3, .int .i64 a0_4]) (t := 34) ?hr ?_; (case hd => rfl); (case hg => rfl); (case hr => first | (go_simp; done) | (go_simp; rfl)); intro gb311 hg w4 hbox hb; have n0_ := Aside0.mk (below_step (pl0 HB.out) hb); have n1_ := Aside0.mk (hbox); have n2_ := Aside0.mk ((by rw [hg]; exact (below_size (pl0 HB.out)) : w.heap.size ≤ gb311)); have n3_ := Aside0.mk ((by rw [hg]; exact (below_size (pl0 HB.out)) : w.heap.size ≤ gb311)); clear HB; have HB := n0_; have BK311 := n1_; have GW311 := n2_; have GE311 := n3_; clear n0_ n1_ n2_ n3_; clear hb hbox hg; obtain ⟨hcz5_0, hcz5_1, hcz5_2, hcz5_3, hcz5_4, hfz5_0, hfz5_1, hfz5_2, hfz5_3, hfz5_4⟩ := z5 BK311.out) | (go_at_call 36; (with_reducible refine (impl_named.calls k a0_1 t312 _ A2.out ?mg).mono ?_); (case mg => exact HG.out.on (pl1 HB.out GE311.out)); rintro e w6 ⟨rfl, hb⟩; replace BK311 := Aside0.mk (pb BK311.out hb); replace HB := Aside0.mk (below_step (pl1 HB.out GE311.out) hb); (try clear hb); (try clear hb2); (try clear hk); (try clear hi); obtain ⟨hcz7_0, hcz7_1, hcz7_2, hcz7_3, hcz7_4, hfz7_0, hfz7_1, hfz7_2, hfz7_3, hfz7_4⟩ := z5 BK311.out))
  repeat (go_quiet (first | ((with_reducible refine gate_dst (N := 1) rfl ?_); refine box_event ?hg (N := 1) ?hd (cs := #[.int .i64 a0_0, .string a0_1, .string a0_2, .int .i64 a0_3, .int .i64 a0_4]) (t := 34) ?hr ?_; (case hd => rfl); (case hg => rfl); (case hr => first | (go_simp; done) | (go_simp; rfl)); intro gb311 hg w4 hbox hb; have n0_ := Aside0.mk (below_step (pl0 HB.out) hb); have n1_ := Aside0.mk (hbox); have n2_ := Aside0.mk ((by rw [hg]; exact (below_size (pl0 HB.out)) : w.heap.size ≤ gb311)); have n3_ := Aside0.mk ((by rw [hg]; exact (below_size (pl0 HB.out)) : w.heap.size ≤ gb311)); clear HB; have HB := n0_; have BK311 := n1_; have GW311 := n2_; have GE311 := n3_; clear n0_ n1_ n2_ n3_; clear hb hbox hg; obtain ⟨hcz5_0, hcz5_1, hcz5_2, hcz5_3, hcz5_4, hfz5_0, hfz5_1, hfz5_2, hfz5_3, hfz5_4⟩ := z5 BK311.out) | (go_at_call 36; (with_reducible refine (impl_named.calls k a0_1 t312 _ A2.out ?mg).mono ?_); (case mg => exact HG.out.on (pl1 HB.out GE311.out)); rintro e w6 ⟨rfl, hb⟩; replace BK311 := Aside0.mk (pb BK311.out hb); replace HB := Aside0.mk (below_step (pl1 HB.out GE311.out) hb); (try clear hb); (try clear hb2); (try clear hk); (try clear hi); obtain ⟨hcz7_0, hcz7_1, hcz7_2, hcz7_3, hcz7_4, hfz7_0, hfz7_1, hfz7_2, hfz7_3, hfz7_4⟩ := z5 BK311.out)); go_upto_block 0 with (first | ((with_reducible refine gate_dst (N := 1) rfl ?_); refine box_event ?hg (N := 1) ?hd (cs := #[.int .i64 a0_0, .string a0_1, .string a0_2, .int .i64 a0_3, .int .i64 a0_4]) (t := 34) ?hr ?_; (case hd => rfl); (case hg => rfl); (case hr => first | (go_simp; done) | (go_simp; rfl)); intro gb311 hg w4 hbox hb; have n0_ := Aside0.mk (below_step (pl0 HB.out) hb); have n1_ := Aside0.mk (hbox); have n2_ := Aside0.mk ((by rw [hg]; exact (below_size (pl0 HB.out)) : w.heap.size ≤ gb311)); have n3_ := Aside0.mk ((by rw [hg]; exact (below_size (pl0 HB.out)) : w.heap.size ≤ gb311)); clear HB; have HB := n0_; have BK311 := n1_; have GW311 := n2_; have GE311 := n3_; clear n0_ n1_ n2_ n3_; clear hb hbox hg; obtain ⟨hcz5_0, hcz5_1, hcz5_2, hcz5_3, hcz5_4, hfz5_0, hfz5_1, hfz5_2, hfz5_3, hfz5_4⟩ := z5 BK311.out) | (go_at_call 36; (with_reducible refine (impl_named.calls k a0_1 t312 _ A2.out ?mg).mono ?_); (case mg => exact HG.out.on (pl1 HB.out GE311.out)); rintro e w6 ⟨rfl, hb⟩; replace BK311 := Aside0.mk (pb BK311.out hb); replace HB := Aside0.mk (below_step (pl1 HB.out GE311.out) hb); (try clear hb); (try clear hb2); (try clear hk); (try clear hi); obtain ⟨hcz7_0, hcz7_1, hcz7_2, hcz7_3, hcz7_4, hfz7_0, hfz7_1, hfz7_2, hfz7_3, hfz7_4⟩ := z5 BK311.out)))
  (try simp only [Act.put, List.setIfInBounds_toArray, List.set_cons_zero, List.set_cons_succ])
  go_cut [3] (fun v3 wc => ∃ (kq : Nat) (x3_2 : Bool), v3 = .bool x3_2 ∧ Aside0 (impl_EditOk.j1 kq x3_2 a0_0 a0_1 a0_2 a0_3 a0_4 = some r) ∧ Aside0 (kq ≤ k) ∧ Aside0 (wc.heap[gb311]? = some (.cells #[.int .i64 a0_0, .string a0_1, .string a0_2, .int .i64 a0_3, .int .i64 a0_4] 34 (0, 0))) ∧ Aside0 (Below w.heap.size w wc))
  case first =>
   have H := HC3.out
   clear HC3
   have HC8 := Aside0.mk H
   clear H
   go_upto_if 12 with (fail)
   repeat (go_quiet (fail); go_upto_if 12 with (fail))
   go_cut [12] (fun v12 wc => ∃ (kq : Nat) (x12_7 : Bool), v12 = .bool x12_7 ∧ Aside0 (impl_EditOk.j0 kq t312 a0_0 x12_7 a0_0 a0_1 a0_2 a0_3 a0_4 = some r) ∧ Aside0 (kq ≤ k) ∧ Aside0 (wc.heap[gb311]? = some (.cells #[.int .i64 a0_0, .string a0_1, .string a0_2, .int .i64 a0_3, .int .i64 a0_4] 34 (0, 0))) ∧ Aside0 (Below w.heap.size w wc))
   case first =>
    have H := HC8.out
    clear HC8
    by_cases c9 : a0_0 = 5
    ·rw [if_pos c9] at H
     have c9b0 : (a0_0 == 5) = true := beq_iff_eq.mpr c9
     have c9b1 : (a0_0 != 5) = false := bne_eq_false_iff_eq.mpr c9
     clear c9
     (first | rw [c9b0] | (simp only [i64_w, i32_w]; rw [c9b0]) | skip)
     have H' := Aside0.mk H
     clear H
     go_wp2
     repeat (go_quiet (fail); try go_wp2)
     go_meet
     case rel => exact ⟨_, ((a0_0 == 5)), eqa, H', ⟨by first | omega | exact Nat.le_refl _⟩, ⟨pk BK311.out⟩, ⟨pl1 HB.out GE311.out⟩⟩
    ·rw [if_neg c9] at H
     have c9b0 : (a0_0 == 5) = false := beq_eq_false_iff_ne.mpr c9
     have c9b1 : (a0_0 != 5) = true := bne_iff_ne.mpr c9
     (first | rw [c9b0] | (simp only [i64_w, i32_w]; rw [c9b0]) | skip)
     have H' := Aside0.mk H
     clear H
     go_wp2
     repeat (go_quiet (fail); try go_wp2)
     go_meet
     case rel => exact ⟨_, ((a0_0 == 6)), eqa, H', ⟨by first | omega | exact Nat.le_refl _⟩, ⟨pk BK311.out⟩, ⟨pl1 HB.out GE311.out⟩⟩
   case rest =>
    clear HC8
    try clear hcz5_0; try clear hcz5_1; try clear hcz5_2; try clear hcz5_3; try clear hcz5_4; try clear hcz7_0; try clear hcz7_1; try clear hcz7_2; try clear hcz7_3; try clear hcz7_4; try clear hfz5_0; try clear hfz5_1; try clear hfz5_2; try clear hfz5_3; try clear hfz5_4; try clear hfz7_0; try clear hfz7_1; try clear hfz7_2; try clear hfz7_3; try clear hfz7_4
    obtain ⟨kq, x12_7, rfl, HA, HJ7, BK311, HB⟩ := hcut
    cases kq with
    | zero => exact absurd HA.out (by simp [impl_EditOk.j0])
    | succ kj7 =>
     have H := HA.out
     clear HA
     simp only [impl_EditOk.j0] at H
     by_cases c10 : x12_7 = true
     ·subst c10
      have H1 : (if t312 = true then (impl_EditOk.j1 kj7 true a0_0 a0_1 a0_2 a0_3 a0_4) else (impl_EditOk.j1 kj7 (a0_1.toList == ([47] : List UInt8)) a0_0 a0_1 a0_2 a0_3 a0_4)) = some r := by rw [if_pos rfl] at H; exact H
      clear H
      have H := H1
      clear H1
      by_cases c11 : t312 = true
      ·subst c11
       have H1 : (impl_EditOk.j1 kj7 true a0_0 a0_1 a0_2 a0_3 a0_4) = some r := by rw [if_pos rfl] at H; exact H
       clear H
       have H := H1
       clear H1
       have H' := Aside0.mk H
       clear H
       go_wp2
       repeat (go_quiet (fail); try go_wp2)
       go_meet
       case rel => exact ⟨_, (true), eqa, H', ⟨by have := HJ7.out; first | omega | exact Nat.le_refl _⟩, ⟨pk BK311.out⟩, ⟨pl1 HB.out GE311.out⟩⟩
      ·replace c11 := Bool.eq_false_iff.mpr c11
       subst c11
       have H1 : (impl_EditOk.j1 kj7 (a0_1.toList == ([47] : List UInt8)) a0_0 a0_1 a0_2 a0_3 a0_4) = some r := by rw [if_neg (show ¬ (false = true) by decide)] at H; exact H
       clear H
       have H := H1
       clear H1
       have H' := Aside0.mk H
       clear H
       obtain ⟨hcz12_0, hcz12_1, hcz12_2, hcz12_3, hcz12_4, hfz12_0, hfz12_1, hfz12_2, hfz12_3, hfz12_4⟩ := z5 BK311.out
       go_wp2
       repeat (go_quiet (fail); try go_wp2)
       go_meet
       case rel => exact ⟨_, ((a0_1.toList == ([47] : List UInt8))), eqa, H', ⟨by have := HJ7.out; first | omega | exact Nat.le_refl _⟩, ⟨pk BK311.out⟩, ⟨pl1 HB.out GE311.out⟩⟩
     ·replace c10 := Bool.eq_false_iff.mpr c10
      subst c10
      have H1 : (if a0_0 = 10 then (impl_EditOk.j1 kj7 (a0_1.toList == ([47] : List UInt8)) a0_0 a0_1 a0_2 a0_3 a0_4) else (impl_EditOk.j1 kj7 t312 a0_0 a0_1 a0_2 a0_3 a0_4)) = some r := by rw [if_neg (show ¬ (false = true) by decide)] at H; exact H
      clear H
      have H := H1
      clear H1
      by_cases c13 : a0_0 = 10
      ·rw [if_pos c13] at H
       have c13b0 : (a0_0 == 10) = true := beq_iff_eq.mpr c13
       have c13b1 : (a0_0 != 10) = false := bne_eq_false_iff_eq.mpr c13
       clear c13
       have H' := Aside0.mk H
       clear H
       obtain ⟨hcz14_0, hcz14_1, hcz14_2, hcz14_3, hcz14_4, hfz14_0, hfz14_1, hfz14_2, hfz14_3, hfz14_4⟩ := z5 BK311.out
       go_wp2
       repeat (go_quiet (fail); try go_wp2)
       go_meet
       case rel => exact ⟨_, ((a0_1.toList == ([47] : List UInt8))), eqa, H', ⟨by have := HJ7.out; first | omega | exact Nat.le_refl _⟩, ⟨pk BK311.out⟩, ⟨pl1 HB.out GE311.out⟩⟩
      ·rw [if_neg c13] at H
       have c13b0 : (a0_0 == 10) = false := beq_eq_false_iff_ne.mpr c13
       have c13b1 : (a0_0 != 10) = true := bne_iff_ne.mpr c13
       have H' := Aside0.mk H
       clear H
       go_wp2
       repeat (go_quiet (fail); try go_wp2)
       go_meet
       case rel => exact ⟨_, (t312), eqa, H', ⟨by have := HJ7.out; first | omega | exact Nat.le_refl _⟩, ⟨pk BK311.out⟩, ⟨pl1 HB.out GE311.out⟩⟩
  case rest =>
   clear HC3
   obtain ⟨kq, x3_2, rfl, HA, HJ2, BK311, HB⟩ := hcut
   cases kq with
   | zero => exact absurd HA.out (by simp [impl_EditOk.j1])
   | succ kj2 =>
    have H := HA.out
    clear HA
    simp only [impl_EditOk.j1] at H
    by_cases c15 : a0_0 = 5
    ·rw [if_pos c15] at H
     have c15b0 : (a0_0 == 5) = true := beq_iff_eq.mpr c15
     have c15b1 : (a0_0 != 5) = false := bne_eq_false_iff_eq.mpr c15
     clear c15
     replace H := Option.bind_eq_some_iff.mp H
     obtain ⟨t313, A160, H⟩ := H
     replace H : ((impl_within.f a0_0 1 10).bind fun t314 => (if t314 = true then (if x3_2 = true then (if t313 = true then (if a0_4 = 0 then (some (a0_2.toList == ([] : List UInt8))) else (some false)) else (some false)) else (some false)) else (some false))) = some r := H
     have A16 := Aside0.mk A160
     clear A160
     replace H := Option.bind_eq_some_iff.mp H
     obtain ⟨t314, A170, H⟩ := H
     replace H : (if t314 = true then (if x3_2 = true then (if t313 = true then (if a0_4 = 0 then (some (a0_2.toList == ([] : List UInt8))) else (some false)) else (some false)) else (some false)) else (some false)) = some r := H
     have A17 := Aside0.mk A170
     clear A170
     by_cases c18 : t314 = true
     ·subst c18
      have H1 : (if x3_2 = true then (if t313 = true then (if a0_4 = 0 then (some (a0_2.toList == ([] : List UInt8))) else (some false)) else (some false)) else (some false)) = some r := by rw [if_pos rfl] at H; exact H
      clear H
      have H := H1
      clear H1
      by_cases c19 : x3_2 = true
      ·subst c19
       have H1 : (if t313 = true then (if a0_4 = 0 then (some (a0_2.toList == ([] : List UInt8))) else (some false)) else (some false)) = some r := by rw [if_pos rfl] at H; exact H
       clear H
       have H := H1
       clear H1
       by_cases c20 : t313 = true
       ·subst c20
        have H1 : (if a0_4 = 0 then (some (a0_2.toList == ([] : List UInt8))) else (some false)) = some r := by rw [if_pos rfl] at H; exact H
        clear H
        have H := H1
        clear H1
        by_cases c21 : a0_4 = 0
        ·rw [if_pos c21] at H
         have c21b0 : (a0_4 == 0) = true := beq_iff_eq.mpr c21
         have c21b1 : (a0_4 != 0) = false := bne_eq_false_iff_eq.mpr c21
         clear c21
         obtain rfl := Option.some.inj H
         obtain ⟨hcz22_0, hcz22_1, hcz22_2, hcz22_3, hcz22_4, hfz22_0, hfz22_1, hfz22_2, hfz22_3, hfz22_4⟩ := z5 BK311.out
         go_wp2_with (first | (go_at_call 28; (with_reducible refine (impl_within.calls a0_3 1 3 true _ A16.out).mono ?_); rintro e w' ⟨rfl, ⟨nd, rfl⟩⟩; (try exact dw)) | (go_at_call 28; (with_reducible refine (impl_within.calls a0_0 1 10 true _ A17.out).mono ?_); rintro e w' ⟨rfl, ⟨nd, rfl⟩⟩; (try exact dw)))
         repeat (go_quiet (first | (go_at_call 28; (with_reducible refine (impl_within.calls a0_3 1 3 true _ A16.out).mono ?_); rintro e w' ⟨rfl, ⟨nd, rfl⟩⟩; (try exact dw)) | (go_at_call 28; (with_reducible refine (impl_within.calls a0_0 1 10 true _ A17.out).mono ?_); rintro e w' ⟨rfl, ⟨nd, rfl⟩⟩; (try exact dw))); try go_wp2_with (first | (go_at_call 28; (with_reducible refine (impl_within.calls a0_3 1 3 true _ A16.out).mono ?_); rintro e w' ⟨rfl, ⟨nd, rfl⟩⟩; (try exact dw)) | (go_at_call 28; (with_reducible refine (impl_within.calls a0_0 1 10 true _ A17.out).mono ?_); rintro e w' ⟨rfl, ⟨nd, rfl⟩⟩; (try exact dw))))
         go_ret
         exact ⟨erq, pl1 HB.out GE311.out⟩
        ·rw [if_neg c21] at H
         have c21b0 : (a0_4 == 0) = false := beq_eq_false_iff_ne.mpr c21
         have c21b1 : (a0_4 != 0) = true := bne_iff_ne.mpr c21
         obtain rfl := Option.some.inj H
         obtain ⟨hcz23_0, hcz23_1, hcz23_2, hcz23_3, hcz23_4, hfz23_0, hfz23_1, hfz23_2, hfz23_3, hfz23_4⟩ := z5 BK311.out
         go_wp2_with (first | (go_at_call 28; (with_reducible refine (impl_within.calls a0_3 1 3 true _ A16.out).mono ?_); rintro e w' ⟨rfl, ⟨nd, rfl⟩⟩; (try exact dw)) | (go_at_call 28; (with_reducible refine (impl_within.calls a0_0 1 10 true _ A17.out).mono ?_); rintro e w' ⟨rfl, ⟨nd, rfl⟩⟩; (try exact dw)))
         repeat (go_quiet (first | (go_at_call 28; (with_reducible refine (impl_within.calls a0_3 1 3 true _ A16.out).mono ?_); rintro e w' ⟨rfl, ⟨nd, rfl⟩⟩; (try exact dw)) | (go_at_call 28; (with_reducible refine (impl_within.calls a0_0 1 10 true _ A17.out).mono ?_); rintro e w' ⟨rfl, ⟨nd, rfl⟩⟩; (try exact dw))); try go_wp2_with (first | (go_at_call 28; (with_reducible refine (impl_within.calls a0_3 1 3 true _ A16.out).mono ?_); rintro e w' ⟨rfl, ⟨nd, rfl⟩⟩; (try exact dw)) | (go_at_call 28; (with_reducible refine (impl_within.calls a0_0 1 10 true _ A17.out).mono ?_); rintro e w' ⟨rfl, ⟨nd, rfl⟩⟩; (try exact dw))))
         go_ret
         exact ⟨erq, pl1 HB.out GE311.out⟩
       ·replace c20 := Bool.eq_false_iff.mpr c20
        subst c20
        have H1 : (some false) = some r := by rw [if_neg (show ¬ (false = true) by decide)] at H; exact H
        clear H
        have H := H1
        clear H1
        obtain rfl := Option.some.inj H
        obtain ⟨hcz24_0, hcz24_1, hcz24_2, hcz24_3, hcz24_4, hfz24_0, hfz24_1, hfz24_2, hfz24_3, hfz24_4⟩ := z5 BK311.out
        go_wp2_with (first | (go_at_call 28; (with_reducible refine (impl_within.calls a0_3 1 3 false _ A16.out).mono ?_); rintro e w' ⟨rfl, ⟨nd, rfl⟩⟩; (try exact dw)) | (go_at_call 28; (with_reducible refine (impl_within.calls a0_0 1 10 true _ A17.out).mono ?_); rintro e w' ⟨rfl, ⟨nd, rfl⟩⟩; (try exact dw)))
        repeat (go_quiet (first | (go_at_call 28; (with_reducible refine (impl_within.calls a0_3 1 3 false _ A16.out).mono ?_); rintro e w' ⟨rfl, ⟨nd, rfl⟩⟩; (try exact dw)) | (go_at_call 28; (with_reducible refine (impl_within.calls a0_0 1 10 true _ A17.out).mono ?_); rintro e w' ⟨rfl, ⟨nd, rfl⟩⟩; (try exact dw))); try go_wp2_with (first | (go_at_call 28; (with_reducible refine (impl_within.calls a0_3 1 3 false _ A16.out).mono ?_); rintro e w' ⟨rfl, ⟨nd, rfl⟩⟩; (try exact dw)) | (go_at_call 28; (with_reducible refine (impl_within.calls a0_0 1 10 true _ A17.out).mono ?_); rintro e w' ⟨rfl, ⟨nd, rfl⟩⟩; (try exact dw))))
        go_ret
        exact ⟨erq, pl1 HB.out GE311.out⟩
      ·replace c19 := Bool.eq_false_iff.mpr c19
       subst c19
       have H1 : (some false) = some r := by rw [if_neg (show ¬ (false = true) by decide)] at H; exact H
       clear H
       have H := H1
       clear H1
       obtain rfl := Option.some.inj H
       obtain ⟨hcz25_0, hcz25_1, hcz25_2, hcz25_3, hcz25_4, hfz25_0, hfz25_1, hfz25_2, hfz25_3, hfz25_4⟩ := z5 BK311.out
       go_wp2_with (first | (go_at_call 28; (with_reducible refine (impl_within.calls a0_3 1 3 t313 _ A16.out).mono ?_); rintro e w' ⟨rfl, ⟨nd, rfl⟩⟩; (try exact dw)) | (go_at_call 28; (with_reducible refine (impl_within.calls a0_0 1 10 true _ A17.out).mono ?_); rintro e w' ⟨rfl, ⟨nd, rfl⟩⟩; (try exact dw)))
       repeat (go_quiet (first | (go_at_call 28; (with_reducible refine (impl_within.calls a0_3 1 3 t313 _ A16.out).mono ?_); rintro e w' ⟨rfl, ⟨nd, rfl⟩⟩; (try exact dw)) | (go_at_call 28; (with_reducible refine (impl_within.calls a0_0 1 10 true _ A17.out).mono ?_); rintro e w' ⟨rfl, ⟨nd, rfl⟩⟩; (try exact dw))); try go_wp2_with (first | (go_at_call 28; (with_reducible refine (impl_within.calls a0_3 1 3 t313 _ A16.out).mono ?_); rintro e w' ⟨rfl, ⟨nd, rfl⟩⟩; (try exact dw)) | (go_at_call 28; (with_reducible refine (impl_within.calls a0_0 1 10 true _ A17.out).mono ?_); rintro e w' ⟨rfl, ⟨nd, rfl⟩⟩; (try exact dw))))
       go_ret
       exact ⟨erq, pl1 HB.out GE311.out⟩
     ·replace c18 := Bool.eq_false_iff.mpr c18
      subst c18
      have H1 : (some false) = some r := by rw [if_neg (show ¬ (false = true) by decide)] at H; exact H
      clear H
      have H := H1
      clear H1
      obtain rfl := Option.some.inj H
      obtain ⟨hcz26_0, hcz26_1, hcz26_2, hcz26_3, hcz26_4, hfz26_0, hfz26_1, hfz26_2, hfz26_3, hfz26_4⟩ := z5 BK311.out
      go_wp2_with (first | (go_at_call 28; (with_reducible refine (impl_within.calls a0_3 1 3 t313 _ A16.out).mono ?_); rintro e w' ⟨rfl, ⟨nd, rfl⟩⟩; (try exact dw)) | (go_at_call 28; (with_reducible refine (impl_within.calls a0_0 1 10 false _ A17.out).mono ?_); rintro e w' ⟨rfl, ⟨nd, rfl⟩⟩; (try exact dw)))
      repeat (go_quiet (first | (go_at_call 28; (with_reducible refine (impl_within.calls a0_3 1 3 t313 _ A16.out).mono ?_); rintro e w' ⟨rfl, ⟨nd, rfl⟩⟩; (try exact dw)) | (go_at_call 28; (with_reducible refine (impl_within.calls a0_0 1 10 false _ A17.out).mono ?_); rintro e w' ⟨rfl, ⟨nd, rfl⟩⟩; (try exact dw))); try go_wp2_with (first | (go_at_call 28; (with_reducible refine (impl_within.calls a0_3 1 3 t313 _ A16.out).mono ?_); rintro e w' ⟨rfl, ⟨nd, rfl⟩⟩; (try exact dw)) | (go_at_call 28; (with_reducible refine (impl_within.calls a0_0 1 10 false _ A17.out).mono ?_); rintro e w' ⟨rfl, ⟨nd, rfl⟩⟩; (try exact dw))))
      go_ret
      exact ⟨erq, pl1 HB.out GE311.out⟩
    ·rw [if_neg c15] at H
     have c15b0 : (a0_0 == 5) = false := beq_eq_false_iff_ne.mpr c15
     have c15b1 : (a0_0 != 5) = true := bne_iff_ne.mpr c15
     by_cases c27 : a0_0 = 6
     ·rw [if_pos c27] at H
      have c27b0 : (a0_0 == 6) = true := beq_iff_eq.mpr c27
      have c27b1 : (a0_0 != 6) = false := bne_eq_false_iff_eq.mpr c27
      clear c27
      replace H := Option.bind_eq_some_iff.mp H
      obtain ⟨t315, A280, H⟩ := H
      replace H : ((impl_within.f a0_0 1 10).bind fun t316 => (if t316 = true then (if x3_2 = true then (if t315 = true then (if a0_4 = 0 then (some (a0_2.toList == ([] : List UInt8))) else (some false)) else (some false)) else (some false)) else (some false))) = some r := H
      have A28 := Aside0.mk A280
      clear A280
      replace H := Option.bind_eq_some_iff.mp H
      obtain ⟨t316, A290, H⟩ := H
      replace H : (if t316 = true then (if x3_2 = true then (if t315 = true then (if a0_4 = 0 then (some (a0_2.toList == ([] : List UInt8))) else (some false)) else (some false)) else (some false)) else (some false)) = some r := H
      have A29 := Aside0.mk A290
      clear A290
      by_cases c30 : t316 = true
      ·subst c30
       have H1 : (if x3_2 = true then (if t315 = true then (if a0_4 = 0 then (some (a0_2.toList == ([] : List UInt8))) else (some false)) else (some false)) else (some false)) = some r := by rw [if_pos rfl] at H; exact H
       clear H
       have H := H1
       clear H1
       by_cases c31 : x3_2 = true
       ·subst c31
        have H1 : (if t315 = true then (if a0_4 = 0 then (some (a0_2.toList == ([] : List UInt8))) else (some false)) else (some false)) = some r := by rw [if_pos rfl] at H; exact H
        clear H
        have H := H1
        clear H1
        by_cases c32 : t315 = true
        ·subst c32
         have H1 : (if a0_4 = 0 then (some (a0_2.toList == ([] : List UInt8))) else (some false)) = some r := by rw [if_pos rfl] at H; exact H
         clear H
         have H := H1
         clear H1
         by_cases c33 : a0_4 = 0
         ·rw [if_pos c33] at H
          have c33b0 : (a0_4 == 0) = true := beq_iff_eq.mpr c33
          have c33b1 : (a0_4 != 0) = false := bne_eq_false_iff_eq.mpr c33
          clear c33
          obtain rfl := Option.some.inj H
          obtain ⟨hcz34_0, hcz34_1, hcz34_2, hcz34_3, hcz34_4, hfz34_0, hfz34_1, hfz34_2, hfz34_3, hfz34_4⟩ := z5 BK311.out
          go_wp2_with (first | (go_at_call 28; (with_reducible refine (impl_within.calls a0_3 0 1000 true _ A28.out).mono ?_); rintro e w' ⟨rfl, ⟨nd, rfl⟩⟩; (try exact dw)) | (go_at_call 28; (with_reducible refine (impl_within.calls a0_0 1 10 true _ A29.out).mono ?_); rintro e w' ⟨rfl, ⟨nd, rfl⟩⟩; (try exact dw)))
          repeat (go_quiet (first | (go_at_call 28; (with_reducible refine (impl_within.calls a0_3 0 1000 true _ A28.out).mono ?_); rintro e w' ⟨rfl, ⟨nd, rfl⟩⟩; (try exact dw)) | (go_at_call 28; (with_reducible refine (impl_within.calls a0_0 1 10 true _ A29.out).mono ?_); rintro e w' ⟨rfl, ⟨nd, rfl⟩⟩; (try exact dw))); try go_wp2_with (first | (go_at_call 28; (with_reducible refine (impl_within.calls a0_3 0 1000 true _ A28.out).mono ?_); rintro e w' ⟨rfl, ⟨nd, rfl⟩⟩; (try exact dw)) | (go_at_call 28; (with_reducible refine (impl_within.calls a0_0 1 10 true _ A29.out).mono ?_); rintro e w' ⟨rfl, ⟨nd, rfl⟩⟩; (try exact dw))))
          go_ret
          exact ⟨erq, pl1 HB.out GE311.out⟩
         ·rw [if_neg c33] at H
          have c33b0 : (a0_4 == 0) = false := beq_eq_false_iff_ne.mpr c33
          have c33b1 : (a0_4 != 0) = true := bne_iff_ne.mpr c33
          obtain rfl := Option.some.inj H
          obtain ⟨hcz35_0, hcz35_1, hcz35_2, hcz35_3, hcz35_4, hfz35_0, hfz35_1, hfz35_2, hfz35_3, hfz35_4⟩ := z5 BK311.out
          go_wp2_with (first | (go_at_call 28; (with_reducible refine (impl_within.calls a0_3 0 1000 true _ A28.out).mono ?_); rintro e w' ⟨rfl, ⟨nd, rfl⟩⟩; (try exact dw)) | (go_at_call 28; (with_reducible refine (impl_within.calls a0_0 1 10 true _ A29.out).mono ?_); rintro e w' ⟨rfl, ⟨nd, rfl⟩⟩; (try exact dw)))
          repeat (go_quiet (first | (go_at_call 28; (with_reducible refine (impl_within.calls a0_3 0 1000 true _ A28.out).mono ?_); rintro e w' ⟨rfl, ⟨nd, rfl⟩⟩; (try exact dw)) | (go_at_call 28; (with_reducible refine (impl_within.calls a0_0 1 10 true _ A29.out).mono ?_); rintro e w' ⟨rfl, ⟨nd, rfl⟩⟩; (try exact dw))); try go_wp2_with (first | (go_at_call 28; (with_reducible refine (impl_within.calls a0_3 0 1000 true _ A28.out).mono ?_); rintro e w' ⟨rfl, ⟨nd, rfl⟩⟩; (try exact dw)) | (go_at_call 28; (with_reducible refine (impl_within.calls a0_0 1 10 true _ A29.out).mono ?_); rintro e w' ⟨rfl, ⟨nd, rfl⟩⟩; (try exact dw))))
          go_ret
          exact ⟨erq, pl1 HB.out GE311.out⟩
        ·replace c32 := Bool.eq_false_iff.mpr c32
         subst c32
         have H1 : (some false) = some r := by rw [if_neg (show ¬ (false = true) by decide)] at H; exact H
         clear H
         have H := H1
         clear H1
         obtain rfl := Option.some.inj H
         obtain ⟨hcz36_0, hcz36_1, hcz36_2, hcz36_3, hcz36_4, hfz36_0, hfz36_1, hfz36_2, hfz36_3, hfz36_4⟩ := z5 BK311.out
         go_wp2_with (first | (go_at_call 28; (with_reducible refine (impl_within.calls a0_3 0 1000 false _ A28.out).mono ?_); rintro e w' ⟨rfl, ⟨nd, rfl⟩⟩; (try exact dw)) | (go_at_call 28; (with_reducible refine (impl_within.calls a0_0 1 10 true _ A29.out).mono ?_); rintro e w' ⟨rfl, ⟨nd, rfl⟩⟩; (try exact dw)))
         repeat (go_quiet (first | (go_at_call 28; (with_reducible refine (impl_within.calls a0_3 0 1000 false _ A28.out).mono ?_); rintro e w' ⟨rfl, ⟨nd, rfl⟩⟩; (try exact dw)) | (go_at_call 28; (with_reducible refine (impl_within.calls a0_0 1 10 true _ A29.out).mono ?_); rintro e w' ⟨rfl, ⟨nd, rfl⟩⟩; (try exact dw))); try go_wp2_with (first | (go_at_call 28; (with_reducible refine (impl_within.calls a0_3 0 1000 false _ A28.out).mono ?_); rintro e w' ⟨rfl, ⟨nd, rfl⟩⟩; (try exact dw)) | (go_at_call 28; (with_reducible refine (impl_within.calls a0_0 1 10 true _ A29.out).mono ?_); rintro e w' ⟨rfl, ⟨nd, rfl⟩⟩; (try exact dw))))
         go_ret
         exact ⟨erq, pl1 HB.out GE311.out⟩
       ·replace c31 := Bool.eq_false_iff.mpr c31
        subst c31
        have H1 : (some false) = some r := by rw [if_neg (show ¬ (false = true) by decide)] at H; exact H
        clear H
        have H := H1
        clear H1
        obtain rfl := Option.some.inj H
        obtain ⟨hcz37_0, hcz37_1, hcz37_2, hcz37_3, hcz37_4, hfz37_0, hfz37_1, hfz37_2, hfz37_3, hfz37_4⟩ := z5 BK311.out
        go_wp2_with (first | (go_at_call 28; (with_reducible refine (impl_within.calls a0_3 0 1000 t315 _ A28.out).mono ?_); rintro e w' ⟨rfl, ⟨nd, rfl⟩⟩; (try exact dw)) | (go_at_call 28; (with_reducible refine (impl_within.calls a0_0 1 10 true _ A29.out).mono ?_); rintro e w' ⟨rfl, ⟨nd, rfl⟩⟩; (try exact dw)))
        repeat (go_quiet (first | (go_at_call 28; (with_reducible refine (impl_within.calls a0_3 0 1000 t315 _ A28.out).mono ?_); rintro e w' ⟨rfl, ⟨nd, rfl⟩⟩; (try exact dw)) | (go_at_call 28; (with_reducible refine (impl_within.calls a0_0 1 10 true _ A29.out).mono ?_); rintro e w' ⟨rfl, ⟨nd, rfl⟩⟩; (try exact dw))); try go_wp2_with (first | (go_at_call 28; (with_reducible refine (impl_within.calls a0_3 0 1000 t315 _ A28.out).mono ?_); rintro e w' ⟨rfl, ⟨nd, rfl⟩⟩; (try exact dw)) | (go_at_call 28; (with_reducible refine (impl_within.calls a0_0 1 10 true _ A29.out).mono ?_); rintro e w' ⟨rfl, ⟨nd, rfl⟩⟩; (try exact dw))))
        go_ret
        exact ⟨erq, pl1 HB.out GE311.out⟩
      ·replace c30 := Bool.eq_false_iff.mpr c30
       subst c30
       have H1 : (some false) = some r := by rw [if_neg (show ¬ (false = true) by decide)] at H; exact H
       clear H
       have H := H1
       clear H1
       obtain rfl := Option.some.inj H
       obtain ⟨hcz38_0, hcz38_1, hcz38_2, hcz38_3, hcz38_4, hfz38_0, hfz38_1, hfz38_2, hfz38_3, hfz38_4⟩ := z5 BK311.out
       go_wp2_with (first | (go_at_call 28; (with_reducible refine (impl_within.calls a0_3 0 1000 t315 _ A28.out).mono ?_); rintro e w' ⟨rfl, ⟨nd, rfl⟩⟩; (try exact dw)) | (go_at_call 28; (with_reducible refine (impl_within.calls a0_0 1 10 false _ A29.out).mono ?_); rintro e w' ⟨rfl, ⟨nd, rfl⟩⟩; (try exact dw)))
       repeat (go_quiet (first | (go_at_call 28; (with_reducible refine (impl_within.calls a0_3 0 1000 t315 _ A28.out).mono ?_); rintro e w' ⟨rfl, ⟨nd, rfl⟩⟩; (try exact dw)) | (go_at_call 28; (with_reducible refine (impl_within.calls a0_0 1 10 false _ A29.out).mono ?_); rintro e w' ⟨rfl, ⟨nd, rfl⟩⟩; (try exact dw))); try go_wp2_with (first | (go_at_call 28; (with_reducible refine (impl_within.calls a0_3 0 1000 t315 _ A28.out).mono ?_); rintro e w' ⟨rfl, ⟨nd, rfl⟩⟩; (try exact dw)) | (go_at_call 28; (with_reducible refine (impl_within.calls a0_0 1 10 false _ A29.out).mono ?_); rintro e w' ⟨rfl, ⟨nd, rfl⟩⟩; (try exact dw))))
       go_ret
       exact ⟨erq, pl1 HB.out GE311.out⟩
     ·rw [if_neg c27] at H
      have c27b0 : (a0_0 == 6) = false := beq_eq_false_iff_ne.mpr c27
      have c27b1 : (a0_0 != 6) = true := bne_iff_ne.mpr c27
      by_cases c39 : a0_0 = 7
      ·rw [if_pos c39] at H
       have c39b0 : (a0_0 == 7) = true := beq_iff_eq.mpr c39
       have c39b1 : (a0_0 != 7) = false := bne_eq_false_iff_eq.mpr c39
       clear c39
       replace H := Option.bind_eq_some_iff.mp H
       obtain ⟨t317, A400, H⟩ := H
       replace H : ((impl_within.f a0_0 1 10).bind fun t318 => (if t318 = true then (if x3_2 = true then (if t317 = true then (if a0_4 = 0 then (some (a0_2.toList == ([] : List UInt8))) else (some false)) else (some false)) else (some false)) else (some false))) = some r := H
       have A40 := Aside0.mk A400
       clear A400
       replace H := Option.bind_eq_some_iff.mp H
       obtain ⟨t318, A410, H⟩ := H
       replace H : (if t318 = true then (if x3_2 = true then (if t317 = true then (if a0_4 = 0 then (some (a0_2.toList == ([] : List UInt8))) else (some false)) else (some false)) else (some false)) else (some false)) = some r := H
       have A41 := Aside0.mk A410
       clear A410
       by_cases c42 : t318 = true
       ·subst c42
        have H1 : (if x3_2 = true then (if t317 = true then (if a0_4 = 0 then (some (a0_2.toList == ([] : List UInt8))) else (some false)) else (some false)) else (some false)) = some r := by rw [if_pos rfl] at H; exact H
        clear H
        have H := H1
        clear H1
        by_cases c43 : x3_2 = true
        ·subst c43
         have H1 : (if t317 = true then (if a0_4 = 0 then (some (a0_2.toList == ([] : List UInt8))) else (some false)) else (some false)) = some r := by rw [if_pos rfl] at H; exact H
         clear H
         have H := H1
         clear H1
         by_cases c44 : t317 = true
         ·subst c44
          have H1 : (if a0_4 = 0 then (some (a0_2.toList == ([] : List UInt8))) else (some false)) = some r := by rw [if_pos rfl] at H; exact H
          clear H
          have H := H1
          clear H1
          by_cases c45 : a0_4 = 0
          ·rw [if_pos c45] at H
           have c45b0 : (a0_4 == 0) = true := beq_iff_eq.mpr c45
           have c45b1 : (a0_4 != 0) = false := bne_eq_false_iff_eq.mpr c45
           clear c45
           obtain rfl := Option.some.inj H
           obtain ⟨hcz46_0, hcz46_1, hcz46_2, hcz46_3, hcz46_4, hfz46_0, hfz46_1, hfz46_2, hfz46_3, hfz46_4⟩ := z5 BK311.out
           go_wp2_with (first | (go_at_call 28; (with_reducible refine (impl_within.calls a0_3 1 200 true _ A40.out).mono ?_); rintro e w' ⟨rfl, ⟨nd, rfl⟩⟩; (try exact dw)) | (go_at_call 28; (with_reducible refine (impl_within.calls a0_0 1 10 true _ A41.out).mono ?_); rintro e w' ⟨rfl, ⟨nd, rfl⟩⟩; (try exact dw)))
           repeat (go_quiet (first | (go_at_call 28; (with_reducible refine (impl_within.calls a0_3 1 200 true _ A40.out).mono ?_); rintro e w' ⟨rfl, ⟨nd, rfl⟩⟩; (try exact dw)) | (go_at_call 28; (with_reducible refine (impl_within.calls a0_0 1 10 true _ A41.out).mono ?_); rintro e w' ⟨rfl, ⟨nd, rfl⟩⟩; (try exact dw))); try go_wp2_with (first | (go_at_call 28; (with_reducible refine (impl_within.calls a0_3 1 200 true _ A40.out).mono ?_); rintro e w' ⟨rfl, ⟨nd, rfl⟩⟩; (try exact dw)) | (go_at_call 28; (with_reducible refine (impl_within.calls a0_0 1 10 true _ A41.out).mono ?_); rintro e w' ⟨rfl, ⟨nd, rfl⟩⟩; (try exact dw))))
           go_ret
           exact ⟨erq, pl1 HB.out GE311.out⟩
          ·rw [if_neg c45] at H
           have c45b0 : (a0_4 == 0) = false := beq_eq_false_iff_ne.mpr c45
           have c45b1 : (a0_4 != 0) = true := bne_iff_ne.mpr c45
           obtain rfl := Option.some.inj H
           obtain ⟨hcz47_0, hcz47_1, hcz47_2, hcz47_3, hcz47_4, hfz47_0, hfz47_1, hfz47_2, hfz47_3, hfz47_4⟩ := z5 BK311.out
           go_wp2_with (first | (go_at_call 28; (with_reducible refine (impl_within.calls a0_3 1 200 true _ A40.out).mono ?_); rintro e w' ⟨rfl, ⟨nd, rfl⟩⟩; (try exact dw)) | (go_at_call 28; (with_reducible refine (impl_within.calls a0_0 1 10 true _ A41.out).mono ?_); rintro e w' ⟨rfl, ⟨nd, rfl⟩⟩; (try exact dw)))
           repeat (go_quiet (first | (go_at_call 28; (with_reducible refine (impl_within.calls a0_3 1 200 true _ A40.out).mono ?_); rintro e w' ⟨rfl, ⟨nd, rfl⟩⟩; (try exact dw)) | (go_at_call 28; (with_reducible refine (impl_within.calls a0_0 1 10 true _ A41.out).mono ?_); rintro e w' ⟨rfl, ⟨nd, rfl⟩⟩; (try exact dw))); try go_wp2_with (first | (go_at_call 28; (with_reducible refine (impl_within.calls a0_3 1 200 true _ A40.out).mono ?_); rintro e w' ⟨rfl, ⟨nd, rfl⟩⟩; (try exact dw)) | (go_at_call 28; (with_reducible refine (impl_within.calls a0_0 1 10 true _ A41.out).mono ?_); rintro e w' ⟨rfl, ⟨nd, rfl⟩⟩; (try exact dw))))
           go_ret
           exact ⟨erq, pl1 HB.out GE311.out⟩
         ·replace c44 := Bool.eq_false_iff.mpr c44
          subst c44
          have H1 : (some false) = some r := by rw [if_neg (show ¬ (false = true) by decide)] at H; exact H
          clear H
          have H := H1
          clear H1
          obtain rfl := Option.some.inj H
          obtain ⟨hcz48_0, hcz48_1, hcz48_2, hcz48_3, hcz48_4, hfz48_0, hfz48_1, hfz48_2, hfz48_3, hfz48_4⟩ := z5 BK311.out
          go_wp2_with (first | (go_at_call 28; (with_reducible refine (impl_within.calls a0_3 1 200 false _ A40.out).mono ?_); rintro e w' ⟨rfl, ⟨nd, rfl⟩⟩; (try exact dw)) | (go_at_call 28; (with_reducible refine (impl_within.calls a0_0 1 10 true _ A41.out).mono ?_); rintro e w' ⟨rfl, ⟨nd, rfl⟩⟩; (try exact dw)))
          repeat (go_quiet (first | (go_at_call 28; (with_reducible refine (impl_within.calls a0_3 1 200 false _ A40.out).mono ?_); rintro e w' ⟨rfl, ⟨nd, rfl⟩⟩; (try exact dw)) | (go_at_call 28; (with_reducible refine (impl_within.calls a0_0 1 10 true _ A41.out).mono ?_); rintro e w' ⟨rfl, ⟨nd, rfl⟩⟩; (try exact dw))); try go_wp2_with (first | (go_at_call 28; (with_reducible refine (impl_within.calls a0_3 1 200 false _ A40.out).mono ?_); rintro e w' ⟨rfl, ⟨nd, rfl⟩⟩; (try exact dw)) | (go_at_call 28; (with_reducible refine (impl_within.calls a0_0 1 10 true _ A41.out).mono ?_); rintro e w' ⟨rfl, ⟨nd, rfl⟩⟩; (try exact dw))))
          go_ret
          exact ⟨erq, pl1 HB.out GE311.out⟩
        ·replace c43 := Bool.eq_false_iff.mpr c43
         subst c43
         have H1 : (some false) = some r := by rw [if_neg (show ¬ (false = true) by decide)] at H; exact H
         clear H
         have H := H1
         clear H1
         obtain rfl := Option.some.inj H
         obtain ⟨hcz49_0, hcz49_1, hcz49_2, hcz49_3, hcz49_4, hfz49_0, hfz49_1, hfz49_2, hfz49_3, hfz49_4⟩ := z5 BK311.out
         go_wp2_with (first | (go_at_call 28; (with_reducible refine (impl_within.calls a0_3 1 200 t317 _ A40.out).mono ?_); rintro e w' ⟨rfl, ⟨nd, rfl⟩⟩; (try exact dw)) | (go_at_call 28; (with_reducible refine (impl_within.calls a0_0 1 10 true _ A41.out).mono ?_); rintro e w' ⟨rfl, ⟨nd, rfl⟩⟩; (try exact dw)))
         repeat (go_quiet (first | (go_at_call 28; (with_reducible refine (impl_within.calls a0_3 1 200 t317 _ A40.out).mono ?_); rintro e w' ⟨rfl, ⟨nd, rfl⟩⟩; (try exact dw)) | (go_at_call 28; (with_reducible refine (impl_within.calls a0_0 1 10 true _ A41.out).mono ?_); rintro e w' ⟨rfl, ⟨nd, rfl⟩⟩; (try exact dw))); try go_wp2_with (first | (go_at_call 28; (with_reducible refine (impl_within.calls a0_3 1 200 t317 _ A40.out).mono ?_); rintro e w' ⟨rfl, ⟨nd, rfl⟩⟩; (try exact dw)) | (go_at_call 28; (with_reducible refine (impl_within.calls a0_0 1 10 true _ A41.out).mono ?_); rintro e w' ⟨rfl, ⟨nd, rfl⟩⟩; (try exact dw))))
         go_ret
         exact ⟨erq, pl1 HB.out GE311.out⟩
       ·replace c42 := Bool.eq_false_iff.mpr c42
        subst c42
        have H1 : (some false) = some r := by rw [if_neg (show ¬ (false = true) by decide)] at H; exact H
        clear H
        have H := H1
        clear H1
        obtain rfl := Option.some.inj H
        obtain ⟨hcz50_0, hcz50_1, hcz50_2, hcz50_3, hcz50_4, hfz50_0, hfz50_1, hfz50_2, hfz50_3, hfz50_4⟩ := z5 BK311.out
        go_wp2_with (first | (go_at_call 28; (with_reducible refine (impl_within.calls a0_3 1 200 t317 _ A40.out).mono ?_); rintro e w' ⟨rfl, ⟨nd, rfl⟩⟩; (try exact dw)) | (go_at_call 28; (with_reducible refine (impl_within.calls a0_0 1 10 false _ A41.out).mono ?_); rintro e w' ⟨rfl, ⟨nd, rfl⟩⟩; (try exact dw)))
        repeat (go_quiet (first | (go_at_call 28; (with_reducible refine (impl_within.calls a0_3 1 200 t317 _ A40.out).mono ?_); rintro e w' ⟨rfl, ⟨nd, rfl⟩⟩; (try exact dw)) | (go_at_call 28; (with_reducible refine (impl_within.calls a0_0 1 10 false _ A41.out).mono ?_); rintro e w' ⟨rfl, ⟨nd, rfl⟩⟩; (try exact dw))); try go_wp2_with (first | (go_at_call 28; (with_reducible refine (impl_within.calls a0_3 1 200 t317 _ A40.out).mono ?_); rintro e w' ⟨rfl, ⟨nd, rfl⟩⟩; (try exact dw)) | (go_at_call 28; (with_reducible refine (impl_within.calls a0_0 1 10 false _ A41.out).mono ?_); rintro e w' ⟨rfl, ⟨nd, rfl⟩⟩; (try exact dw))))
        go_ret
        exact ⟨erq, pl1 HB.out GE311.out⟩
      ·rw [if_neg c39] at H
       have c39b0 : (a0_0 == 7) = false := beq_eq_false_iff_ne.mpr c39
       have c39b1 : (a0_0 != 7) = true := bne_iff_ne.mpr c39
       have HC51 := Aside0.mk H
       clear H
       obtain ⟨hcz52_0, hcz52_1, hcz52_2, hcz52_3, hcz52_4, hfz52_0, hfz52_1, hfz52_2, hfz52_3, hfz52_4⟩ := z5 BK311.out
       go_upto_if 52 with (fail)
       repeat (go_quiet (fail); go_upto_if 52 with (fail))
       go_cut [52] (fun v52 wc => ∃ (kq : Nat) (x52_50 : Bool), v52 = .bool x52_50 ∧ Aside0 (impl_EditOk.j2 kq x3_2 (a0_3 == 0) (a0_4 == 0) (a0_2.toList == ([] : List UInt8)) a0_0 x52_50 a0_0 a0_1 a0_2 a0_3 a0_4 = some r) ∧ Aside0 (kq ≤ kj2) ∧ Aside0 (wc.heap[gb311]? = some (.cells #[.int .i64 a0_0, .string a0_1, .string a0_2, .int .i64 a0_3, .int .i64 a0_4] 34 (0, 0))) ∧ Aside0 (Below w.heap.size w wc))
       case first =>
        have H := HC51.out
        clear HC51
        by_cases c53 : a0_0 = 2
        ·rw [if_pos c53] at H
         have c53b0 : (a0_0 == 2) = true := beq_iff_eq.mpr c53
         have c53b1 : (a0_0 != 2) = false := bne_eq_false_iff_eq.mpr c53
         clear c53
         (first | rw [c53b0] | (simp only [i64_w, i32_w]; rw [c53b0]) | skip)
         have H' := Aside0.mk H
         clear H
         go_wp2
         repeat (go_quiet (fail); try go_wp2)
         go_meet
         case rel => exact ⟨_, ((a0_0 == 2)), eqa, H', ⟨by have := HJ2.out; first | omega | exact Nat.le_refl _⟩, ⟨pk BK311.out⟩, ⟨pl1 HB.out GE311.out⟩⟩
        ·rw [if_neg c53] at H
         have c53b0 : (a0_0 == 2) = false := beq_eq_false_iff_ne.mpr c53
         have c53b1 : (a0_0 != 2) = true := bne_iff_ne.mpr c53
         (first | rw [c53b0] | (simp only [i64_w, i32_w]; rw [c53b0]) | skip)
         have H' := Aside0.mk H
         clear H
         go_wp2
         repeat (go_quiet (fail); try go_wp2)
         go_meet
         case rel => exact ⟨_, ((a0_0 == 9)), eqa, H', ⟨by have := HJ2.out; first | omega | exact Nat.le_refl _⟩, ⟨pk BK311.out⟩, ⟨pl1 HB.out GE311.out⟩⟩
       case rest =>
        clear HC51
        try clear c15; try clear c15b0; try clear c15b1; try clear c27; try clear c27b0; try clear c27b1; try clear c39; try clear c39b0; try clear c39b1; try clear hcz52_0; try clear hcz52_1; try clear hcz52_2; try clear hcz52_3; try clear hcz52_4; try clear hfz52_0; try clear hfz52_1; try clear hfz52_2; try clear hfz52_3; try clear hfz52_4
        obtain ⟨kq, x52_50, rfl, HA, HJ50, BK311, HB⟩ := hcut
        cases kq with
        | zero => exact absurd HA.out (by simp [impl_EditOk.j2])
        | succ kj50 =>
         have H := HA.out
         clear HA
         simp only [impl_EditOk.j2] at H
         by_cases c54 : x52_50 = true
         ·subst c54
          have H1 : ((impl_within.f a0_4 1 9).bind fun t319 => ((impl_within.f a0_0 1 10).bind fun t320 => (if t320 = true then (if x3_2 = true then (if (a0_3 == 0) = true then (if t319 = true then (some (a0_2.toList == ([] : List UInt8))) else (some false)) else (some false)) else (some false)) else (some false)))) = some r := by rw [if_pos rfl] at H; exact H
          clear H
          have H := H1
          clear H1
          replace H := Option.bind_eq_some_iff.mp H
          obtain ⟨t319, A550, H⟩ := H
          replace H : ((impl_within.f a0_0 1 10).bind fun t320 => (if t320 = true then (if x3_2 = true then (if (a0_3 == 0) = true then (if t319 = true then (some (a0_2.toList == ([] : List UInt8))) else (some false)) else (some false)) else (some false)) else (some false))) = some r := H
          have A55 := Aside0.mk A550
          clear A550
          replace H := Option.bind_eq_some_iff.mp H
          obtain ⟨t320, A560, H⟩ := H
          replace H : (if t320 = true then (if x3_2 = true then (if (a0_3 == 0) = true then (if t319 = true then (some (a0_2.toList == ([] : List UInt8))) else (some false)) else (some false)) else (some false)) else (some false)) = some r := H
          have A56 := Aside0.mk A560
          clear A560
          by_cases c57 : t320 = true
          ·subst c57
           have H1 : (if x3_2 = true then (if (a0_3 == 0) = true then (if t319 = true then (some (a0_2.toList == ([] : List UInt8))) else (some false)) else (some false)) else (some false)) = some r := by rw [if_pos rfl] at H; exact H
           clear H
           have H := H1
           clear H1
           by_cases c58 : x3_2 = true
           ·subst c58
            have H1 : (if (a0_3 == 0) = true then (if t319 = true then (some (a0_2.toList == ([] : List UInt8))) else (some false)) else (some false)) = some r := by rw [if_pos rfl] at H; exact H
            clear H
            have H := H1
            clear H1
            by_cases c59 : (a0_3 == 0) = true
            ·rw [if_pos c59] at H
             have c59b0 : (a0_3 == 0) = true := c59
             (try (have c59b1 : decide (a0_3 = 0) = true := by simpa using c59))
             (try (have c59b2 : (a0_3 == 0) = true := by simpa using c59))
             clear c59
             by_cases c60 : t319 = true
             ·subst c60
              have H1 : (some (a0_2.toList == ([] : List UInt8))) = some r := by rw [if_pos rfl] at H; exact H
              clear H
              have H := H1
              clear H1
              obtain rfl := Option.some.inj H
              obtain ⟨hcz61_0, hcz61_1, hcz61_2, hcz61_3, hcz61_4, hfz61_0, hfz61_1, hfz61_2, hfz61_3, hfz61_4⟩ := z5 BK311.out
              go_wp2_with (first | (go_at_call 28; (with_reducible refine (impl_within.calls a0_4 1 9 true _ A55.out).mono ?_); rintro e w' ⟨rfl, ⟨nd, rfl⟩⟩; (try exact dw)) | (go_at_call 28; (with_reducible refine (impl_within.calls a0_0 1 10 true _ A56.out).mono ?_); rintro e w' ⟨rfl, ⟨nd, rfl⟩⟩; (try exact dw)))
              repeat (go_quiet (first | (go_at_call 28; (with_reducible refine (impl_within.calls a0_4 1 9 true _ A55.out).mono ?_); rintro e w' ⟨rfl, ⟨nd, rfl⟩⟩; (try exact dw)) | (go_at_call 28; (with_reducible refine (impl_within.calls a0_0 1 10 true _ A56.out).mono ?_); rintro e w' ⟨rfl, ⟨nd, rfl⟩⟩; (try exact dw))); try go_wp2_with (first | (go_at_call 28; (with_reducible refine (impl_within.calls a0_4 1 9 true _ A55.out).mono ?_); rintro e w' ⟨rfl, ⟨nd, rfl⟩⟩; (try exact dw)) | (go_at_call 28; (with_reducible refine (impl_within.calls a0_0 1 10 true _ A56.out).mono ?_); rintro e w' ⟨rfl, ⟨nd, rfl⟩⟩; (try exact dw))))
              go_ret
              exact ⟨erq, pl1 HB.out GE311.out⟩
             ·replace c60 := Bool.eq_false_iff.mpr c60
              subst c60
              have H1 : (some false) = some r := by rw [if_neg (show ¬ (false = true) by decide)] at H; exact H
              clear H
              have H := H1
              clear H1
              obtain rfl := Option.some.inj H
              obtain ⟨hcz62_0, hcz62_1, hcz62_2, hcz62_3, hcz62_4, hfz62_0, hfz62_1, hfz62_2, hfz62_3, hfz62_4⟩ := z5 BK311.out
              go_wp2_with (first | (go_at_call 28; (with_reducible refine (impl_within.calls a0_4 1 9 false _ A55.out).mono ?_); rintro e w' ⟨rfl, ⟨nd, rfl⟩⟩; (try exact dw)) | (go_at_call 28; (with_reducible refine (impl_within.calls a0_0 1 10 true _ A56.out).mono ?_); rintro e w' ⟨rfl, ⟨nd, rfl⟩⟩; (try exact dw)))
              repeat (go_quiet (first | (go_at_call 28; (with_reducible refine (impl_within.calls a0_4 1 9 false _ A55.out).mono ?_); rintro e w' ⟨rfl, ⟨nd, rfl⟩⟩; (try exact dw)) | (go_at_call 28; (with_reducible refine (impl_within.calls a0_0 1 10 true _ A56.out).mono ?_); rintro e w' ⟨rfl, ⟨nd, rfl⟩⟩; (try exact dw))); try go_wp2_with (first | (go_at_call 28; (with_reducible refine (impl_within.calls a0_4 1 9 false _ A55.out).mono ?_); rintro e w' ⟨rfl, ⟨nd, rfl⟩⟩; (try exact dw)) | (go_at_call 28; (with_reducible refine (impl_within.calls a0_0 1 10 true _ A56.out).mono ?_); rintro e w' ⟨rfl, ⟨nd, rfl⟩⟩; (try exact dw))))
              go_ret
              exact ⟨erq, pl1 HB.out GE311.out⟩
            ·rw [if_neg c59] at H
             have c59b0 : (a0_3 == 0) = false := by simpa using c59
             (try (have c59b1 : decide (a0_3 = 0) = false := by simpa using c59))
             (try (have c59b2 : (a0_3 == 0) = false := by simpa using c59))
             (try (have c59b3 : ¬ (a0_3 = 0) := by simpa using c59))
             clear c59
             obtain rfl := Option.some.inj H
             obtain ⟨hcz63_0, hcz63_1, hcz63_2, hcz63_3, hcz63_4, hfz63_0, hfz63_1, hfz63_2, hfz63_3, hfz63_4⟩ := z5 BK311.out
             go_wp2_with (first | (go_at_call 28; (with_reducible refine (impl_within.calls a0_4 1 9 t319 _ A55.out).mono ?_); rintro e w' ⟨rfl, ⟨nd, rfl⟩⟩; (try exact dw)) | (go_at_call 28; (with_reducible refine (impl_within.calls a0_0 1 10 true _ A56.out).mono ?_); rintro e w' ⟨rfl, ⟨nd, rfl⟩⟩; (try exact dw)))
             repeat (go_quiet (first | (go_at_call 28; (with_reducible refine (impl_within.calls a0_4 1 9 t319 _ A55.out).mono ?_); rintro e w' ⟨rfl, ⟨nd, rfl⟩⟩; (try exact dw)) | (go_at_call 28; (with_reducible refine (impl_within.calls a0_0 1 10 true _ A56.out).mono ?_); rintro e w' ⟨rfl, ⟨nd, rfl⟩⟩; (try exact dw))); try go_wp2_with (first | (go_at_call 28; (with_reducible refine (impl_within.calls a0_4 1 9 t319 _ A55.out).mono ?_); rintro e w' ⟨rfl, ⟨nd, rfl⟩⟩; (try exact dw)) | (go_at_call 28; (with_reducible refine (impl_within.calls a0_0 1 10 true _ A56.out).mono ?_); rintro e w' ⟨rfl, ⟨nd, rfl⟩⟩; (try exact dw))))
             go_ret
             exact ⟨erq, pl1 HB.out GE311.out⟩
           ·replace c58 := Bool.eq_false_iff.mpr c58
            subst c58
            have H1 : (some false) = some r := by rw [if_neg (show ¬ (false = true) by decide)] at H; exact H
            clear H
            have H := H1
            clear H1
            obtain rfl := Option.some.inj H
            obtain ⟨hcz64_0, hcz64_1, hcz64_2, hcz64_3, hcz64_4, hfz64_0, hfz64_1, hfz64_2, hfz64_3, hfz64_4⟩ := z5 BK311.out
            go_wp2_with (first | (go_at_call 28; (with_reducible refine (impl_within.calls a0_4 1 9 t319 _ A55.out).mono ?_); rintro e w' ⟨rfl, ⟨nd, rfl⟩⟩; (try exact dw)) | (go_at_call 28; (with_reducible refine (impl_within.calls a0_0 1 10 true _ A56.out).mono ?_); rintro e w' ⟨rfl, ⟨nd, rfl⟩⟩; (try exact dw)))
            repeat (go_quiet (first | (go_at_call 28; (with_reducible refine (impl_within.calls a0_4 1 9 t319 _ A55.out).mono ?_); rintro e w' ⟨rfl, ⟨nd, rfl⟩⟩; (try exact dw)) | (go_at_call 28; (with_reducible refine (impl_within.calls a0_0 1 10 true _ A56.out).mono ?_); rintro e w' ⟨rfl, ⟨nd, rfl⟩⟩; (try exact dw))); try go_wp2_with (first | (go_at_call 28; (with_reducible refine (impl_within.calls a0_4 1 9 t319 _ A55.out).mono ?_); rintro e w' ⟨rfl, ⟨nd, rfl⟩⟩; (try exact dw)) | (go_at_call 28; (with_reducible refine (impl_within.calls a0_0 1 10 true _ A56.out).mono ?_); rintro e w' ⟨rfl, ⟨nd, rfl⟩⟩; (try exact dw))))
            go_ret
            exact ⟨erq, pl1 HB.out GE311.out⟩
          ·replace c57 := Bool.eq_false_iff.mpr c57
           subst c57
           have H1 : (some false) = some r := by rw [if_neg (show ¬ (false = true) by decide)] at H; exact H
           clear H
           have H := H1
           clear H1
           obtain rfl := Option.some.inj H
           obtain ⟨hcz65_0, hcz65_1, hcz65_2, hcz65_3, hcz65_4, hfz65_0, hfz65_1, hfz65_2, hfz65_3, hfz65_4⟩ := z5 BK311.out
           go_wp2_with (first | (go_at_call 28; (with_reducible refine (impl_within.calls a0_4 1 9 t319 _ A55.out).mono ?_); rintro e w' ⟨rfl, ⟨nd, rfl⟩⟩; (try exact dw)) | (go_at_call 28; (with_reducible refine (impl_within.calls a0_0 1 10 false _ A56.out).mono ?_); rintro e w' ⟨rfl, ⟨nd, rfl⟩⟩; (try exact dw)))
           repeat (go_quiet (first | (go_at_call 28; (with_reducible refine (impl_within.calls a0_4 1 9 t319 _ A55.out).mono ?_); rintro e w' ⟨rfl, ⟨nd, rfl⟩⟩; (try exact dw)) | (go_at_call 28; (with_reducible refine (impl_within.calls a0_0 1 10 false _ A56.out).mono ?_); rintro e w' ⟨rfl, ⟨nd, rfl⟩⟩; (try exact dw))); try go_wp2_with (first | (go_at_call 28; (with_reducible refine (impl_within.calls a0_4 1 9 t319 _ A55.out).mono ?_); rintro e w' ⟨rfl, ⟨nd, rfl⟩⟩; (try exact dw)) | (go_at_call 28; (with_reducible refine (impl_within.calls a0_0 1 10 false _ A56.out).mono ?_); rintro e w' ⟨rfl, ⟨nd, rfl⟩⟩; (try exact dw))))
           go_ret
           exact ⟨erq, pl1 HB.out GE311.out⟩
         ·replace c54 := Bool.eq_false_iff.mpr c54
          subst c54
          have H1 : (if a0_0 = 3 then ((impl_named.f kj50 a0_2).bind fun t321 => ((impl_within.f a0_0 1 10).bind fun t322 => (if t322 = true then (if x3_2 = true then (if (a0_3 == 0) = true then (if (a0_4 == 0) = true then (some t321) else (some false)) else (some false)) else (some false)) else (some false)))) else ((impl_within.f a0_0 1 10).bind fun t323 => (if t323 = true then (if x3_2 = true then (if (a0_3 == 0) = true then (if (a0_4 == 0) = true then (some (a0_2.toList == ([] : List UInt8))) else (some false)) else (some false)) else (some false)) else (some false)))) = some r := by rw [if_neg (show ¬ (false = true) by decide)] at H; exact H
          clear H
          have H := H1
          clear H1
          by_cases c66 : a0_0 = 3
          ·rw [if_pos c66] at H
           have c66b0 : (a0_0 == 3) = true := beq_iff_eq.mpr c66
           have c66b1 : (a0_0 != 3) = false := bne_eq_false_iff_eq.mpr c66
           clear c66
           replace H := Option.bind_eq_some_iff.mp H
           obtain ⟨t321, A670, H⟩ := H
           replace H : ((impl_within.f a0_0 1 10).bind fun t322 => (if t322 = true then (if x3_2 = true then (if (a0_3 == 0) = true then (if (a0_4 == 0) = true then (some t321) else (some false)) else (some false)) else (some false)) else (some false))) = some r := H
           have A67 := Aside0.mk A670
           clear A670
           replace H := Option.bind_eq_some_iff.mp H
           obtain ⟨t322, A680, H⟩ := H
           replace H : (if t322 = true then (if x3_2 = true then (if (a0_3 == 0) = true then (if (a0_4 == 0) = true then (some t321) else (some false)) else (some false)) else (some false)) else (some false)) = some r := H
           have A68 := Aside0.mk A680
           clear A680
           by_cases c69 : t322 = true
           ·subst c69
            have H1 : (if x3_2 = true then (if (a0_3 == 0) = true then (if (a0_4 == 0) = true then (some t321) else (some false)) else (some false)) else (some false)) = some r := by rw [if_pos rfl] at H; exact H
            clear H
            have H := H1
            clear H1
            by_cases c70 : x3_2 = true
            ·subst c70
             have H1 : (if (a0_3 == 0) = true then (if (a0_4 == 0) = true then (some t321) else (some false)) else (some false)) = some r := by rw [if_pos rfl] at H; exact H
             clear H
             have H := H1
             clear H1
             by_cases c71 : (a0_3 == 0) = true
             ·rw [if_pos c71] at H
              have c71b0 : (a0_3 == 0) = true := c71
              (try (have c71b1 : decide (a0_3 = 0) = true := by simpa using c71))
              (try (have c71b2 : (a0_3 == 0) = true := by simpa using c71))
              clear c71
              by_cases c72 : (a0_4 == 0) = true
              ·rw [if_pos c72] at H
               have c72b0 : (a0_4 == 0) = true := c72
               (try (have c72b1 : decide (a0_4 = 0) = true := by simpa using c72))
               (try (have c72b2 : (a0_4 == 0) = true := by simpa using c72))
               clear c72
               obtain rfl := Option.some.inj H
               obtain ⟨hcz73_0, hcz73_1, hcz73_2, hcz73_3, hcz73_4, hfz73_0, hfz73_1, hfz73_2, hfz73_3, hfz73_4⟩ := z5 BK311.out
               go_wp2_with (first | (go_at_call 36; (with_reducible refine (impl_named.calls kj50 a0_2 t321 _ A67.out ?mg).mono ?_); (case mg => exact HG.out.on (pl1 HB.out GE311.out)); rintro e w74 ⟨rfl, hb⟩; replace BK311 := Aside0.mk (pb BK311.out hb); replace HB := Aside0.mk (below_step (pl1 HB.out GE311.out) hb); (try clear hb); (try clear hb2); (try clear hk); (try clear hi); obtain ⟨hcz75_0, hcz75_1, hcz75_2, hcz75_3, hcz75_4, hfz75_0, hfz75_1, hfz75_2, hfz75_3, hfz75_4⟩ := z5 BK311.out) | (go_at_call 28; (with_reducible refine (impl_within.calls a0_0 1 10 true _ A68.out).mono ?_); rintro e w' ⟨rfl, ⟨nd, rfl⟩⟩; (try exact dw)))
               repeat (go_quiet (first | (go_at_call 36; (with_reducible refine (impl_named.calls kj50 a0_2 t321 _ A67.out ?mg).mono ?_); (case mg => exact HG.out.on (pl1 HB.out GE311.out)); rintro e w74 ⟨rfl, hb⟩; replace BK311 := Aside0.mk (pb BK311.out hb); replace HB := Aside0.mk (below_step (pl1 HB.out GE311.out) hb); (try clear hb); (try clear hb2); (try clear hk); (try clear hi); obtain ⟨hcz75_0, hcz75_1, hcz75_2, hcz75_3, hcz75_4, hfz75_0, hfz75_1, hfz75_2, hfz75_3, hfz75_4⟩ := z5 BK311.out) | (go_at_call 28; (with_reducible refine (impl_within.calls a0_0 1 10 true _ A68.out).mono ?_); rintro e w' ⟨rfl, ⟨nd, rfl⟩⟩; (try exact dw))); try go_wp2_with (first | (go_at_call 36; (with_reducible refine (impl_named.calls kj50 a0_2 t321 _ A67.out ?mg).mono ?_); (case mg => exact HG.out.on (pl1 HB.out GE311.out)); rintro e w74 ⟨rfl, hb⟩; replace BK311 := Aside0.mk (pb BK311.out hb); replace HB := Aside0.mk (below_step (pl1 HB.out GE311.out) hb); (try clear hb); (try clear hb2); (try clear hk); (try clear hi); obtain ⟨hcz75_0, hcz75_1, hcz75_2, hcz75_3, hcz75_4, hfz75_0, hfz75_1, hfz75_2, hfz75_3, hfz75_4⟩ := z5 BK311.out) | (go_at_call 28; (with_reducible refine (impl_within.calls a0_0 1 10 true _ A68.out).mono ?_); rintro e w' ⟨rfl, ⟨nd, rfl⟩⟩; (try exact dw))))
               go_ret
               exact ⟨erq, pl1 HB.out GE311.out⟩
              ·rw [if_neg c72] at H
               have c72b0 : (a0_4 == 0) = false := by simpa using c72
               (try (have c72b1 : decide (a0_4 = 0) = false := by simpa using c72))
               (try (have c72b2 : (a0_4 == 0) = false := by simpa using c72))
               (try (have c72b3 : ¬ (a0_4 = 0) := by simpa using c72))
               clear c72
               obtain rfl := Option.some.inj H
               obtain ⟨hcz76_0, hcz76_1, hcz76_2, hcz76_3, hcz76_4, hfz76_0, hfz76_1, hfz76_2, hfz76_3, hfz76_4⟩ := z5 BK311.out
               go_wp2_with (first | (go_at_call 36; (with_reducible refine (impl_named.calls kj50 a0_2 t321 _ A67.out ?mg).mono ?_); (case mg => exact HG.out.on (pl1 HB.out GE311.out)); rintro e w77 ⟨rfl, hb⟩; replace BK311 := Aside0.mk (pb BK311.out hb); replace HB := Aside0.mk (below_step (pl1 HB.out GE311.out) hb); (try clear hb); (try clear hb2); (try clear hk); (try clear hi); obtain ⟨hcz78_0, hcz78_1, hcz78_2, hcz78_3, hcz78_4, hfz78_0, hfz78_1, hfz78_2, hfz78_3, hfz78_4⟩ := z5 BK311.out) | (go_at_call 28; (with_reducible refine (impl_within.calls a0_0 1 10 true _ A68.out).mono ?_); rintro e w' ⟨rfl, ⟨nd, rfl⟩⟩; (try exact dw)))
               repeat (go_quiet (first | (go_at_call 36; (with_reducible refine (impl_named.calls kj50 a0_2 t321 _ A67.out ?mg).mono ?_); (case mg => exact HG.out.on (pl1 HB.out GE311.out)); rintro e w77 ⟨rfl, hb⟩; replace BK311 := Aside0.mk (pb BK311.out hb); replace HB := Aside0.mk (below_step (pl1 HB.out GE311.out) hb); (try clear hb); (try clear hb2); (try clear hk); (try clear hi); obtain ⟨hcz78_0, hcz78_1, hcz78_2, hcz78_3, hcz78_4, hfz78_0, hfz78_1, hfz78_2, hfz78_3, hfz78_4⟩ := z5 BK311.out) | (go_at_call 28; (with_reducible refine (impl_within.calls a0_0 1 10 true _ A68.out).mono ?_); rintro e w' ⟨rfl, ⟨nd, rfl⟩⟩; (try exact dw))); try go_wp2_with (first | (go_at_call 36; (with_reducible refine (impl_named.calls kj50 a0_2 t321 _ A67.out ?mg).mono ?_); (case mg => exact HG.out.on (pl1 HB.out GE311.out)); rintro e w77 ⟨rfl, hb⟩; replace BK311 := Aside0.mk (pb BK311.out hb); replace HB := Aside0.mk (below_step (pl1 HB.out GE311.out) hb); (try clear hb); (try clear hb2); (try clear hk); (try clear hi); obtain ⟨hcz78_0, hcz78_1, hcz78_2, hcz78_3, hcz78_4, hfz78_0, hfz78_1, hfz78_2, hfz78_3, hfz78_4⟩ := z5 BK311.out) | (go_at_call 28; (with_reducible refine (impl_within.calls a0_0 1 10 true _ A68.out).mono ?_); rintro e w' ⟨rfl, ⟨nd, rfl⟩⟩; (try exact dw))))
               go_ret
               exact ⟨erq, pl1 HB.out GE311.out⟩
             ·rw [if_neg c71] at H
              have c71b0 : (a0_3 == 0) = false := by simpa using c71
              (try (have c71b1 : decide (a0_3 = 0) = false := by simpa using c71))
              (try (have c71b2 : (a0_3 == 0) = false := by simpa using c71))
              (try (have c71b3 : ¬ (a0_3 = 0) := by simpa using c71))
              clear c71
              obtain rfl := Option.some.inj H
              obtain ⟨hcz79_0, hcz79_1, hcz79_2, hcz79_3, hcz79_4, hfz79_0, hfz79_1, hfz79_2, hfz79_3, hfz79_4⟩ := z5 BK311.out
              go_wp2_with (first | (go_at_call 36; (with_reducible refine (impl_named.calls kj50 a0_2 t321 _ A67.out ?mg).mono ?_); (case mg => exact HG.out.on (pl1 HB.out GE311.out)); rintro e w80 ⟨rfl, hb⟩; replace BK311 := Aside0.mk (pb BK311.out hb); replace HB := Aside0.mk (below_step (pl1 HB.out GE311.out) hb); (try clear hb); (try clear hb2); (try clear hk); (try clear hi); obtain ⟨hcz81_0, hcz81_1, hcz81_2, hcz81_3, hcz81_4, hfz81_0, hfz81_1, hfz81_2, hfz81_3, hfz81_4⟩ := z5 BK311.out) | (go_at_call 28; (with_reducible refine (impl_within.calls a0_0 1 10 true _ A68.out).mono ?_); rintro e w' ⟨rfl, ⟨nd, rfl⟩⟩; (try exact dw)))
              repeat (go_quiet (first | (go_at_call 36; (with_reducible refine (impl_named.calls kj50 a0_2 t321 _ A67.out ?mg).mono ?_); (case mg => exact HG.out.on (pl1 HB.out GE311.out)); rintro e w80 ⟨rfl, hb⟩; replace BK311 := Aside0.mk (pb BK311.out hb); replace HB := Aside0.mk (below_step (pl1 HB.out GE311.out) hb); (try clear hb); (try clear hb2); (try clear hk); (try clear hi); obtain ⟨hcz81_0, hcz81_1, hcz81_2, hcz81_3, hcz81_4, hfz81_0, hfz81_1, hfz81_2, hfz81_3, hfz81_4⟩ := z5 BK311.out) | (go_at_call 28; (with_reducible refine (impl_within.calls a0_0 1 10 true _ A68.out).mono ?_); rintro e w' ⟨rfl, ⟨nd, rfl⟩⟩; (try exact dw))); try go_wp2_with (first | (go_at_call 36; (with_reducible refine (impl_named.calls kj50 a0_2 t321 _ A67.out ?mg).mono ?_); (case mg => exact HG.out.on (pl1 HB.out GE311.out)); rintro e w80 ⟨rfl, hb⟩; replace BK311 := Aside0.mk (pb BK311.out hb); replace HB := Aside0.mk (below_step (pl1 HB.out GE311.out) hb); (try clear hb); (try clear hb2); (try clear hk); (try clear hi); obtain ⟨hcz81_0, hcz81_1, hcz81_2, hcz81_3, hcz81_4, hfz81_0, hfz81_1, hfz81_2, hfz81_3, hfz81_4⟩ := z5 BK311.out) | (go_at_call 28; (with_reducible refine (impl_within.calls a0_0 1 10 true _ A68.out).mono ?_); rintro e w' ⟨rfl, ⟨nd, rfl⟩⟩; (try exact dw))))
              go_ret
              exact ⟨erq, pl1 HB.out GE311.out⟩
            ·replace c70 := Bool.eq_false_iff.mpr c70
             subst c70
             have H1 : (some false) = some r := by rw [if_neg (show ¬ (false = true) by decide)] at H; exact H
             clear H
             have H := H1
             clear H1
             obtain rfl := Option.some.inj H
             obtain ⟨hcz82_0, hcz82_1, hcz82_2, hcz82_3, hcz82_4, hfz82_0, hfz82_1, hfz82_2, hfz82_3, hfz82_4⟩ := z5 BK311.out
             go_wp2_with (first | (go_at_call 36; (with_reducible refine (impl_named.calls kj50 a0_2 t321 _ A67.out ?mg).mono ?_); (case mg => exact HG.out.on (pl1 HB.out GE311.out)); rintro e w83 ⟨rfl, hb⟩; replace BK311 := Aside0.mk (pb BK311.out hb); replace HB := Aside0.mk (below_step (pl1 HB.out GE311.out) hb); (try clear hb); (try clear hb2); (try clear hk); (try clear hi); obtain ⟨hcz84_0, hcz84_1, hcz84_2, hcz84_3, hcz84_4, hfz84_0, hfz84_1, hfz84_2, hfz84_3, hfz84_4⟩ := z5 BK311.out) | (go_at_call 28; (with_reducible refine (impl_within.calls a0_0 1 10 true _ A68.out).mono ?_); rintro e w' ⟨rfl, ⟨nd, rfl⟩⟩; (try exact dw)))
             repeat (go_quiet (first | (go_at_call 36; (with_reducible refine (impl_named.calls kj50 a0_2 t321 _ A67.out ?mg).mono ?_); (case mg => exact HG.out.on (pl1 HB.out GE311.out)); rintro e w83 ⟨rfl, hb⟩; replace BK311 := Aside0.mk (pb BK311.out hb); replace HB := Aside0.mk (below_step (pl1 HB.out GE311.out) hb); (try clear hb); (try clear hb2); (try clear hk); (try clear hi); obtain ⟨hcz84_0, hcz84_1, hcz84_2, hcz84_3, hcz84_4, hfz84_0, hfz84_1, hfz84_2, hfz84_3, hfz84_4⟩ := z5 BK311.out) | (go_at_call 28; (with_reducible refine (impl_within.calls a0_0 1 10 true _ A68.out).mono ?_); rintro e w' ⟨rfl, ⟨nd, rfl⟩⟩; (try exact dw))); try go_wp2_with (first | (go_at_call 36; (with_reducible refine (impl_named.calls kj50 a0_2 t321 _ A67.out ?mg).mono ?_); (case mg => exact HG.out.on (pl1 HB.out GE311.out)); rintro e w83 ⟨rfl, hb⟩; replace BK311 := Aside0.mk (pb BK311.out hb); replace HB := Aside0.mk (below_step (pl1 HB.out GE311.out) hb); (try clear hb); (try clear hb2); (try clear hk); (try clear hi); obtain ⟨hcz84_0, hcz84_1, hcz84_2, hcz84_3, hcz84_4, hfz84_0, hfz84_1, hfz84_2, hfz84_3, hfz84_4⟩ := z5 BK311.out) | (go_at_call 28; (with_reducible refine (impl_within.calls a0_0 1 10 true _ A68.out).mono ?_); rintro e w' ⟨rfl, ⟨nd, rfl⟩⟩; (try exact dw))))
             go_ret
             exact ⟨erq, pl1 HB.out GE311.out⟩
           ·replace c69 := Bool.eq_false_iff.mpr c69
            subst c69
            have H1 : (some false) = some r := by rw [if_neg (show ¬ (false = true) by decide)] at H; exact H
            clear H
            have H := H1
            clear H1
            obtain rfl := Option.some.inj H
            obtain ⟨hcz85_0, hcz85_1, hcz85_2, hcz85_3, hcz85_4, hfz85_0, hfz85_1, hfz85_2, hfz85_3, hfz85_4⟩ := z5 BK311.out
            go_wp2_with (first | (go_at_call 36; (with_reducible refine (impl_named.calls kj50 a0_2 t321 _ A67.out ?mg).mono ?_); (case mg => exact HG.out.on (pl1 HB.out GE311.out)); rintro e w86 ⟨rfl, hb⟩; replace BK311 := Aside0.mk (pb BK311.out hb); replace HB := Aside0.mk (below_step (pl1 HB.out GE311.out) hb); (try clear hb); (try clear hb2); (try clear hk); (try clear hi); obtain ⟨hcz87_0, hcz87_1, hcz87_2, hcz87_3, hcz87_4, hfz87_0, hfz87_1, hfz87_2, hfz87_3, hfz87_4⟩ := z5 BK311.out) | (go_at_call 28; (with_reducible refine (impl_within.calls a0_0 1 10 false _ A68.out).mono ?_); rintro e w' ⟨rfl, ⟨nd, rfl⟩⟩; (try exact dw)))
            repeat (go_quiet (first | (go_at_call 36; (with_reducible refine (impl_named.calls kj50 a0_2 t321 _ A67.out ?mg).mono ?_); (case mg => exact HG.out.on (pl1 HB.out GE311.out)); rintro e w86 ⟨rfl, hb⟩; replace BK311 := Aside0.mk (pb BK311.out hb); replace HB := Aside0.mk (below_step (pl1 HB.out GE311.out) hb); (try clear hb); (try clear hb2); (try clear hk); (try clear hi); obtain ⟨hcz87_0, hcz87_1, hcz87_2, hcz87_3, hcz87_4, hfz87_0, hfz87_1, hfz87_2, hfz87_3, hfz87_4⟩ := z5 BK311.out) | (go_at_call 28; (with_reducible refine (impl_within.calls a0_0 1 10 false _ A68.out).mono ?_); rintro e w' ⟨rfl, ⟨nd, rfl⟩⟩; (try exact dw))); try go_wp2_with (first | (go_at_call 36; (with_reducible refine (impl_named.calls kj50 a0_2 t321 _ A67.out ?mg).mono ?_); (case mg => exact HG.out.on (pl1 HB.out GE311.out)); rintro e w86 ⟨rfl, hb⟩; replace BK311 := Aside0.mk (pb BK311.out hb); replace HB := Aside0.mk (below_step (pl1 HB.out GE311.out) hb); (try clear hb); (try clear hb2); (try clear hk); (try clear hi); obtain ⟨hcz87_0, hcz87_1, hcz87_2, hcz87_3, hcz87_4, hfz87_0, hfz87_1, hfz87_2, hfz87_3, hfz87_4⟩ := z5 BK311.out) | (go_at_call 28; (with_reducible refine (impl_within.calls a0_0 1 10 false _ A68.out).mono ?_); rintro e w' ⟨rfl, ⟨nd, rfl⟩⟩; (try exact dw))))
            go_ret
            exact ⟨erq, pl1 HB.out GE311.out⟩
          ·rw [if_neg c66] at H
           have c66b0 : (a0_0 == 3) = false := beq_eq_false_iff_ne.mpr c66
           have c66b1 : (a0_0 != 3) = true := bne_iff_ne.mpr c66
           replace H := Option.bind_eq_some_iff.mp H
           obtain ⟨t323, A880, H⟩ := H
           replace H : (if t323 = true then (if x3_2 = true then (if (a0_3 == 0) = true then (if (a0_4 == 0) = true then (some (a0_2.toList == ([] : List UInt8))) else (some false)) else (some false)) else (some false)) else (some false)) = some r := H
           have A88 := Aside0.mk A880
           clear A880
           by_cases c89 : t323 = true
           ·subst c89
            have H1 : (if x3_2 = true then (if (a0_3 == 0) = true then (if (a0_4 == 0) = true then (some (a0_2.toList == ([] : List UInt8))) else (some false)) else (some false)) else (some false)) = some r := by rw [if_pos rfl] at H; exact H
            clear H
            have H := H1
            clear H1
            by_cases c90 : x3_2 = true
            ·subst c90
             have H1 : (if (a0_3 == 0) = true then (if (a0_4 == 0) = true then (some (a0_2.toList == ([] : List UInt8))) else (some false)) else (some false)) = some r := by rw [if_pos rfl] at H; exact H
             clear H
             have H := H1
             clear H1
             by_cases c91 : (a0_3 == 0) = true
             ·rw [if_pos c91] at H
              have c91b0 : (a0_3 == 0) = true := c91
              (try (have c91b1 : decide (a0_3 = 0) = true := by simpa using c91))
              (try (have c91b2 : (a0_3 == 0) = true := by simpa using c91))
              clear c91
              by_cases c92 : (a0_4 == 0) = true
              ·rw [if_pos c92] at H
               have c92b0 : (a0_4 == 0) = true := c92
               (try (have c92b1 : decide (a0_4 = 0) = true := by simpa using c92))
               (try (have c92b2 : (a0_4 == 0) = true := by simpa using c92))
               clear c92
               obtain rfl := Option.some.inj H
               obtain ⟨hcz93_0, hcz93_1, hcz93_2, hcz93_3, hcz93_4, hfz93_0, hfz93_1, hfz93_2, hfz93_3, hfz93_4⟩ := z5 BK311.out
               go_wp2_with (first | (go_at_call 28; (with_reducible refine (impl_within.calls a0_0 1 10 true _ A88.out).mono ?_); rintro e w' ⟨rfl, ⟨nd, rfl⟩⟩; (try exact dw)))
               repeat (go_quiet (first | (go_at_call 28; (with_reducible refine (impl_within.calls a0_0 1 10 true _ A88.out).mono ?_); rintro e w' ⟨rfl, ⟨nd, rfl⟩⟩; (try exact dw))); try go_wp2_with (first | (go_at_call 28; (with_reducible refine (impl_within.calls a0_0 1 10 true _ A88.out).mono ?_); rintro e w' ⟨rfl, ⟨nd, rfl⟩⟩; (try exact dw))))
               go_ret
               exact ⟨erq, pl1 HB.out GE311.out⟩
              ·rw [if_neg c92] at H
               have c92b0 : (a0_4 == 0) = false := by simpa using c92
               (try (have c92b1 : decide (a0_4 = 0) = false := by simpa using c92))
               (try (have c92b2 : (a0_4 == 0) = false := by simpa using c92))
               (try (have c92b3 : ¬ (a0_4 = 0) := by simpa using c92))
               clear c92
               obtain rfl := Option.some.inj H
               obtain ⟨hcz94_0, hcz94_1, hcz94_2, hcz94_3, hcz94_4, hfz94_0, hfz94_1, hfz94_2, hfz94_3, hfz94_4⟩ := z5 BK311.out
               go_wp2_with (first | (go_at_call 28; (with_reducible refine (impl_within.calls a0_0 1 10 true _ A88.out).mono ?_); rintro e w' ⟨rfl, ⟨nd, rfl⟩⟩; (try exact dw)))
               repeat (go_quiet (first | (go_at_call 28; (with_reducible refine (impl_within.calls a0_0 1 10 true _ A88.out).mono ?_); rintro e w' ⟨rfl, ⟨nd, rfl⟩⟩; (try exact dw))); try go_wp2_with (first | (go_at_call 28; (with_reducible refine (impl_within.calls a0_0 1 10 true _ A88.out).mono ?_); rintro e w' ⟨rfl, ⟨nd, rfl⟩⟩; (try exact dw))))
               go_ret
               exact ⟨erq, pl1 HB.out GE311.out⟩
             ·rw [if_neg c91] at H
              have c91b0 : (a0_3 == 0) = false := by simpa using c91
              (try (have c91b1 : decide (a0_3 = 0) = false := by simpa using c91))
              (try (have c91b2 : (a0_3 == 0) = false := by simpa using c91))
              (try (have c91b3 : ¬ (a0_3 = 0) := by simpa using c91))
              clear c91
              obtain rfl := Option.some.inj H
              obtain ⟨hcz95_0, hcz95_1, hcz95_2, hcz95_3, hcz95_4, hfz95_0, hfz95_1, hfz95_2, hfz95_3, hfz95_4⟩ := z5 BK311.out
              go_wp2_with (first | (go_at_call 28; (with_reducible refine (impl_within.calls a0_0 1 10 true _ A88.out).mono ?_); rintro e w' ⟨rfl, ⟨nd, rfl⟩⟩; (try exact dw)))
              repeat (go_quiet (first | (go_at_call 28; (with_reducible refine (impl_within.calls a0_0 1 10 true _ A88.out).mono ?_); rintro e w' ⟨rfl, ⟨nd, rfl⟩⟩; (try exact dw))); try go_wp2_with (first | (go_at_call 28; (with_reducible refine (impl_within.calls a0_0 1 10 true _ A88.out).mono ?_); rintro e w' ⟨rfl, ⟨nd, rfl⟩⟩; (try exact dw))))
              go_ret
              exact ⟨erq, pl1 HB.out GE311.out⟩
            ·replace c90 := Bool.eq_false_iff.mpr c90
             subst c90
             have H1 : (some false) = some r := by rw [if_neg (show ¬ (false = true) by decide)] at H; exact H
             clear H
             have H := H1
             clear H1
             obtain rfl := Option.some.inj H
             obtain ⟨hcz96_0, hcz96_1, hcz96_2, hcz96_3, hcz96_4, hfz96_0, hfz96_1, hfz96_2, hfz96_3, hfz96_4⟩ := z5 BK311.out
             go_wp2_with (first | (go_at_call 28; (with_reducible refine (impl_within.calls a0_0 1 10 true _ A88.out).mono ?_); rintro e w' ⟨rfl, ⟨nd, rfl⟩⟩; (try exact dw)))
             repeat (go_quiet (first | (go_at_call 28; (with_reducible refine (impl_within.calls a0_0 1 10 true _ A88.out).mono ?_); rintro e w' ⟨rfl, ⟨nd, rfl⟩⟩; (try exact dw))); try go_wp2_with (first | (go_at_call 28; (with_reducible refine (impl_within.calls a0_0 1 10 true _ A88.out).mono ?_); rintro e w' ⟨rfl, ⟨nd, rfl⟩⟩; (try exact dw))))
             go_ret
             exact ⟨erq, pl1 HB.out GE311.out⟩
           ·replace c89 := Bool.eq_false_iff.mpr c89
            subst c89
            have H1 : (some false) = some r := by rw [if_neg (show ¬ (false = true) by decide)] at H; exact H
            clear H
            have H := H1
            clear H1
            obtain rfl := Option.some.inj H
            obtain ⟨hcz97_0, hcz97_1, hcz97_2, hcz97_3, hcz97_4, hfz97_0, hfz97_1, hfz97_2, hfz97_3, hfz97_4⟩ := z5 BK311.out
            go_wp2_with (first | (go_at_call 28; (with_reducible refine (impl_within.calls a0_0 1 10 false _ A88.out).mono ?_); rintro e w' ⟨rfl, ⟨nd, rfl⟩⟩; (try exact dw)))
            repeat (go_quiet (first | (go_at_call 28; (with_reducible refine (impl_within.calls a0_0 1 10 false _ A88.out).mono ?_); rintro e w' ⟨rfl, ⟨nd, rfl⟩⟩; (try exact dw))); try go_wp2_with (first | (go_at_call 28; (with_reducible refine (impl_within.calls a0_0 1 10 false _ A88.out).mono ?_); rintro e w' ⟨rfl, ⟨nd, rfl⟩⟩; (try exact dw))))
            go_ret
            exact ⟨erq, pl1 HB.out GE311.out⟩
def impl_VarText.l0 : Nat → Int → List Int → Option (ByteArray × Bool)
  | 0, _, _ => none
  | k + 1, x0, x4 => if x0 > 127 then (if x4.length < 140737488355328 then (impl_VarText.l0 k (wrap64 (Int.tdiv x0 128)) (x4 ++ [(wrap64 ((Int.tmod x0 128) + 128)) % 256])) else (none)) else (if x4.length < 140737488355328 then (some (strOfNums (x4 ++ [(x0) % 256]), true)) else (none))
def impl_VarText.f (k : Nat) (a0 : Int) : Option (ByteArray × Bool) := (impl_within.f a0 0 1000000000).bind fun t324 => (if t324 = true then (impl_VarText.l0 k a0 ([] : List Int)) else (some ((⟨#[]⟩ : ByteArray), false)))
set_option maxHeartbeats 8000000 in
set_option maxRecDepth 100000 in
theorem impl_VarText.calls (k : Nat) (a0 : Int) (r1 : ByteArray) (r2 : Bool) (w : World) (h : impl_VarText.f k a0 = some (r1, r2)) :
    Calls Tryd.prog 31 #[.int .i64 a0] w fun e w' => e = .returned (.tuple #[.string r1, .bool r2]) ∧ Below w.heap.size w w' := by
  have HB := Aside0.mk (Below.refl w.heap.size w)
  have H : ((impl_within.f a0 0 1000000000).bind fun t324 => (if t324 = true then (impl_VarText.l0 k a0 ([] : List Int)) else (some ((⟨#[]⟩ : ByteArray), false)))) = some (r1, r2) := h
  clear h
  replace H := Option.bind_eq_some_iff.mp H
  obtain ⟨t324, A20, H⟩ := H
  replace H : (if t324 = true then (impl_VarText.l0 k a0 ([] : List Int)) else (some ((⟨#[]⟩ : ByteArray), false))) = some (r1, r2) := H
  have A2 := Aside0.mk A20
  clear A20
  by_cases c3 : t324 = true
  ·subst c3
   have H1 : (impl_VarText.l0 k a0 ([] : List Int)) = some (r1, r2) := by rw [if_pos rfl] at H; exact H
   clear H
   have H := H1
   clear H1
   have H' := Aside0.mk H
   clear H
   go_enter Tryd.func31, Tryd.ntmps31
   go_wp2_with (first | ((with_reducible refine gate_callee (f := 28) rfl ?_); refine goesL_ (some 6) rfl rfl Tryd.func28 (by kernel_rfl) rfl #[.int .i64 a0, .int .i64 0, .int .i64 1000000000] rfl (by (try simp only [List.map_toArray, List.map_cons, List.map_nil]); first | done | rfl | (simp only [List.length_drop, List.length_take]; rfl)) ?_; (with_reducible refine (impl_within.calls a0 0 1000000000 true _ A2.out).mono ?_); rintro e w' ⟨rfl, ⟨nd, rfl⟩⟩; refine ⟨_, rfl, ?_⟩))
   go_loopg [0, 4] k (fun kq v0 v4 w' => ∃ (x0_1 : Int) (x4_1 : List Int), v0 = .int .i64 x0_1 ∧ Aside0 (impl_VarText.l0 kq x0_1 x4_1 = some (r1, r2)) ∧ Aside0 (kq ≤ k) ∧ Aside0 (Kd.R (Kd.int .u8) 5 w' w.heap.size (fun _ => True) v4 x4_1) ∧ Aside0 (Below w.heap.size w w'))
   case atStart => exact ⟨(a0), (([] : List Int)), eqa, H', ⟨Nat.le_refl _⟩, ⟨by first | exact Kd.R_nil _ _ _ _ _ | exact Kd.N_nil _ _ _ _ _ | exact Kd.V_nil _ _ _ _ _ | exact Kd.Q_nil _ _ _ _ _ | exact Kd.S_nil _ _ _ _ _⟩, ⟨pl0 HB.out⟩⟩
   case round =>
    clear H'
    try clear c3
    obtain ⟨x0_1, x4_1, rfl, HA, HK1, HO_4, HB⟩ := hrel
    cases gk with
    | zero => exact absurd HA.out (by simp [impl_VarText.l0])
    | succ k1 =>
     have H := HA.out
     clear HA
     simp only [impl_VarText.l0] at H
     by_cases c4 : x0_1 > 127
     ·rw [if_pos c4] at H
      have c4b0 : decide (127 < x0_1) = true := decide_eq_true c4
      clear c4
      by_cases c5 : x4_1.length < 140737488355328
      ·rw [if_pos c5] at H
       have LMc5 := Aside0.mk c5
       clear c5
       obtain ⟨y325, hy325⟩ : ∃ y_ : List Int, y_ = (x4_1 ++ [(wrap64 ((Int.tmod x0_1 128) + 128)) % 256]) := ⟨_, rfl⟩
       replace H : (impl_VarText.l0 k1 (wrap64 (Int.tdiv x0_1 128)) y325) = some (r1, r2) := by first | (rw [hy325]; with_reducible exact H) | (have H2_ := (Option.bind_some _ _).symm.trans H; rw [hy325]; with_reducible exact H2_) | (have H2_ := (Option.bind_some _ _).symm.trans H; with_reducible exact H2_) | with_reducible exact H | (rw [hy325]; exact H) | exact H
       have Ny325 := Aside0.mk hy325
       clear hy325
       have H' := Aside0.mk H
       clear H
       go_wp2_with (first | ((with_reducible refine gate_builtin (b := .append) (xs := #[.tmp 10, .tmp 15]) rfl ?_); at_builtin; refine Kd.R_append (Kd.int .u8) (w0 := w) w.heap.size rfl (.tmp 10) (.tmp 15) 22 5 (.int .u8 0) 1 rfl Tryd.underlying22 info5 rfl (by decide) (by omega) u4 x4_1 ((wrap64 ((Int.tmod x0_1 128) + 128)) % 256) [.int .u8 ((wrap64 ((Int.tmod x0_1 128) + 128)) % 256)] (fun _ => True) (fun _ => False) rfl rfl ?aP (fun _ hk => hk.elim) ?aF ?aO ?aB ?aS ?aL ?_; (case aP => exact rfl); (case aB => exact (pl0 HB.out)); (case aF => exact (fun _ _ => trivial)); (case aO => exact (by (with_reducible repeat (first | apply Kd.R_alloc | apply Kd.R_drewN | apply Kd.R_drew)); exact HO_4.out)); (case aS => exact (below_size (pl0 HB.out))); (case aL => have := LMc5.out; omega); intro v326 w6 ho hb hg hat; rw [← Ny325.out] at ho; have n0_ := Aside0.mk (hb); have n1_ := Aside0.mk (ho); clear HB; clear HO_4; have HB := n0_; have HO327 := n1_; clear n0_ n1_; clear ho hb hg hat))
       go_roundg k1
       case measure => have := HK1.out; omega
       case rel => exact ⟨(wrap64 (Int.tdiv x0_1 128)), (y325), eqa, H', ⟨by have := HK1.out; omega⟩, ⟨by (with_reducible repeat (first | apply Kd.R_alloc | apply Kd.R_drewN | apply Kd.R_drew)); exact HO327.out⟩, ⟨pl0 HB.out⟩⟩
      ·rw [if_neg c5] at H
       exact absurd H (by simp)
     ·rw [if_neg c4] at H
      have c4b0 : decide (127 < x0_1) = false := decide_eq_false c4
      clear c4
      by_cases c7 : x4_1.length < 140737488355328
      ·rw [if_pos c7] at H
       have LMc7 := Aside0.mk c7
       clear c7
       obtain ⟨y328, hy328⟩ : ∃ y_ : List Int, y_ = (x4_1 ++ [(x0_1) % 256]) := ⟨_, rfl⟩
       replace H : (some (strOfNums y328, true)) = some (r1, r2) := by first | (rw [hy328]; with_reducible exact H) | (have H2_ := (Option.bind_some _ _).symm.trans H; rw [hy328]; with_reducible exact H2_) | (have H2_ := (Option.bind_some _ _).symm.trans H; with_reducible exact H2_) | with_reducible exact H | (rw [hy328]; exact H) | exact H
       have Ny328 := Aside0.mk hy328
       clear hy328
       simp only [Option.some.injEq, Prod.mk.injEq] at H
       obtain ⟨rfl, rfl⟩ := H
       go_wp2_with (first | ((with_reducible refine gate_builtin (b := .append) (xs := #[.tmp 19, .tmp 22]) rfl ?_); at_builtin; refine Kd.R_append (Kd.int .u8) (w0 := w) w.heap.size rfl (.tmp 19) (.tmp 22) 22 5 (.int .u8 0) 1 rfl Tryd.underlying22 info5 rfl (by decide) (by omega) u4 x4_1 ((x0_1) % 256) [.int .u8 ((x0_1) % 256)] (fun _ => True) (fun _ => False) rfl rfl ?aP (fun _ hk => hk.elim) ?aF ?aO ?aB ?aS ?aL ?_; (case aP => exact rfl); (case aB => exact (pl0 HB.out)); (case aF => exact (fun _ _ => trivial)); (case aO => exact (by (with_reducible repeat (first | apply Kd.R_alloc | apply Kd.R_drewN | apply Kd.R_drew)); exact HO_4.out)); (case aS => exact (below_size (pl0 HB.out))); (case aL => have := LMc7.out; omega); intro v329 w8 ho hb hg hat; rw [← Ny328.out] at ho; have n0_ := Aside0.mk (hb); have n1_ := Aside0.mk (ho); clear HB; clear HO_4; have HB := n0_; have HO330 := n1_; clear n0_ n1_; clear ho hb hg hat; have hcv9 := own_string (P := Tryd.prog) Tryd.underlying22 Tryd.underlying5 Tryd.underlying9 (Kd.own_of_R HO330.out)))
       go_ret2
       exact ⟨erq, pl0 HB.out⟩
      ·rw [if_neg c7] at H
       exact absurd H (by simp)
  ·replace c3 := Bool.eq_false_iff.mpr c3
   subst c3
   have H1 : (some ((⟨#[]⟩ : ByteArray), false)) = some (r1, r2) := by rw [if_neg (show ¬ (false = true) by decide)] at H; exact H
   clear H
   have H := H1
   clear H1
   simp only [Option.some.injEq, Prod.mk.injEq] at H
   obtain ⟨rfl, rfl⟩ := H
   go_enter Tryd.func31, Tryd.ntmps31
   go_wp2_with (first | ((with_reducible refine gate_callee (f := 28) rfl ?_); refine goesL_ (some 6) rfl rfl Tryd.func28 (by kernel_rfl) rfl #[.int .i64 a0, .int .i64 0, .int .i64 1000000000] rfl (by (try simp only [List.map_toArray, List.map_cons, List.map_nil]); first | done | rfl | (simp only [List.length_drop, List.length_take]; rfl)) ?_; (with_reducible refine (impl_within.calls a0 0 1000000000 false _ A2.out).mono ?_); rintro e w' ⟨rfl, ⟨nd, rfl⟩⟩; refine ⟨_, rfl, ?_⟩))
   go_ret2
   exact ⟨erq, pl0 HB.out⟩
def impl_ShortText.f (k : Nat) (a0 : ByteArray) : Option (ByteArray × Bool) := if (a0.size : Int) > 20000 then (some ((⟨#[]⟩ : ByteArray), false)) else ((impl_VarText.f k (a0.size : Int)).bind fun bt331 => (if bt331.1.size + a0.size ≤ 9223372036854775807 then (some (bt331.1 ++ a0, true)) else (none)))
set_option maxHeartbeats 8000000 in
set_option maxRecDepth 100000 in
theorem impl_ShortText.calls (k : Nat) (a0 : ByteArray) (r1 : ByteArray) (r2 : Bool) (w : World) (h : impl_ShortText.f k a0 = some (r1, r2)) :
    Calls Tryd.prog 30 #[.string a0] w fun e w' => e = .returned (.tuple #[.string r1, .bool r2]) ∧ Below w.heap.size w w' := by
  have HB := Aside0.mk (Below.refl w.heap.size w)
  have H : (if (a0.size : Int) > 20000 then (some ((⟨#[]⟩ : ByteArray), false)) else ((impl_VarText.f k (a0.size : Int)).bind fun bt331 => (if bt331.1.size + a0.size ≤ 9223372036854775807 then (some (bt331.1 ++ a0, true)) else (none)))) = some (r1, r2) := h
  clear h
  by_cases c2 : (a0.size : Int) > 20000
  ·rw [if_pos c2] at H
   have c2b0 : decide (20000 < (a0.size : Int)) = true := decide_eq_true c2
   have c2b1 : decide (20000 < a0.size) = true := decide_eq_true (by omega)
   clear c2
   simp only [Option.some.injEq, Prod.mk.injEq] at H
   obtain ⟨rfl, rfl⟩ := H
   go_enter Tryd.func30, Tryd.ntmps30
   go_wp2
   go_ret2
   exact ⟨erq, pl0 HB.out⟩
  ·rw [if_neg c2] at H
   have c2b0 : decide (20000 < (a0.size : Int)) = false := decide_eq_false c2
   have c2b1 : decide (20000 < a0.size) = false := decide_eq_false (by omega)
   clear c2
   replace H := Option.bind_eq_some_iff.mp H
   obtain ⟨⟨t331, t332⟩, A30, H⟩ := H
   replace H : (if t331.size + a0.size ≤ 9223372036854775807 then (some (t331 ++ a0, true)) else (none)) = some (r1, r2) := H
   have A3 := Aside0.mk A30
   clear A30
   by_cases c4 : t331.size + a0.size ≤ 9223372036854775807
   ·rw [if_pos c4] at H
    have c4b0 := eq_true c4
    have c4b1 : decide (t331.size + a0.size ≤ 9223372036854775807) = true := decide_eq_true c4
    try have c4b2 : (9223372036854775807 < t331.size + a0.size) = False := eq_false (Nat.not_lt.2 c4)
    simp only [Option.some.injEq, Prod.mk.injEq] at H
    obtain ⟨rfl, rfl⟩ := H
    go_enter Tryd.func30, Tryd.ntmps30
    go_wp2_with (first | ((with_reducible refine gate_callee (f := 31) rfl ?_); refine goesL_ (some 12) rfl rfl Tryd.func31 (by kernel_rfl) rfl #[.int .i64 (a0.size : Int)] rfl (by (try simp only [List.map_toArray, List.map_cons, List.map_nil]); first | done | rfl | (simp only [List.length_drop, List.length_take]; rfl)) ?_; (with_reducible refine (impl_VarText.calls k (a0.size : Int) t331 t332 _ A3.out).mono ?_); rintro e w5 ⟨rfl, hb⟩; refine ⟨_, rfl, ?_⟩; replace HB := Aside0.mk (below_step (pl0 HB.out) hb); (try clear hb); (try clear hb2); (try clear hk); (try clear hi)))
    go_ret2
    exact ⟨erq, pl0 HB.out⟩
   ·rw [if_neg c4] at H
    exact absurd H (by simp)
def impl_EditText.f (k : Nat) (a0_0 : Int) (a0_1 : ByteArray) (a0_2 : ByteArray) (a0_3 : Int) (a0_4 : Int) : Option (ByteArray × Bool) := (impl_EditOk.f k a0_0 a0_1 a0_2 a0_3 a0_4).bind fun t334 => (if t334 = true then ((impl_ShortText.f k a0_1).bind fun bt335 => ((impl_ShortText.f k a0_2).bind fun bt337 => ((impl_VarText.f k a0_3).bind fun bt339 => ((some (([(a0_0) % 256, (a0_4) % 256] : List Int) : List Int)).bind fun y341 => (if (strOfNums y341).size + bt335.1.size ≤ 9223372036854775807 then (if ((strOfNums y341) ++ bt335.1).size + bt337.1.size ≤ 9223372036854775807 then (if (((strOfNums y341) ++ bt335.1) ++ bt337.1).size + bt339.1.size ≤ 9223372036854775807 then (some ((((strOfNums y341) ++ bt335.1) ++ bt337.1) ++ bt339.1, true)) else (none)) else (none)) else (none)))))) else (some ((⟨#[]⟩ : ByteArray), false)))
set_option maxHeartbeats 8000000 in
set_option maxRecDepth 100000 in
theorem impl_EditText.calls (k : Nat) (a0_0 : Int) (a0_1 : ByteArray) (a0_2 : ByteArray) (a0_3 : Int) (a0_4 : Int) (r1 : ByteArray) (r2 : Bool) (w : World) (h : impl_EditText.f k a0_0 a0_1 a0_2 a0_3 a0_4 = some (r1, r2)) (hg : MG w) :
    Calls Tryd.prog 14 #[.agg #[.int .i64 a0_0, .string a0_1, .string a0_2, .int .i64 a0_3, .int .i64 a0_4]] w fun e w' => e = .returned (.tuple #[.string r1, .bool r2]) ∧ Below w.heap.size w w' := by
  have HG := Aside0.mk hg
  clear hg
  have hu34 := Tryd.underlying34
  have HB := Aside0.mk (Below.refl w.heap.size w)
  have H : ((impl_EditOk.f k a0_0 a0_1 a0_2 a0_3 a0_4).bind fun t334 => (if t334 = true then ((impl_ShortText.f k a0_1).bind fun bt335 => ((impl_ShortText.f k a0_2).bind fun bt337 => ((impl_VarText.f k a0_3).bind fun bt339 => ((some (([(a0_0) % 256, (a0_4) % 256] : List Int) : List Int)).bind fun y341 => (if (strOfNums y341).size + bt335.1.size ≤ 9223372036854775807 then (if ((strOfNums y341) ++ bt335.1).size + bt337.1.size ≤ 9223372036854775807 then (if (((strOfNums y341) ++ bt335.1) ++ bt337.1).size + bt339.1.size ≤ 9223372036854775807 then (some ((((strOfNums y341) ++ bt335.1) ++ bt337.1) ++ bt339.1, true)) else (none)) else (none)) else (none)))))) else (some ((⟨#[]⟩ : ByteArray), false)))) = some (r1, r2) := h
  clear h
  replace H := Option.bind_eq_some_iff.mp H
  obtain ⟨t334, A20, H⟩ := H
  replace H : (if t334 = true then ((impl_ShortText.f k a0_1).bind fun bt335 => ((impl_ShortText.f k a0_2).bind fun bt337 => ((impl_VarText.f k a0_3).bind fun bt339 => ((some (([(a0_0) % 256, (a0_4) % 256] : List Int) : List Int)).bind fun y341 => (if (strOfNums y341).size + bt335.1.size ≤ 9223372036854775807 then (if ((strOfNums y341) ++ bt335.1).size + bt337.1.size ≤ 9223372036854775807 then (if (((strOfNums y341) ++ bt335.1) ++ bt337.1).size + bt339.1.size ≤ 9223372036854775807 then (some ((((strOfNums y341) ++ bt335.1) ++ bt337.1) ++ bt339.1, true)) else (none)) else (none)) else (none)))))) else (some ((⟨#[]⟩ : ByteArray), false))) = some (r1, r2) := H
  have A2 := Aside0.mk A20
  clear A20
  by_cases c3 : t334 = true
  ·subst c3
   have H1 : ((impl_ShortText.f k a0_1).bind fun bt335 => ((impl_ShortText.f k a0_2).bind fun bt337 => ((impl_VarText.f k a0_3).bind fun bt339 => ((some (([(a0_0) % 256, (a0_4) % 256] : List Int) : List Int)).bind fun y341 => (if (strOfNums y341).size + bt335.1.size ≤ 9223372036854775807 then (if ((strOfNums y341) ++ bt335.1).size + bt337.1.size ≤ 9223372036854775807 then (if (((strOfNums y341) ++ bt335.1) ++ bt337.1).size + bt339.1.size ≤ 9223372036854775807 then (some ((((strOfNums y341) ++ bt335.1) ++ bt337.1) ++ bt339.1, true)) else (none)) else (none)) else (none)))))) = some (r1, r2) := by rw [if_pos rfl] at H; exact H
   clear H
   have H := H1
   clear H1
   replace H := Option.bind_eq_some_iff.mp H
   obtain ⟨⟨t335, t336⟩, A40, H⟩ := H
   replace H : ((impl_ShortText.f k a0_2).bind fun bt337 => ((impl_VarText.f k a0_3).bind fun bt339 => ((some (([(a0_0) % 256, (a0_4) % 256] : List Int) : List Int)).bind fun y341 => (if (strOfNums y341).size + t335.size ≤ 9223372036854775807 then (if ((strOfNums y341) ++ t335).size + bt337.1.size ≤ 9223372036854775807 then (if (((strOfNums y341) ++ t335) ++ bt337.1).size + bt339.1.size ≤ 9223372036854775807 then (some ((((strOfNums y341) ++ t335) ++ bt337.1) ++ bt339.1, true)) else (none)) else (none)) else (none))))) = some (r1, r2) := H
   have A4 := Aside0.mk A40
   clear A40
   replace H := Option.bind_eq_some_iff.mp H
   obtain ⟨⟨t337, t338⟩, A50, H⟩ := H
   replace H : ((impl_VarText.f k a0_3).bind fun bt339 => ((some (([(a0_0) % 256, (a0_4) % 256] : List Int) : List Int)).bind fun y341 => (if (strOfNums y341).size + t335.size ≤ 9223372036854775807 then (if ((strOfNums y341) ++ t335).size + t337.size ≤ 9223372036854775807 then (if (((strOfNums y341) ++ t335) ++ t337).size + bt339.1.size ≤ 9223372036854775807 then (some ((((strOfNums y341) ++ t335) ++ t337) ++ bt339.1, true)) else (none)) else (none)) else (none)))) = some (r1, r2) := H
   have A5 := Aside0.mk A50
   clear A50
   replace H := Option.bind_eq_some_iff.mp H
   obtain ⟨⟨t339, t340⟩, A60, H⟩ := H
   replace H : ((some (([(a0_0) % 256, (a0_4) % 256] : List Int) : List Int)).bind fun y341 => (if (strOfNums y341).size + t335.size ≤ 9223372036854775807 then (if ((strOfNums y341) ++ t335).size + t337.size ≤ 9223372036854775807 then (if (((strOfNums y341) ++ t335) ++ t337).size + t339.size ≤ 9223372036854775807 then (some ((((strOfNums y341) ++ t335) ++ t337) ++ t339, true)) else (none)) else (none)) else (none))) = some (r1, r2) := H
   have A6 := Aside0.mk A60
   clear A60
   obtain ⟨y341, hy341⟩ : ∃ y_ : List Int, y_ = (([(a0_0) % 256, (a0_4) % 256] : List Int)) := ⟨_, rfl⟩
   replace H : (if (strOfNums y341).size + t335.size ≤ 9223372036854775807 then (if ((strOfNums y341) ++ t335).size + t337.size ≤ 9223372036854775807 then (if (((strOfNums y341) ++ t335) ++ t337).size + t339.size ≤ 9223372036854775807 then (some ((((strOfNums y341) ++ t335) ++ t337) ++ t339, true)) else (none)) else (none)) else (none)) = some (r1, r2) := by first | (rw [hy341]; with_reducible exact H) | (have H2_ := (Option.bind_some _ _).symm.trans H; rw [hy341]; with_reducible exact H2_) | (have H2_ := (Option.bind_some _ _).symm.trans H; with_reducible exact H2_) | with_reducible exact H | (rw [hy341]; exact H) | exact H
   have Ny341 := Aside0.mk hy341
   clear hy341
   by_cases c7 : (strOfNums y341).size + t335.size ≤ 9223372036854775807
   ·rw [if_pos c7] at H
    have c7b0 := eq_true c7
    have c7b1 : decide ((strOfNums y341).size + t335.size ≤ 9223372036854775807) = true := decide_eq_true c7
    try have c7b2 : (9223372036854775807 < (strOfNums y341).size + t335.size) = False := eq_false (Nat.not_lt.2 c7)
    by_cases c8 : ((strOfNums y341) ++ t335).size + t337.size ≤ 9223372036854775807
    ·rw [if_pos c8] at H
     have c8b0 := eq_true c8
     have c8b1 : decide (((strOfNums y341) ++ t335).size + t337.size ≤ 9223372036854775807) = true := decide_eq_true c8
     try have c8b2 : (9223372036854775807 < ((strOfNums y341) ++ t335).size + t337.size) = False := eq_false (Nat.not_lt.2 c8)
     try have c8b4 := c8b2
     try simp only [ByteArray.size_append] at c8b4
     by_cases c9 : (((strOfNums y341) ++ t335) ++ t337).size + t339.size ≤ 9223372036854775807
     ·rw [if_pos c9] at H
      have c9b0 := eq_true c9
      have c9b1 : decide ((((strOfNums y341) ++ t335) ++ t337).size + t339.size ≤ 9223372036854775807) = true := decide_eq_true c9
      try have c9b2 : (9223372036854775807 < (((strOfNums y341) ++ t335) ++ t337).size + t339.size) = False := eq_false (Nat.not_lt.2 c9)
      try have c9b4 := c9b2
      try simp only [ByteArray.size_append] at c9b4
      simp only [Option.some.injEq, Prod.mk.injEq] at H
      obtain ⟨rfl, rfl⟩ := H
      go_enter Tryd.func14, Tryd.ntmps14
      go_wp2_with (first | ((with_reducible refine gate_dst (N := 1) rfl ?_); refine box_event ?hg (N := 1) ?hd (cs := #[.int .i64 a0_0, .string a0_1, .string a0_2, .int .i64 a0_3, .int .i64 a0_4]) (t := 34) ?hr ?_; (case hd => rfl); (case hg => rfl); (case hr => first | (go_simp; done) | (go_simp; rfl)); intro gb333 hg w10 hbox hb; have n0_ := Aside0.mk (below_step (pl0 HB.out) hb); have n1_ := Aside0.mk (hbox); have n2_ := Aside0.mk ((by rw [hg]; exact (below_size (pl0 HB.out)) : w.heap.size ≤ gb333)); have n3_ := Aside0.mk ((by rw [hg]; exact (below_size (pl0 HB.out)) : w.heap.size ≤ gb333)); clear HB; have HB := n0_; have BK333 := n1_; have GW333 := n2_; have GE333 := n3_; clear n0_ n1_ n2_ n3_; clear hb hbox hg; obtain ⟨hcz11_0, hcz11_1, hcz11_2, hcz11_3, hcz11_4, hfz11_0, hfz11_1, hfz11_2, hfz11_3, hfz11_4⟩ := z5 BK333.out) | ((with_reducible refine gate_callee (f := 17) rfl ?_); refine goesL_ (some 11) rfl rfl Tryd.func17 (by kernel_rfl) rfl #[.agg #[.int .i64 a0_0, .string a0_1, .string a0_2, .int .i64 a0_3, .int .i64 a0_4]] rfl (by (try simp only [List.map_toArray, List.map_cons, List.map_nil]); first | done | rfl | (simp only [List.length_drop, List.length_take]; rfl)) ?_; (with_reducible refine (impl_EditOk.calls k a0_0 a0_1 a0_2 a0_3 a0_4 true _ A2.out ?mg).mono ?_); (case mg => exact HG.out.on (pl1 HB.out GE333.out)); rintro e w12 ⟨rfl, hb⟩; refine ⟨_, rfl, ?_⟩; replace BK333 := Aside0.mk (pb BK333.out hb); replace HB := Aside0.mk (below_step (pl1 HB.out GE333.out) hb); (try clear hb); (try clear hb2); (try clear hk); (try clear hi); obtain ⟨hcz13_0, hcz13_1, hcz13_2, hcz13_3, hcz13_4, hfz13_0, hfz13_1, hfz13_2, hfz13_3, hfz13_4⟩ := z5 BK333.out) | ((with_reducible refine gate_callee (f := 30) rfl ?_); refine goesL_ (some 16) rfl rfl Tryd.func30 (by kernel_rfl) rfl #[.string a0_1] rfl (by (try simp only [List.map_toArray, List.map_cons, List.map_nil]); first | done | rfl | (simp only [List.length_drop, List.length_take]; rfl)) ?_; (with_reducible refine (impl_ShortText.calls k a0_1 t335 t336 _ A4.out).mono ?_); rintro e w14 ⟨rfl, hb⟩; refine ⟨_, rfl, ?_⟩; replace BK333 := Aside0.mk (pb BK333.out hb); replace HB := Aside0.mk (below_step (pl1 HB.out GE333.out) hb); (try clear hb); (try clear hb2); (try clear hk); (try clear hi); obtain ⟨hcz15_0, hcz15_1, hcz15_2, hcz15_3, hcz15_4, hfz15_0, hfz15_1, hfz15_2, hfz15_3, hfz15_4⟩ := z5 BK333.out) | ((with_reducible refine gate_callee (f := 30) rfl ?_); refine goesL_ (some 22) rfl rfl Tryd.func30 (by kernel_rfl) rfl #[.string a0_2] rfl (by (try simp only [List.map_toArray, List.map_cons, List.map_nil]); first | done | rfl | (simp only [List.length_drop, List.length_take]; rfl)) ?_; (with_reducible refine (impl_ShortText.calls k a0_2 t337 t338 _ A5.out).mono ?_); rintro e w16 ⟨rfl, hb⟩; refine ⟨_, rfl, ?_⟩; replace BK333 := Aside0.mk (pb BK333.out hb); replace HB := Aside0.mk (below_step (pl1 HB.out GE333.out) hb); (try clear hb); (try clear hb2); (try clear hk); (try clear hi); obtain ⟨hcz17_0, hcz17_1, hcz17_2, hcz17_3, hcz17_4, hfz17_0, hfz17_1, hfz17_2, hfz17_3, hfz17_4⟩ := z5 BK333.out) | ((with_reducible refine gate_callee (f := 31) rfl ?_); refine goesL_ (some 28) rfl rfl Tryd.func31 (by kernel_rfl) rfl #[.int .i64 a0_3] rfl (by (try simp only [List.map_toArray, List.map_cons, List.map_nil]); first | done | rfl | (simp only [List.length_drop, List.length_take]; rfl)) ?_; (with_reducible refine (impl_VarText.calls k a0_3 t339 t340 _ A6.out).mono ?_); rintro e w18 ⟨rfl, hb⟩; refine ⟨_, rfl, ?_⟩; replace BK333 := Aside0.mk (pb BK333.out hb); replace HB := Aside0.mk (below_step (pl1 HB.out GE333.out) hb); (try clear hb); (try clear hb2); (try clear hk); (try clear hi); obtain ⟨hcz19_0, hcz19_1, hcz19_2, hcz19_3, hcz19_4, hfz19_0, hfz19_1, hfz19_2, hfz19_3, hfz19_4⟩ := z5 BK333.out) | ((with_reducible refine gate_dst (N := 37) rfl ?_); refine Kd.R_lit (Kd.int .u8) _ 5 ?hg (N := 37) ?hd (xs := ([(a0_0) % 256, (a0_4) % 256] : List Int)) (inner := [.int .u8 ((a0_0) % 256), .int .u8 ((a0_4) % 256)]) (ok := fun _ => True) (okp := fun _ => True) ?hr ?hp (fun _ hk => hk) trivial (Below.refl _ _) (Nat.le_refl _) (by simp) ?_; (case hd => rfl); (case hg => rfl); (case hr => first | (go_simp; done) | (go_simp; rfl)); (case hp => exact (Reps.one (show Kd.M (Kd.int .u8) _ _ _ ((a0_0) % 256) [.int .u8 ((a0_0) % 256)] from rfl) (Reps.one (show Kd.M (Kd.int .u8) _ _ _ ((a0_4) % 256) [.int .u8 ((a0_4) % 256)] from rfl) (Reps.none _ _)))); intro v342 w20 ho21 hb hg_ hnew_; clear hg_ hnew_; (first | rw [← Ny341.out] at ho21 | (simp only [Int.reduceToNat] at ho21; rw [← Ny341.out] at ho21)); have n0_ := Aside0.mk (Kd.R_lower ho21 (below_size (pl1 HB.out GE333.out))); have n1_ := Aside0.mk (pb BK333.out hb); have n2_ := Aside0.mk (below_step (pl1 HB.out GE333.out) hb); clear BK333; clear HB; have HO343 := n0_; have BK333 := n1_; have HB := n2_; clear n0_ n1_ n2_; clear hb ho21; have hcv22 := own_string (P := Tryd.prog) Tryd.underlying22 Tryd.underlying5 Tryd.underlying9 (Kd.own_of_R HO343.out)))
      go_ret2
      exact ⟨erq, pl1 HB.out GE333.out⟩
     ·rw [if_neg c9] at H
      exact absurd H (by simp)
    ·rw [if_neg c8] at H
     exact absurd H (by simp)
   ·rw [if_neg c7] at H
    exact absurd H (by simp)
  ·replace c3 := Bool.eq_false_iff.mpr c3
   subst c3
   have H1 : (some ((⟨#[]⟩ : ByteArray), false)) = some (r1, r2) := by rw [if_neg (show ¬ (false = true) by decide)] at H; exact H
   clear H
   have H := H1
   clear H1
   simp only [Option.some.injEq, Prod.mk.injEq] at H
   obtain ⟨rfl, rfl⟩ := H
   go_enter Tryd.func14, Tryd.ntmps14
   go_wp2_with (first | ((with_reducible refine gate_dst (N := 1) rfl ?_); refine box_event ?hg (N := 1) ?hd (cs := #[.int .i64 a0_0, .string a0_1, .string a0_2, .int .i64 a0_3, .int .i64 a0_4]) (t := 34) ?hr ?_; (case hd => rfl); (case hg => rfl); (case hr => first | (go_simp; done) | (go_simp; rfl)); intro gb333 hg w23 hbox hb; have n0_ := Aside0.mk (below_step (pl0 HB.out) hb); have n1_ := Aside0.mk (hbox); have n2_ := Aside0.mk ((by rw [hg]; exact (below_size (pl0 HB.out)) : w.heap.size ≤ gb333)); have n3_ := Aside0.mk ((by rw [hg]; exact (below_size (pl0 HB.out)) : w.heap.size ≤ gb333)); clear HB; have HB := n0_; have BK333 := n1_; have GW333 := n2_; have GE333 := n3_; clear n0_ n1_ n2_ n3_; clear hb hbox hg; obtain ⟨hcz24_0, hcz24_1, hcz24_2, hcz24_3, hcz24_4, hfz24_0, hfz24_1, hfz24_2, hfz24_3, hfz24_4⟩ := z5 BK333.out) | ((with_reducible refine gate_callee (f := 17) rfl ?_); refine goesL_ (some 11) rfl rfl Tryd.func17 (by kernel_rfl) rfl #[.agg #[.int .i64 a0_0, .string a0_1, .string a0_2, .int .i64 a0_3, .int .i64 a0_4]] rfl (by (try simp only [List.map_toArray, List.map_cons, List.map_nil]); first | done | rfl | (simp only [List.length_drop, List.length_take]; rfl)) ?_; (with_reducible refine (impl_EditOk.calls k a0_0 a0_1 a0_2 a0_3 a0_4 false _ A2.out ?mg).mono ?_); (case mg => exact HG.out.on (pl1 HB.out GE333.out)); rintro e w25 ⟨rfl, hb⟩; refine ⟨_, rfl, ?_⟩; replace BK333 := Aside0.mk (pb BK333.out hb); replace HB := Aside0.mk (below_step (pl1 HB.out GE333.out) hb); (try clear hb); (try clear hb2); (try clear hk); (try clear hi)))
   go_ret2
   exact ⟨erq, pl1 HB.out GE333.out⟩
mutual
def impl_ReadVar.l0 : Nat → ByteArray → Int → Int → Int → Option (Int × Int × Bool)
  | 0, _, _, _, _ => none
  | k + 1, x0, x1, x7, x8 => if x8 < 5 then (impl_ReadVar.j1 k x0 x1 x7 x8 (decide ((wrap64 (x1 + x8)) < (x0.size : Int)))) else (impl_ReadVar.j1 k x0 x1 x7 x8 false)
def impl_ReadVar.j1 : Nat → ByteArray → Int → Int → Int → Bool → Option (Int × Int × Bool)
  | 0, _, _, _, _, _ => none
  | k + 1, x0, x1, x7, x8, x26 => if x26 = true then (if 0 ≤ (wrap64 (x1 + x8)) then (if (wrap64 (x1 + x8)) < (x0.size : Int) then (if 0 ≤ (wrap64 (7 * x8)) then (if (wrap64 (bt x0 (wrap64 (x1 + x8)))) < 128 then ((impl_VarText.f k (wrap64 (x7 + (shl .i64 (Int.tmod (wrap64 (bt x0 (wrap64 (x1 + x8)))) 128) (wrap64 (7 * x8)))))).bind fun bt345 => (if bt345.2 = true then (if (bt345.1.size : Int) = (wrap64 (x8 + 1)) then (some (wrap64 (x7 + (shl .i64 (Int.tmod (wrap64 (bt x0 (wrap64 (x1 + x8)))) 128) (wrap64 (7 * x8)))), wrap64 ((wrap64 (x1 + x8)) + 1), true)) else (some (0, 0, false))) else (some (0, 0, false)))) else (impl_ReadVar.l0 k x0 x1 (wrap64 (x7 + (shl .i64 (Int.tmod (wrap64 (bt x0 (wrap64 (x1 + x8)))) 128) (wrap64 (7 * x8))))) (wrap64 (x8 + 1)))) else (none)) else (none)) else (none)) else (some (0, 0, false))
end
def impl_ReadVar.f (k : Nat) (a0 : ByteArray) (a1 : Int) : Option (Int × Int × Bool) := (impl_within.f a1 0 (a0.size : Int)).bind fun t344 => (if t344 = true then (impl_ReadVar.l0 k a0 a1 0 0) else (some (0, 0, false)))
set_option maxHeartbeats 8000000 in
set_option maxRecDepth 100000 in
theorem impl_ReadVar.calls (k : Nat) (a0 : ByteArray) (a1 : Int) (r1 : Int) (r2 : Int) (r3 : Bool) (w : World) (h : impl_ReadVar.f k a0 a1 = some (r1, r2, r3)) :
    Calls Tryd.prog 33 #[.string a0, .int .i64 a1] w fun e w' => e = .returned (.tuple #[.int .i64 r1, .int .i64 r2, .bool r3]) ∧ Below w.heap.size w w' := by
  have HB := Aside0.mk (Below.refl w.heap.size w)
  have H : ((impl_within.f a1 0 (a0.size : Int)).bind fun t344 => (if t344 = true then (impl_ReadVar.l0 k a0 a1 0 0) else (some (0, 0, false)))) = some (r1, r2, r3) := h
  clear h
  replace H := Option.bind_eq_some_iff.mp H
  obtain ⟨t344, A30, H⟩ := H
  replace H : (if t344 = true then (impl_ReadVar.l0 k a0 a1 0 0) else (some (0, 0, false))) = some (r1, r2, r3) := H
  have A3 := Aside0.mk A30
  clear A30
  by_cases c4 : t344 = true
  ·subst c4
   have H1 : (impl_ReadVar.l0 k a0 a1 0 0) = some (r1, r2, r3) := by rw [if_pos rfl] at H; exact H
   clear H
   have H := H1
   clear H1
   have H' := Aside0.mk H
   clear H
   go_enter Tryd.func33, Tryd.ntmps33
   go_wp2_with (first | ((with_reducible refine gate_callee (f := 28) rfl ?_); refine goesL_ (some 15) rfl rfl Tryd.func28 (by kernel_rfl) rfl #[.int .i64 a1, .int .i64 0, .int .i64 (a0.size : Int)] rfl (by (try simp only [List.map_toArray, List.map_cons, List.map_nil]); first | done | rfl | (simp only [List.length_drop, List.length_take]; rfl)) ?_; (with_reducible refine (impl_within.calls a1 0 (a0.size : Int) true _ A3.out).mono ?_); rintro e w' ⟨rfl, ⟨nd, rfl⟩⟩; refine ⟨_, rfl, ?_⟩))
   go_loopg [7, 8] k (fun kq v7 v8 w' => ∃ (x7_1 : Int) (x8_1 : Int), v7 = .int .i64 x7_1 ∧ v8 = .int .i64 x8_1 ∧ Aside0 (impl_ReadVar.l0 kq a0 a1 x7_1 x8_1 = some (r1, r2, r3)) ∧ Aside0 (kq ≤ k) ∧ Aside0 (Below w.heap.size w w'))
   case atStart => exact ⟨(0), (0), eqa, eqa, H', ⟨Nat.le_refl _⟩, ⟨pl0 HB.out⟩⟩
   case round =>
    clear H'
    try clear c4
    obtain ⟨x7_1, x8_1, rfl, rfl, HA, HK1, HB⟩ := hrel
    cases gk with
    | zero => exact absurd HA.out (by simp [impl_ReadVar.l0])
    | succ k1 =>
     have H := HA.out
     clear HA
     simp only [impl_ReadVar.l0] at H
     have HC5 := Aside0.mk H
     clear H
     go_upto_region 5 with (fail)
     go_cut [26] (fun v26 wc => ∃ (kq : Nat) (x26_4 : Bool), v26 = .bool x26_4 ∧ Aside0 (impl_ReadVar.j1 kq a0 a1 x7_1 x8_1 x26_4 = some (r1, r2, r3)) ∧ Aside0 (kq ≤ k1) ∧ Aside0 (Below w.heap.size w wc))
     case first =>
      have H := HC5.out
      clear HC5
      by_cases c6 : x8_1 < 5
      ·rw [if_pos c6] at H
       have c6b0 : decide (x8_1 < 5) = true := decide_eq_true c6
       clear c6
       (first | rw [c6b0] | (simp only [i64_w, i32_w]; rw [c6b0]) | skip)
       have H' := Aside0.mk H
       clear H
       go_wp2
       go_meet
       case rel => exact ⟨_, (decide ((wrap64 (a1 + x8_1)) < (a0.size : Int))), eqa, H', ⟨by have := HK1.out; first | omega | exact Nat.le_refl _⟩, ⟨pl0 HB.out⟩⟩
      ·rw [if_neg c6] at H
       have c6b0 : decide (x8_1 < 5) = false := decide_eq_false c6
       clear c6
       (first | rw [c6b0] | (simp only [i64_w, i32_w]; rw [c6b0]) | skip)
       have H' := Aside0.mk H
       clear H
       go_wp2
       go_meet
       case rel => exact ⟨_, (false), eqa, H', ⟨by have := HK1.out; first | omega | exact Nat.le_refl _⟩, ⟨pl0 HB.out⟩⟩
     case rest =>
      clear HC5
      obtain ⟨kq, x26_4, rfl, HA, HJ4, HB⟩ := hcut
      cases kq with
      | zero => exact absurd HA.out (by simp [impl_ReadVar.j1])
      | succ kj4 =>
       have H := HA.out
       clear HA
       simp only [impl_ReadVar.j1] at H
       by_cases c7 : x26_4 = true
       ·subst c7
        have H1 : (if 0 ≤ (wrap64 (a1 + x8_1)) then (if (wrap64 (a1 + x8_1)) < (a0.size : Int) then (if 0 ≤ (wrap64 (7 * x8_1)) then (if (wrap64 (bt a0 (wrap64 (a1 + x8_1)))) < 128 then ((impl_VarText.f kj4 (wrap64 (x7_1 + (shl .i64 (Int.tmod (wrap64 (bt a0 (wrap64 (a1 + x8_1)))) 128) (wrap64 (7 * x8_1)))))).bind fun bt345 => (if bt345.2 = true then (if (bt345.1.size : Int) = (wrap64 (x8_1 + 1)) then (some (wrap64 (x7_1 + (shl .i64 (Int.tmod (wrap64 (bt a0 (wrap64 (a1 + x8_1)))) 128) (wrap64 (7 * x8_1)))), wrap64 ((wrap64 (a1 + x8_1)) + 1), true)) else (some (0, 0, false))) else (some (0, 0, false)))) else (impl_ReadVar.l0 kj4 a0 a1 (wrap64 (x7_1 + (shl .i64 (Int.tmod (wrap64 (bt a0 (wrap64 (a1 + x8_1)))) 128) (wrap64 (7 * x8_1))))) (wrap64 (x8_1 + 1)))) else (none)) else (none)) else (none)) = some (r1, r2, r3) := by rw [if_pos rfl] at H; exact H
        clear H
        have H := H1
        clear H1
        obtain ⟨ji8, hji8⟩ : ∃ j_ : Int, (wrap64 (a1 + x8_1)) = j_ := ⟨_, rfl⟩
        replace H : (if 0 ≤ (ji8) then (if (ji8) < (a0.size : Int) then (if 0 ≤ (wrap64 (7 * x8_1)) then (if (wrap64 (bt a0 (ji8))) < 128 then ((impl_VarText.f kj4 (wrap64 (x7_1 + (shl .i64 (Int.tmod (wrap64 (bt a0 (ji8))) 128) (wrap64 (7 * x8_1)))))).bind fun bt345 => (if bt345.2 = true then (if (bt345.1.size : Int) = (wrap64 (x8_1 + 1)) then (some (wrap64 (x7_1 + (shl .i64 (Int.tmod (wrap64 (bt a0 (ji8))) 128) (wrap64 (7 * x8_1)))), wrap64 ((ji8) + 1), true)) else (some (0, 0, false))) else (some (0, 0, false)))) else (impl_ReadVar.l0 kj4 a0 a1 (wrap64 (x7_1 + (shl .i64 (Int.tmod (wrap64 (bt a0 (ji8))) 128) (wrap64 (7 * x8_1))))) (wrap64 (x8_1 + 1)))) else (none)) else (none)) else (none)) = some (r1, r2, r3) := by first | (rw [hji8] at H; exact H) | (simp only [hji8] at H ⊢; exact H)
        have hji8w : (IntKind.i64.wrap (a1 + x8_1)) = ji8 := (i64_w _).trans hji8
        by_cases c9 : 0 ≤ (ji8)
        ·rw [if_pos c9] at H
         have c9b0 : decide (0 ≤ (ji8)) = true := decide_eq_true c9
         clear c9
         by_cases c10 : (ji8) < (a0.size : Int)
         ·rw [if_pos c10] at H
          have c10b0 : decide ((ji8) < (a0.size : Int)) = true := decide_eq_true c10
          clear c10
          obtain ⟨ji12, hji12⟩ : ∃ j_ : Int, (wrap64 (7 * x8_1)) = j_ := ⟨_, rfl⟩
          replace H : (if 0 ≤ (ji12) then (if (wrap64 (bt a0 (ji8))) < 128 then ((impl_VarText.f kj4 (wrap64 (x7_1 + (shl .i64 (Int.tmod (wrap64 (bt a0 (ji8))) 128) (ji12))))).bind fun bt345 => (if bt345.2 = true then (if (bt345.1.size : Int) = (wrap64 (x8_1 + 1)) then (some (wrap64 (x7_1 + (shl .i64 (Int.tmod (wrap64 (bt a0 (ji8))) 128) (ji12))), wrap64 ((ji8) + 1), true)) else (some (0, 0, false))) else (some (0, 0, false)))) else (impl_ReadVar.l0 kj4 a0 a1 (wrap64 (x7_1 + (shl .i64 (Int.tmod (wrap64 (bt a0 (ji8))) 128) (ji12)))) (wrap64 (x8_1 + 1)))) else (none)) = some (r1, r2, r3) := by first | (rw [hji12] at H; exact H) | (simp only [hji12] at H ⊢; exact H)
          have hji12w : (IntKind.i64.wrap (7 * x8_1)) = ji12 := (i64_w _).trans hji12
          by_cases c13 : 0 ≤ (ji12)
          ·rw [if_pos c13] at H
           have c13b0 := eq_true c13
           have c13b1 : decide (0 ≤ (ji12)) = true := decide_eq_true c13
           clear c13
           obtain ⟨ji14, hji14⟩ : ∃ j_ : Int, (shl .i64 (Int.tmod (wrap64 (bt a0 (ji8))) 128) (ji12)) = j_ := ⟨_, rfl⟩
           replace H : (if (wrap64 (bt a0 (ji8))) < 128 then ((impl_VarText.f kj4 (wrap64 (x7_1 + (ji14)))).bind fun bt345 => (if bt345.2 = true then (if (bt345.1.size : Int) = (wrap64 (x8_1 + 1)) then (some (wrap64 (x7_1 + (ji14)), wrap64 ((ji8) + 1), true)) else (some (0, 0, false))) else (some (0, 0, false)))) else (impl_ReadVar.l0 kj4 a0 a1 (wrap64 (x7_1 + (ji14))) (wrap64 (x8_1 + 1)))) = some (r1, r2, r3) := by first | (rw [hji14] at H; exact H) | (simp only [hji14] at H ⊢; exact H)
           have hji14_ : (IntKind.i64.wrap ((Int.tmod (wrap64 (bt a0 (ji8))) 128) * 2 ^ min (ji12).toNat 64)) = ji14 := hji14
           have hji14z : (ji12) ≤ 64 → (IntKind.i64.wrap ((Int.tmod (wrap64 (bt a0 (ji8))) 128) * 2 ^ (ji12).toNat)) = ji14 := shl_small hji14
           have hji14y : (wrap64 ((Int.tmod (wrap64 (bt a0 (ji8))) 128) * 2 ^ min (ji12).toNat 64)) = ji14 := (i64_w _).symm.trans hji14_
           have hji14x : (ji12) ≤ 64 → (wrap64 ((Int.tmod (wrap64 (bt a0 (ji8))) 128) * 2 ^ (ji12).toNat)) = ji14 := fun h_ => (i64_w _).symm.trans (hji14z h_)
           by_cases c15 : (wrap64 (bt a0 (ji8))) < 128
           ·rw [if_pos c15] at H
            have c15b0 : decide ((wrap64 (bt a0 (ji8))) < 128) = true := decide_eq_true c15
            clear c15
            replace H := Option.bind_eq_some_iff.mp H
            obtain ⟨⟨t345, t346⟩, A160, H⟩ := H
            replace H : (if t346 = true then (if (t345.size : Int) = (wrap64 (x8_1 + 1)) then (some (wrap64 (x7_1 + (ji14)), wrap64 ((ji8) + 1), true)) else (some (0, 0, false))) else (some (0, 0, false))) = some (r1, r2, r3) := H
            have A16 := Aside0.mk A160
            clear A160
            by_cases c17 : t346 = true
            ·subst c17
             have H1 : (if (t345.size : Int) = (wrap64 (x8_1 + 1)) then (some (wrap64 (x7_1 + (ji14)), wrap64 ((ji8) + 1), true)) else (some (0, 0, false))) = some (r1, r2, r3) := by rw [if_pos rfl] at H; exact H
             clear H
             have H := H1
             clear H1
             by_cases c18 : (t345.size : Int) = (wrap64 (x8_1 + 1))
             ·rw [if_pos c18] at H
              have c18b0 : ((t345.size : Int) == (wrap64 (x8_1 + 1))) = true := beq_iff_eq.mpr c18
              have c18b1 : ((t345.size : Int) != (wrap64 (x8_1 + 1))) = false := bne_eq_false_iff_eq.mpr c18
              clear c18
              simp only [Option.some.injEq, Prod.mk.injEq] at H
              obtain ⟨rfl, rfl, rfl⟩ := H
              have p11 : 0 ≤ ((ji8) : Int) := oda
              have q11 : (ji8) < (a0.size : Int) := oda
              have hx11 := bt_at a0 (ji8)
              replace p11 := eq_true p11
              replace q11 := eq_true q11
              go_wp2_with (first | ((with_reducible refine gate_callee (f := 31) rfl ?_); refine goesL_ (some 46) rfl rfl Tryd.func31 (by kernel_rfl) rfl #[.int .i64 (wrap64 (x7_1 + (ji14)))] rfl (by (try simp only [List.map_toArray, List.map_cons, List.map_nil]); first | done | (simp only [hji14]; rfl) | rfl | (simp only [List.length_drop, List.length_take]; rfl)) ?_; (with_reducible refine (impl_VarText.calls kj4 (wrap64 (x7_1 + (ji14))) t345 true _ A16.out).mono ?_); rintro e w19 ⟨rfl, hb⟩; refine ⟨_, rfl, ?_⟩; replace HB := Aside0.mk (below_step (pl0 HB.out) hb); (try clear hb); (try clear hb2); (try clear hk); (try clear hi)))
              go_ret3
              exact ⟨by first | rfl | (simp [errW_none, errW_some] <;> rfl) | (simp only [← hji8, ← hji12, ← hji14]; first | rfl | (simp [errW_none, errW_some] <;> rfl)) | (simp [*, errW_none, errW_some] <;> rfl), pl0 HB.out⟩
             ·rw [if_neg c18] at H
              have c18b0 : ((t345.size : Int) == (wrap64 (x8_1 + 1))) = false := beq_eq_false_iff_ne.mpr c18
              have c18b1 : ((t345.size : Int) != (wrap64 (x8_1 + 1))) = true := bne_iff_ne.mpr c18
              simp only [Option.some.injEq, Prod.mk.injEq] at H
              obtain ⟨rfl, rfl, rfl⟩ := H
              have p11 : 0 ≤ ((ji8) : Int) := oda
              have q11 : (ji8) < (a0.size : Int) := oda
              have hx11 := bt_at a0 (ji8)
              replace p11 := eq_true p11
              replace q11 := eq_true q11
              go_wp2_with (first | ((with_reducible refine gate_callee (f := 31) rfl ?_); refine goesL_ (some 46) rfl rfl Tryd.func31 (by kernel_rfl) rfl #[.int .i64 (wrap64 (x7_1 + (ji14)))] rfl (by (try simp only [List.map_toArray, List.map_cons, List.map_nil]); first | done | (simp only [hji14]; rfl) | rfl | (simp only [List.length_drop, List.length_take]; rfl)) ?_; (with_reducible refine (impl_VarText.calls kj4 (wrap64 (x7_1 + (ji14))) t345 true _ A16.out).mono ?_); rintro e w20 ⟨rfl, hb⟩; refine ⟨_, rfl, ?_⟩; replace HB := Aside0.mk (below_step (pl0 HB.out) hb); (try clear hb); (try clear hb2); (try clear hk); (try clear hi)))
              go_ret3
              exact ⟨by first | rfl | (simp [errW_none, errW_some] <;> rfl) | (simp only [← hji8, ← hji12, ← hji14]; first | rfl | (simp [errW_none, errW_some] <;> rfl)) | (simp [*, errW_none, errW_some] <;> rfl), pl0 HB.out⟩
            ·replace c17 := Bool.eq_false_iff.mpr c17
             subst c17
             have H1 : (some (0, 0, false)) = some (r1, r2, r3) := by rw [if_neg (show ¬ (false = true) by decide)] at H; exact H
             clear H
             have H := H1
             clear H1
             simp only [Option.some.injEq, Prod.mk.injEq] at H
             obtain ⟨rfl, rfl, rfl⟩ := H
             have p11 : 0 ≤ ((ji8) : Int) := oda
             have q11 : (ji8) < (a0.size : Int) := oda
             have hx11 := bt_at a0 (ji8)
             replace p11 := eq_true p11
             replace q11 := eq_true q11
             go_wp2_with (first | ((with_reducible refine gate_callee (f := 31) rfl ?_); refine goesL_ (some 46) rfl rfl Tryd.func31 (by kernel_rfl) rfl #[.int .i64 (wrap64 (x7_1 + (ji14)))] rfl (by (try simp only [List.map_toArray, List.map_cons, List.map_nil]); first | done | (simp only [hji14]; rfl) | rfl | (simp only [List.length_drop, List.length_take]; rfl)) ?_; (with_reducible refine (impl_VarText.calls kj4 (wrap64 (x7_1 + (ji14))) t345 false _ A16.out).mono ?_); rintro e w21 ⟨rfl, hb⟩; refine ⟨_, rfl, ?_⟩; replace HB := Aside0.mk (below_step (pl0 HB.out) hb); (try clear hb); (try clear hb2); (try clear hk); (try clear hi)))
             go_ret3
             exact ⟨by first | rfl | (simp [errW_none, errW_some] <;> rfl) | (simp only [← hji8, ← hji12, ← hji14]; first | rfl | (simp [errW_none, errW_some] <;> rfl)) | (simp [*, errW_none, errW_some] <;> rfl), pl0 HB.out⟩
           ·rw [if_neg c15] at H
            have c15b0 : decide ((wrap64 (bt a0 (ji8))) < 128) = false := decide_eq_false c15
            clear c15
            have H' := Aside0.mk H
            clear H
            have p11 : 0 ≤ ((ji8) : Int) := oda
            have q11 : (ji8) < (a0.size : Int) := oda
            have hx11 := bt_at a0 (ji8)
            replace p11 := eq_true p11
            replace q11 := eq_true q11
            go_wp2
            go_roundg kj4
            case measure => have := HK1.out; have := HJ4.out; omega
            case rel => exact ⟨(wrap64 (x7_1 + (ji14))), (wrap64 (x8_1 + 1)), (by first | rfl | (simp; done) | (simp only [← hji14] <;> (first | rfl | simp)) | (simp [*]; done)), eqa, H', ⟨by have := HK1.out; have := HJ4.out; omega⟩, ⟨pl0 HB.out⟩⟩
          ·rw [if_neg c13] at H
           exact absurd H (by simp)
         ·rw [if_neg c10] at H
          exact absurd H (by simp)
        ·rw [if_neg c9] at H
         exact absurd H (by simp)
       ·replace c7 := Bool.eq_false_iff.mpr c7
        subst c7
        have H1 : (some (0, 0, false)) = some (r1, r2, r3) := by rw [if_neg (show ¬ (false = true) by decide)] at H; exact H
        clear H
        have H := H1
        clear H1
        simp only [Option.some.injEq, Prod.mk.injEq] at H
        obtain ⟨rfl, rfl, rfl⟩ := H
        go_wp2
        go_ret3
        exact ⟨erq, pl0 HB.out⟩
  ·replace c4 := Bool.eq_false_iff.mpr c4
   subst c4
   have H1 : (some (0, 0, false)) = some (r1, r2, r3) := by rw [if_neg (show ¬ (false = true) by decide)] at H; exact H
   clear H
   have H := H1
   clear H1
   simp only [Option.some.injEq, Prod.mk.injEq] at H
   obtain ⟨rfl, rfl, rfl⟩ := H
   go_enter Tryd.func33, Tryd.ntmps33
   go_wp2_with (first | ((with_reducible refine gate_callee (f := 28) rfl ?_); refine goesL_ (some 15) rfl rfl Tryd.func28 (by kernel_rfl) rfl #[.int .i64 a1, .int .i64 0, .int .i64 (a0.size : Int)] rfl (by (try simp only [List.map_toArray, List.map_cons, List.map_nil]); first | done | rfl | (simp only [List.length_drop, List.length_take]; rfl)) ?_; (with_reducible refine (impl_within.calls a1 0 (a0.size : Int) false _ A3.out).mono ?_); rintro e w' ⟨rfl, ⟨nd, rfl⟩⟩; refine ⟨_, rfl, ?_⟩))
   go_ret3
   exact ⟨erq, pl0 HB.out⟩
def impl_ReadShort.f (k : Nat) (a0 : ByteArray) (a1 : Int) : Option (ByteArray × Int × Bool) := (impl_ReadVar.f k a0 a1).bind fun bt347 => (if bt347.2.2 = true then (if bt347.1 > 20000 then (some ((⟨#[]⟩ : ByteArray), 0, false)) else (if bt347.1 > (wrap64 ((a0.size : Int) - bt347.2.1)) then (some ((⟨#[]⟩ : ByteArray), 0, false)) else (if 0 ≤ bt347.2.1 then (if bt347.2.1 ≤ (wrap64 (bt347.2.1 + bt347.1)) then (if (wrap64 (bt347.2.1 + bt347.1)) ≤ (a0.size : Int) then (some (a0.extract (bt347.2.1 : Int).toNat ((wrap64 (bt347.2.1 + bt347.1)) : Int).toNat, wrap64 (bt347.2.1 + bt347.1), true)) else (none)) else (none)) else (none)))) else (some ((⟨#[]⟩ : ByteArray), 0, false)))
set_option maxHeartbeats 8000000 in
set_option maxRecDepth 100000 in
theorem impl_ReadShort.calls (k : Nat) (a0 : ByteArray) (a1 : Int) (r1 : ByteArray) (r2 : Int) (r3 : Bool) (w : World) (h : impl_ReadShort.f k a0 a1 = some (r1, r2, r3)) :
    Calls Tryd.prog 32 #[.string a0, .int .i64 a1] w fun e w' => e = .returned (.tuple #[.string r1, .int .i64 r2, .bool r3]) ∧ Below w.heap.size w w' := by
  have HB := Aside0.mk (Below.refl w.heap.size w)
  have H : ((impl_ReadVar.f k a0 a1).bind fun bt347 => (if bt347.2.2 = true then (if bt347.1 > 20000 then (some ((⟨#[]⟩ : ByteArray), 0, false)) else (if bt347.1 > (wrap64 ((a0.size : Int) - bt347.2.1)) then (some ((⟨#[]⟩ : ByteArray), 0, false)) else (if 0 ≤ bt347.2.1 then (if bt347.2.1 ≤ (wrap64 (bt347.2.1 + bt347.1)) then (if (wrap64 (bt347.2.1 + bt347.1)) ≤ (a0.size : Int) then (some (a0.extract (bt347.2.1 : Int).toNat ((wrap64 (bt347.2.1 + bt347.1)) : Int).toNat, wrap64 (bt347.2.1 + bt347.1), true)) else (none)) else (none)) else (none)))) else (some ((⟨#[]⟩ : ByteArray), 0, false)))) = some (r1, r2, r3) := h
  clear h
  replace H := Option.bind_eq_some_iff.mp H
  obtain ⟨⟨t347, t348, t349⟩, A30, H⟩ := H
  replace H : (if t349 = true then (if t347 > 20000 then (some ((⟨#[]⟩ : ByteArray), 0, false)) else (if t347 > (wrap64 ((a0.size : Int) - t348)) then (some ((⟨#[]⟩ : ByteArray), 0, false)) else (if 0 ≤ t348 then (if t348 ≤ (wrap64 (t348 + t347)) then (if (wrap64 (t348 + t347)) ≤ (a0.size : Int) then (some (a0.extract (t348 : Int).toNat ((wrap64 (t348 + t347)) : Int).toNat, wrap64 (t348 + t347), true)) else (none)) else (none)) else (none)))) else (some ((⟨#[]⟩ : ByteArray), 0, false))) = some (r1, r2, r3) := H
  have A3 := Aside0.mk A30
  clear A30
  by_cases c4 : t349 = true
  ·subst c4
   have H1 : (if t347 > 20000 then (some ((⟨#[]⟩ : ByteArray), 0, false)) else (if t347 > (wrap64 ((a0.size : Int) - t348)) then (some ((⟨#[]⟩ : ByteArray), 0, false)) else (if 0 ≤ t348 then (if t348 ≤ (wrap64 (t348 + t347)) then (if (wrap64 (t348 + t347)) ≤ (a0.size : Int) then (some (a0.extract (t348 : Int).toNat ((wrap64 (t348 + t347)) : Int).toNat, wrap64 (t348 + t347), true)) else (none)) else (none)) else (none)))) = some (r1, r2, r3) := by rw [if_pos rfl] at H; exact H
   clear H
   have H := H1
   clear H1
   by_cases c5 : t347 > 20000
   ·rw [if_pos c5] at H
    have c5b0 : decide (20000 < t347) = true := decide_eq_true c5
    clear c5
    simp only [Option.some.injEq, Prod.mk.injEq] at H
    obtain ⟨rfl, rfl, rfl⟩ := H
    go_enter Tryd.func32, Tryd.ntmps32
    go_wp2_with (first | ((with_reducible refine gate_callee (f := 33) rfl ?_); refine goesL_ (some 13) rfl rfl Tryd.func33 (by kernel_rfl) rfl #[.string a0, .int .i64 a1] rfl (by (try simp only [List.map_toArray, List.map_cons, List.map_nil]); first | done | rfl | (simp only [List.length_drop, List.length_take]; rfl)) ?_; (with_reducible refine (impl_ReadVar.calls k a0 a1 t347 t348 true _ A3.out).mono ?_); rintro e w6 ⟨rfl, hb⟩; refine ⟨_, rfl, ?_⟩; replace HB := Aside0.mk (below_step (pl0 HB.out) hb); (try clear hb); (try clear hb2); (try clear hk); (try clear hi)))
    go_ret3
    exact ⟨erq, pl0 HB.out⟩
   ·rw [if_neg c5] at H
    have c5b0 : decide (20000 < t347) = false := decide_eq_false c5
    clear c5
    by_cases c7 : t347 > (wrap64 ((a0.size : Int) - t348))
    ·rw [if_pos c7] at H
     have c7b0 : decide ((wrap64 ((a0.size : Int) - t348)) < t347) = true := decide_eq_true c7
     clear c7
     simp only [Option.some.injEq, Prod.mk.injEq] at H
     obtain ⟨rfl, rfl, rfl⟩ := H
     go_enter Tryd.func32, Tryd.ntmps32
     go_wp2_with (first | ((with_reducible refine gate_callee (f := 33) rfl ?_); refine goesL_ (some 13) rfl rfl Tryd.func33 (by kernel_rfl) rfl #[.string a0, .int .i64 a1] rfl (by (try simp only [List.map_toArray, List.map_cons, List.map_nil]); first | done | rfl | (simp only [List.length_drop, List.length_take]; rfl)) ?_; (with_reducible refine (impl_ReadVar.calls k a0 a1 t347 t348 true _ A3.out).mono ?_); rintro e w8 ⟨rfl, hb⟩; refine ⟨_, rfl, ?_⟩; replace HB := Aside0.mk (below_step (pl0 HB.out) hb); (try clear hb); (try clear hb2); (try clear hk); (try clear hi)))
     go_ret3
     exact ⟨erq, pl0 HB.out⟩
    ·rw [if_neg c7] at H
     have c7b0 : decide ((wrap64 ((a0.size : Int) - t348)) < t347) = false := decide_eq_false c7
     clear c7
     by_cases c9 : 0 ≤ t348
     ·rw [if_pos c9] at H
      have c9b0 := eq_true c9
      have c9b1 : decide (0 ≤ t348) = true := decide_eq_true c9
      clear c9
      by_cases c10 : t348 ≤ (wrap64 (t348 + t347))
      ·rw [if_pos c10] at H
       have c10b0 := eq_true c10
       have c10b1 : decide (t348 ≤ (wrap64 (t348 + t347))) = true := decide_eq_true c10
       by_cases c11 : (wrap64 (t348 + t347)) ≤ (a0.size : Int)
       ·rw [if_pos c11] at H
        have c11b0 := eq_true c11
        have c11b1 : decide ((wrap64 (t348 + t347)) ≤ (a0.size : Int)) = true := decide_eq_true c11
        simp only [Option.some.injEq, Prod.mk.injEq] at H
        obtain ⟨rfl, rfl, rfl⟩ := H
        go_enter Tryd.func32, Tryd.ntmps32
        go_wp2_with (first | ((with_reducible refine gate_callee (f := 33) rfl ?_); refine goesL_ (some 13) rfl rfl Tryd.func33 (by kernel_rfl) rfl #[.string a0, .int .i64 a1] rfl (by (try simp only [List.map_toArray, List.map_cons, List.map_nil]); first | done | rfl | (simp only [List.length_drop, List.length_take]; rfl)) ?_; (with_reducible refine (impl_ReadVar.calls k a0 a1 t347 t348 true _ A3.out).mono ?_); rintro e w12 ⟨rfl, hb⟩; refine ⟨_, rfl, ?_⟩; replace HB := Aside0.mk (below_step (pl0 HB.out) hb); (try clear hb); (try clear hb2); (try clear hk); (try clear hi)))
        go_ret3
        exact ⟨erq, pl0 HB.out⟩
       ·rw [if_neg c11] at H
        exact absurd H (by simp)
      ·rw [if_neg c10] at H
       exact absurd H (by simp)
     ·rw [if_neg c9] at H
      exact absurd H (by simp)
  ·replace c4 := Bool.eq_false_iff.mpr c4
   subst c4
   have H1 : (some ((⟨#[]⟩ : ByteArray), 0, false)) = some (r1, r2, r3) := by rw [if_neg (show ¬ (false = true) by decide)] at H; exact H
   clear H
   have H := H1
   clear H1
   simp only [Option.some.injEq, Prod.mk.injEq] at H
   obtain ⟨rfl, rfl, rfl⟩ := H
   go_enter Tryd.func32, Tryd.ntmps32
   go_wp2_with (first | ((with_reducible refine gate_callee (f := 33) rfl ?_); refine goesL_ (some 13) rfl rfl Tryd.func33 (by kernel_rfl) rfl #[.string a0, .int .i64 a1] rfl (by (try simp only [List.map_toArray, List.map_cons, List.map_nil]); first | done | rfl | (simp only [List.length_drop, List.length_take]; rfl)) ?_; (with_reducible refine (impl_ReadVar.calls k a0 a1 t347 t348 false _ A3.out).mono ?_); rintro e w13 ⟨rfl, hb⟩; refine ⟨_, rfl, ?_⟩; replace HB := Aside0.mk (below_step (pl0 HB.out) hb); (try clear hb); (try clear hb2); (try clear hk); (try clear hi)))
   go_ret3
   exact ⟨erq, pl0 HB.out⟩
end Go.Proofs.YtmgdekfajjdcdaaDoor.QPB
