/- Walks, as the kit's print writes them, run with stubs of my own and mended: PB. -/
import Derived.Test.YtmgdekfajjdcdaaDoorQPB0
import Derived.Test.YtmgdekfajjdcdaaDoorQPB3
import Derived.Test.YtmgdekfajjdcdaaDoorQPB6
import Derived.Test.YtmgdekfajjdcdaaDoorQPA0
import Derived.Test.YtmgdekfajjdcdaaDoorQPA1
import Derived.Test.YtmgdekfajjdcdaaDoorZrPB
namespace Go.Proofs.YtmgdekfajjdcdaaDoor.QPB
open Go.Proofs.YtmgdekfajjdcdaaDoorW.Zip.RPB
open Go.Proofs.YtmgdekfajjdcdaaDoor.QPA
open Go.Proofs.YtmgdekfajjdcdaaDoorW Go.Proofs.YtmgdekfajjdcdaaDoorW.Zip
open Go.RowKit Go.Proofs.YtmgdekfajjdcdaaDoorW.PrintWords Go.Proofs.YtmgdekfajjdcdaaDoorW.PrintLast Go.Proofs.YtmgdekfajjdcdaaDoorW.PrintMore
attribute [local go_sem] max2_int min2_int max_two min_two max_three min_three max_four min_four   -- for this text's walks alone
set_option linter.unusedVariables false
set_option linter.unusedSimpArgs false
def spec_EditText.f (k : Nat) (a0_0 : Int) (a0_1 : ByteArray) (a0_2 : ByteArray) (a0_3 : Int) (a0_4 : Int) : Option (ByteArray × Bool) := (spec_EditOk.f k a0_0 a0_1 a0_2 a0_3 a0_4).bind fun t395 => (if t395 = true then ((some (([(a0_0) % 256, (a0_4) % 256] : List Int) : List Int)).bind fun y396 => ((spec_l01Var.f k (a0_1.size : Int)).bind fun t399 => (if (strOfNums y396).size + t399.size ≤ 9223372036854775807 then (if ((strOfNums y396) ++ t399).size + a0_1.size ≤ 9223372036854775807 then ((spec_l01Var.f k (a0_2.size : Int)).bind fun t400 => (if (((strOfNums y396) ++ t399) ++ a0_1).size + t400.size ≤ 9223372036854775807 then (if ((((strOfNums y396) ++ t399) ++ a0_1) ++ t400).size + a0_2.size ≤ 9223372036854775807 then ((spec_l01Var.f k a0_3).bind fun t401 => (if (((((strOfNums y396) ++ t399) ++ a0_1) ++ t400) ++ a0_2).size + t401.size ≤ 9223372036854775807 then (some ((((((strOfNums y396) ++ t399) ++ a0_1) ++ t400) ++ a0_2) ++ t401, true)) else (none))) else (none)) else (none))) else (none)) else (none)))) else (some ((⟨#[]⟩ : ByteArray), false)))
def spec_EditText.T3 : Bool × List (List Nat × List Nat) := (true, [([], []), ([0], [0]), ([1], [1]), ([], []), ([3], [3]), ([4], [4]), ([2, 5], [2, 5]), ([6], [6]), ([], []), ([8], [8]), ([9], [9]), ([10], [10]), ([7, 11], [7, 11]), ([], []), ([13], [13]), ([12, 14], [12, 14]), ([], []), ([16], [16]), ([17], [17]), ([18, 11], [18]), ([15, 19], [15, 19]), ([], []), ([21], [21]), ([20, 22], [20, 22]), ([], []), ([24], [24]), ([25, 19], [25]), ([23, 26], [23, 26]), ([27, 26, 0, 1, 2, 3, 4, 5, 6, 7, 8, 9, 10, 11, 12, 13, 14, 15, 16, 17, 18, 19, 20, 21, 22, 23, 24, 25, 26, 27], [27]), ([28, 0, 1, 2, 3, 4, 5, 6, 7, 8, 9, 10, 11, 12, 13, 14, 15, 16, 17, 18, 19, 20, 21, 22, 23, 24, 25, 26, 27, 28], [])])
def spec_EditText.B3 : List Nat := [0, 1, 3, 0, 8, 24, 63, 127, 0, 256, 768, 1792, 4095, 0, 8192, 32767, 0, 65536, 196608, 462592, 1048575, 0, 2097152, 8388607, 0, 16777216, 51318528, 134217727, 268435455, 536870911]
theorem spec_EditText.tab3 : rtab .any (opsOf Tryd.f37 3) = spec_EditText.T3 := by kernel_rfl
theorem spec_EditText.bits3 : waitsOk spec_EditText.T3.2 spec_EditText.B3 = true := by kernel_rfl
set_option maxHeartbeats 8000000 in
set_option maxRecDepth 100000 in
theorem spec_EditText.calls (k : Nat) (a0_0 : Int) (a0_1 : ByteArray) (a0_2 : ByteArray) (a0_3 : Int) (a0_4 : Int) (r1 : ByteArray) (r2 : Bool) (w : World) (h : spec_EditText.f k a0_0 a0_1 a0_2 a0_3 a0_4 = some (r1, r2)) :
    Calls Tryd.prog 37 #[.agg #[.int .i64 a0_0, .string a0_1, .string a0_2, .int .i64 a0_3, .int .i64 a0_4]] w fun e w' => e = .returned (.tuple #[.string r1, .bool r2]) ∧ Below w.heap.size w w' := by
  have hu34 := Tryd.underlying34
  have HB := Aside0.mk (Below.refl w.heap.size w)
  have H : ((spec_EditOk.f k a0_0 a0_1 a0_2 a0_3 a0_4).bind fun t395 => (if t395 = true then ((some (([(a0_0) % 256, (a0_4) % 256] : List Int) : List Int)).bind fun y396 => ((spec_l01Var.f k (a0_1.size : Int)).bind fun t399 => (if (strOfNums y396).size + t399.size ≤ 9223372036854775807 then (if ((strOfNums y396) ++ t399).size + a0_1.size ≤ 9223372036854775807 then ((spec_l01Var.f k (a0_2.size : Int)).bind fun t400 => (if (((strOfNums y396) ++ t399) ++ a0_1).size + t400.size ≤ 9223372036854775807 then (if ((((strOfNums y396) ++ t399) ++ a0_1) ++ t400).size + a0_2.size ≤ 9223372036854775807 then ((spec_l01Var.f k a0_3).bind fun t401 => (if (((((strOfNums y396) ++ t399) ++ a0_1) ++ t400) ++ a0_2).size + t401.size ≤ 9223372036854775807 then (some ((((((strOfNums y396) ++ t399) ++ a0_1) ++ t400) ++ a0_2) ++ t401, true)) else (none))) else (none)) else (none))) else (none)) else (none)))) else (some ((⟨#[]⟩ : ByteArray), false)))) = some (r1, r2) := h
  clear h
  replace H := Option.bind_eq_some_iff.mp H
  obtain ⟨t395, A20, H⟩ := H
  replace H : (if t395 = true then ((some (([(a0_0) % 256, (a0_4) % 256] : List Int) : List Int)).bind fun y396 => ((spec_l01Var.f k (a0_1.size : Int)).bind fun t399 => (if (strOfNums y396).size + t399.size ≤ 9223372036854775807 then (if ((strOfNums y396) ++ t399).size + a0_1.size ≤ 9223372036854775807 then ((spec_l01Var.f k (a0_2.size : Int)).bind fun t400 => (if (((strOfNums y396) ++ t399) ++ a0_1).size + t400.size ≤ 9223372036854775807 then (if ((((strOfNums y396) ++ t399) ++ a0_1) ++ t400).size + a0_2.size ≤ 9223372036854775807 then ((spec_l01Var.f k a0_3).bind fun t401 => (if (((((strOfNums y396) ++ t399) ++ a0_1) ++ t400) ++ a0_2).size + t401.size ≤ 9223372036854775807 then (some ((((((strOfNums y396) ++ t399) ++ a0_1) ++ t400) ++ a0_2) ++ t401, true)) else (none))) else (none)) else (none))) else (none)) else (none)))) else (some ((⟨#[]⟩ : ByteArray), false))) = some (r1, r2) := H
  have A2 := Aside0.mk A20
  clear A20
  by_cases c3 : t395 = true
  ·subst c3
   have H1 : ((some (([(a0_0) % 256, (a0_4) % 256] : List Int) : List Int)).bind fun y396 => ((spec_l01Var.f k (a0_1.size : Int)).bind fun t399 => (if (strOfNums y396).size + t399.size ≤ 9223372036854775807 then (if ((strOfNums y396) ++ t399).size + a0_1.size ≤ 9223372036854775807 then ((spec_l01Var.f k (a0_2.size : Int)).bind fun t400 => (if (((strOfNums y396) ++ t399) ++ a0_1).size + t400.size ≤ 9223372036854775807 then (if ((((strOfNums y396) ++ t399) ++ a0_1) ++ t400).size + a0_2.size ≤ 9223372036854775807 then ((spec_l01Var.f k a0_3).bind fun t401 => (if (((((strOfNums y396) ++ t399) ++ a0_1) ++ t400) ++ a0_2).size + t401.size ≤ 9223372036854775807 then (some ((((((strOfNums y396) ++ t399) ++ a0_1) ++ t400) ++ a0_2) ++ t401, true)) else (none))) else (none)) else (none))) else (none)) else (none)))) = some (r1, r2) := by rw [if_pos rfl] at H; exact H
   clear H
   have H := H1
   clear H1
   obtain ⟨y396, hy396⟩ : ∃ y_ : List Int, y_ = (([(a0_0) % 256, (a0_4) % 256] : List Int)) := ⟨_, rfl⟩
   replace H : ((spec_l01Var.f k (a0_1.size : Int)).bind fun t399 => (if (strOfNums y396).size + t399.size ≤ 9223372036854775807 then (if ((strOfNums y396) ++ t399).size + a0_1.size ≤ 9223372036854775807 then ((spec_l01Var.f k (a0_2.size : Int)).bind fun t400 => (if (((strOfNums y396) ++ t399) ++ a0_1).size + t400.size ≤ 9223372036854775807 then (if ((((strOfNums y396) ++ t399) ++ a0_1) ++ t400).size + a0_2.size ≤ 9223372036854775807 then ((spec_l01Var.f k a0_3).bind fun t401 => (if (((((strOfNums y396) ++ t399) ++ a0_1) ++ t400) ++ a0_2).size + t401.size ≤ 9223372036854775807 then (some ((((((strOfNums y396) ++ t399) ++ a0_1) ++ t400) ++ a0_2) ++ t401, true)) else (none))) else (none)) else (none))) else (none)) else (none))) = some (r1, r2) := by first | (rw [hy396]; with_reducible exact H) | (have H2_ := (Option.bind_some _ _).symm.trans H; rw [hy396]; with_reducible exact H2_) | (have H2_ := (Option.bind_some _ _).symm.trans H; with_reducible exact H2_) | with_reducible exact H | (rw [hy396]; exact H) | exact H
   have Ny396 := Aside0.mk hy396
   clear hy396
   replace H := Option.bind_eq_some_iff.mp H
   obtain ⟨t399, A40, H⟩ := H
   replace H : (if (strOfNums y396).size + t399.size ≤ 9223372036854775807 then (if ((strOfNums y396) ++ t399).size + a0_1.size ≤ 9223372036854775807 then ((spec_l01Var.f k (a0_2.size : Int)).bind fun t400 => (if (((strOfNums y396) ++ t399) ++ a0_1).size + t400.size ≤ 9223372036854775807 then (if ((((strOfNums y396) ++ t399) ++ a0_1) ++ t400).size + a0_2.size ≤ 9223372036854775807 then ((spec_l01Var.f k a0_3).bind fun t401 => (if (((((strOfNums y396) ++ t399) ++ a0_1) ++ t400) ++ a0_2).size + t401.size ≤ 9223372036854775807 then (some ((((((strOfNums y396) ++ t399) ++ a0_1) ++ t400) ++ a0_2) ++ t401, true)) else (none))) else (none)) else (none))) else (none)) else (none)) = some (r1, r2) := H
   have A4 := Aside0.mk A40
   clear A40
   by_cases c5 : (strOfNums y396).size + t399.size ≤ 9223372036854775807
   ·rw [if_pos c5] at H
    have c5b0 := eq_true c5
    have c5b1 : decide ((strOfNums y396).size + t399.size ≤ 9223372036854775807) = true := decide_eq_true c5
    try have c5b2 : (9223372036854775807 < (strOfNums y396).size + t399.size) = False := eq_false (Nat.not_lt.2 c5)
    by_cases c6 : ((strOfNums y396) ++ t399).size + a0_1.size ≤ 9223372036854775807
    ·rw [if_pos c6] at H
     have c6b0 := eq_true c6
     have c6b1 : decide (((strOfNums y396) ++ t399).size + a0_1.size ≤ 9223372036854775807) = true := decide_eq_true c6
     try have c6b2 : (9223372036854775807 < ((strOfNums y396) ++ t399).size + a0_1.size) = False := eq_false (Nat.not_lt.2 c6)
     try have c6b4 := c6b2
     try simp only [ByteArray.size_append] at c6b4
     replace H := Option.bind_eq_some_iff.mp H
     obtain ⟨t400, A70, H⟩ := H
     replace H : (if (((strOfNums y396) ++ t399) ++ a0_1).size + t400.size ≤ 9223372036854775807 then (if ((((strOfNums y396) ++ t399) ++ a0_1) ++ t400).size + a0_2.size ≤ 9223372036854775807 then ((spec_l01Var.f k a0_3).bind fun t401 => (if (((((strOfNums y396) ++ t399) ++ a0_1) ++ t400) ++ a0_2).size + t401.size ≤ 9223372036854775807 then (some ((((((strOfNums y396) ++ t399) ++ a0_1) ++ t400) ++ a0_2) ++ t401, true)) else (none))) else (none)) else (none)) = some (r1, r2) := H
     have A7 := Aside0.mk A70
     clear A70
     by_cases c8 : (((strOfNums y396) ++ t399) ++ a0_1).size + t400.size ≤ 9223372036854775807
     ·rw [if_pos c8] at H
      have c8b0 := eq_true c8
      have c8b1 : decide ((((strOfNums y396) ++ t399) ++ a0_1).size + t400.size ≤ 9223372036854775807) = true := decide_eq_true c8
      try have c8b2 : (9223372036854775807 < (((strOfNums y396) ++ t399) ++ a0_1).size + t400.size) = False := eq_false (Nat.not_lt.2 c8)
      try have c8b4 := c8b2
      try simp only [ByteArray.size_append] at c8b4
      by_cases c9 : ((((strOfNums y396) ++ t399) ++ a0_1) ++ t400).size + a0_2.size ≤ 9223372036854775807
      ·rw [if_pos c9] at H
       have c9b0 := eq_true c9
       have c9b1 : decide (((((strOfNums y396) ++ t399) ++ a0_1) ++ t400).size + a0_2.size ≤ 9223372036854775807) = true := decide_eq_true c9
       try have c9b2 : (9223372036854775807 < ((((strOfNums y396) ++ t399) ++ a0_1) ++ t400).size + a0_2.size) = False := eq_false (Nat.not_lt.2 c9)
       try have c9b4 := c9b2
       try simp only [ByteArray.size_append] at c9b4
       replace H := Option.bind_eq_some_iff.mp H
       obtain ⟨t401, A100, H⟩ := H
       replace H : (if (((((strOfNums y396) ++ t399) ++ a0_1) ++ t400) ++ a0_2).size + t401.size ≤ 9223372036854775807 then (some ((((((strOfNums y396) ++ t399) ++ a0_1) ++ t400) ++ a0_2) ++ t401, true)) else (none)) = some (r1, r2) := H
       have A10 := Aside0.mk A100
       clear A100
       by_cases c11 : (((((strOfNums y396) ++ t399) ++ a0_1) ++ t400) ++ a0_2).size + t401.size ≤ 9223372036854775807
       ·rw [if_pos c11] at H
        have c11b0 := eq_true c11
        have c11b1 : decide ((((((strOfNums y396) ++ t399) ++ a0_1) ++ t400) ++ a0_2).size + t401.size ≤ 9223372036854775807) = true := decide_eq_true c11
        try have c11b2 : (9223372036854775807 < (((((strOfNums y396) ++ t399) ++ a0_1) ++ t400) ++ a0_2).size + t401.size) = False := eq_false (Nat.not_lt.2 c11)
        try have c11b4 := c11b2
        try simp only [ByteArray.size_append] at c11b4
        simp only [Option.some.injEq, Prod.mk.injEq] at H
        obtain ⟨rfl, rfl⟩ := H
        go_enter Tryd.func37, Tryd.ntmps37
        try go_wp2_with (first | ((with_reducible refine gate_dst (N := 1) rfl ?_); refine box_event ?hg (N := 1) ?hd (cs := #[.int .i64 a0_0, .string a0_1, .string a0_2, .int .i64 a0_3, .int .i64 a0_4]) (t := 34) ?hr ?_; (case hd => rfl); (case hg => rfl); (case hr => first | (go_simp; done) | (go_simp; rfl)); intro gb394 hg w12 hbox hb; have n0_ := Aside0.mk (below_step (pl0 HB.out) hb); have n1_ := Aside0.mk (hbox); have n2_ := Aside0.mk ((by rw [hg]; exact (below_size (pl0 HB.out)) : w.heap.size ≤ gb394)); have n3_ := Aside0.mk ((by rw [hg]; exact (below_size (pl0 HB.out)) : w.heap.size ≤ gb394)); clear HB; have HB := n0_; have BK394 := n1_; have GW394 := n2_; have GE394 := n3_; clear n0_ n1_ n2_ n3_; clear hb hbox hg; obtain ⟨hcz13_0, hcz13_1, hcz13_2, hcz13_3, hcz13_4, hfz13_0, hfz13_1, hfz13_2, hfz13_3, hfz13_4⟩ := z5 BK394.out) | ((with_reducible refine gate_callee (f := 16) rfl ?_); refine goesL_ (some 5) rfl rfl Tryd.func16 (by kernel_rfl) rfl #[.agg #[.int .i64 a0_0, .string a0_1, .string a0_2, .int .i64 a0_3, .int .i64 a0_4]] rfl (by (try simp only [List.map_toArray, List.map_cons, List.map_nil]); first | done | rfl | (simp only [List.length_drop, List.length_take]; rfl)) ?_; (with_reducible refine (spec_EditOk.calls k a0_0 a0_1 a0_2 a0_3 a0_4 true _ A2.out).mono ?_); rintro e w14 ⟨rfl, hb⟩; refine ⟨_, rfl, ?_⟩; replace BK394 := Aside0.mk (pb BK394.out hb); replace HB := Aside0.mk (below_step (pl1 HB.out GE394.out) hb); (try clear hb); (try clear hb2); (try clear hk); (try clear hi)))
        replace BK394 := Aside0.mk (blk_drew BK394.out)
        replace HB := Aside0.mk (below_drew1 HB.out)
        refine start_ (n := 30) (S := fun w' => w'.cell? ⟨gb394, 0, none⟩ = some (.int .i64 a0_0) ∧ w'.cell? ⟨gb394, 1, none⟩ = some (.string a0_1) ∧ w'.cell? ⟨gb394, 2, none⟩ = some (.string a0_2) ∧ w'.cell? ⟨gb394, 3, none⟩ = some (.int .i64 a0_3) ∧ w'.cell? ⟨gb394, 4, none⟩ = some (.int .i64 a0_4)) (ds := []) #[O,O,O,O,O,O,O,O,O,O,O,O,O,O,O,O,O,O,O,O,O,O,O,O,O,O,O,O,O,O] (by kernel_rfl) rfl rfl ⟨(blk_cell BK394.out 0).trans rfl, (blk_cell BK394.out 1).trans rfl, (blk_cell BK394.out 2).trans rfl, (blk_cell BK394.out 3).trans rfl, (blk_cell BK394.out 4).trans rfl⟩ (fun hHeld => ?_); refine with_tabW spec_EditText.tab3 spec_EditText.bits3 (fun HT_ HW_ => ?_)
        generalize w14.drew = w15 at BK394 HB hHeld ⊢
        refine pz 0 7 #[Y,O,O,O,O,O,O,O,O,O,O,O,O,O,O,O,O,O,O,O,O,O,O,O,O,O,O,O,O,O] HT_ ?_
        refine pure_ (i := 3) (N := some 10) (v := ?_) (a' := ?_) #[Y,O,O,Y,O,O,O,O,O,O,O,O,O,O,O,O,O,O,O,O,O,O,O,O,O,O,O,O,O,O] rfl rfl (any_of HT_.out (by kernel_rfl)) (fun _ _ _ h => h) (Or.inl ⟨by rfl, ?_⟩) ?_ ?_
        rotate_left
        ·intro w'
         go_simp
         with_reducible rfl
        rotate_left
        ·simp only [Act.put, List.setIfInBounds_toArray, List.set_cons_zero, List.set_cons_succ, i64_w, i32_w]
         rfl
        refine pure_ (i := 8) (N := some 15) (v := ?_) (a' := ?_) #[Y,O,O,Y,O,O,O,O,Y,O,O,O,O,O,O,O,O,O,O,O,O,O,O,O,O,O,O,O,O,O] rfl rfl (any_of HT_.out (by kernel_rfl)) (fun _ _ _ h => h) (Or.inl ⟨by rfl, ?_⟩) ?_ ?_
        rotate_left
        ·intro w'
         go_simp
         with_reducible rfl
        rotate_left
        ·simp only [Act.put, List.setIfInBounds_toArray, List.set_cons_zero, List.set_cons_succ, i64_w, i32_w]
         rfl
        refine pure_ (i := 13) (N := some 20) (v := ?_) (a' := ?_) #[Y,O,O,Y,O,O,O,O,Y,O,O,O,O,Y,O,O,O,O,O,O,O,O,O,O,O,O,O,O,O,O] rfl rfl (any_of HT_.out (by kernel_rfl)) (fun _ _ _ h => h) (Or.inl ⟨by rfl, ?_⟩) ?_ ?_
        rotate_left
        ·intro w'
         go_simp
         with_reducible rfl
        rotate_left
        ·simp only [Act.put, List.setIfInBounds_toArray, List.set_cons_zero, List.set_cons_succ, i64_w, i32_w]
         rfl
        refine pure_ (i := 16) (N := some 23) (v := ?_) (a' := ?_) #[Y,O,O,Y,O,O,O,O,Y,O,O,O,O,Y,O,O,Y,O,O,O,O,O,O,O,O,O,O,O,O,O] rfl rfl (any_of HT_.out (by kernel_rfl)) (fun _ _ _ h => h) (Or.inl ⟨by rfl, ?_⟩) ?_ ?_
        rotate_left
        ·intro w'
         go_simp
         with_reducible rfl
        rotate_left
        ·simp only [Act.put, List.setIfInBounds_toArray, List.set_cons_zero, List.set_cons_succ, i64_w, i32_w]
         rfl
        refine pure_ (i := 21) (N := some 28) (v := ?_) (a' := ?_) #[Y,O,O,Y,O,O,O,O,Y,O,O,O,O,Y,O,O,Y,O,O,O,O,Y,O,O,O,O,O,O,O,O] rfl rfl (any_of HT_.out (by kernel_rfl)) (fun _ _ _ h => h) (Or.inl ⟨by rfl, ?_⟩) ?_ ?_
        rotate_left
        ·intro w'
         go_simp
         with_reducible rfl
        rotate_left
        ·simp only [Act.put, List.setIfInBounds_toArray, List.set_cons_zero, List.set_cons_succ, i64_w, i32_w]
         rfl
        refine pure_ (i := 24) (N := some 31) (v := ?_) (a' := ?_) #[Y,O,O,Y,O,O,O,O,Y,O,O,O,O,Y,O,O,Y,O,O,O,O,Y,O,O,Y,O,O,O,O,O] rfl rfl (any_of HT_.out (by kernel_rfl)) (fun _ _ _ h => h) (Or.inl ⟨by rfl, ?_⟩) ?_ ?_
        rotate_left
        ·intro w'
         go_simp
         with_reducible rfl
        rotate_left
        ·simp only [Act.put, List.setIfInBounds_toArray, List.set_cons_zero, List.set_cons_succ, i64_w, i32_w]
         rfl
        refine take_ (i := 1) (N := some 8) (v := ?_) (a' := ?_) #[Y,Y,O,Y,O,O,O,O,Y,O,O,O,O,Y,O,O,Y,O,O,O,O,Y,O,O,Y,O,O,O,O,O] rfl rfl (take_ofW HT_.out HW_.out (by kernel_rfl)) (fun _ _ _ h => h) (Or.inl ⟨by rfl, ?_⟩) hHeld ?_ ?_
        rotate_left
        ·rintro w' ⟨s0, s1, s2, s3, s4⟩
         go_simp
         with_reducible rfl
        rotate_left
        ·simp only [Act.put, List.setIfInBounds_toArray, List.set_cons_zero, List.set_cons_succ, i64_w, i32_w]
         rfl
        refine pure_ (i := 2) (N := some 9) (v := ?_) (a' := ?_) #[Y,Y,Y,Y,O,O,O,O,Y,O,O,O,O,Y,O,O,Y,O,O,O,O,Y,O,O,Y,O,O,O,O,O] rfl rfl (any_of HT_.out (by kernel_rfl)) (fun _ _ _ h => h) (Or.inl ⟨by rfl, ?_⟩) ?_ ?_
        rotate_left
        ·intro w'
         go_simp
         with_reducible rfl
        rotate_left
        ·simp only [Act.put, List.setIfInBounds_toArray, List.set_cons_zero, List.set_cons_succ, i64_w, i32_w]
         rfl
        refine take_ (i := 4) (N := some 11) (v := ?_) (a' := ?_) #[Y,Y,Y,Y,Y,O,O,O,Y,O,O,O,O,Y,O,O,Y,O,O,O,O,Y,O,O,Y,O,O,O,O,O] rfl rfl (take_ofW HT_.out HW_.out (by kernel_rfl)) (fun _ _ _ h => h) (Or.inl ⟨by rfl, ?_⟩) hHeld ?_ ?_
        rotate_left
        ·rintro w' ⟨s0, s1, s2, s3, s4⟩
         go_simp
         with_reducible rfl
        rotate_left
        ·simp only [Act.put, List.setIfInBounds_toArray, List.set_cons_zero, List.set_cons_succ, i64_w, i32_w]
         rfl
        refine pure_ (i := 5) (N := some 12) (v := ?_) (a' := ?_) #[Y,Y,Y,Y,Y,Y,O,O,Y,O,O,O,O,Y,O,O,Y,O,O,O,O,Y,O,O,Y,O,O,O,O,O] rfl rfl (any_of HT_.out (by kernel_rfl)) (fun _ _ _ h => h) (Or.inl ⟨by rfl, ?_⟩) ?_ ?_
        rotate_left
        ·intro w'
         go_simp
         with_reducible rfl
        rotate_left
        ·simp only [Act.put, List.setIfInBounds_toArray, List.set_cons_zero, List.set_cons_succ, i64_w, i32_w]
         rfl
        refine take_ (i := 9) (N := some 16) (v := ?_) (a' := ?_) #[Y,Y,Y,Y,Y,Y,O,O,Y,Y,O,O,O,Y,O,O,Y,O,O,O,O,Y,O,O,Y,O,O,O,O,O] rfl rfl (take_ofW HT_.out HW_.out (by kernel_rfl)) (fun _ _ _ h => h) (Or.inl ⟨by rfl, ?_⟩) hHeld ?_ ?_
        rotate_left
        ·rintro w' ⟨s0, s1, s2, s3, s4⟩
         go_simp
         with_reducible rfl
        rotate_left
        ·simp only [Act.put, List.setIfInBounds_toArray, List.set_cons_zero, List.set_cons_succ, i64_w, i32_w]
         rfl
        refine pure_ (i := 10) (N := some 17) (v := ?_) (a' := ?_) #[Y,Y,Y,Y,Y,Y,O,O,Y,Y,Y,O,O,Y,O,O,Y,O,O,O,O,Y,O,O,Y,O,O,O,O,O] rfl rfl (any_of HT_.out (by kernel_rfl)) (fun _ _ _ h => h) (Or.inl ⟨by rfl, ?_⟩) ?_ ?_
        rotate_left
        ·intro w'
         go_simp
         with_reducible rfl
        rotate_left
        ·simp only [Act.put, List.setIfInBounds_toArray, List.set_cons_zero, List.set_cons_succ, i64_w, i32_w]
         rfl
        refine take_ (i := 14) (N := some 21) (v := ?_) (a' := ?_) #[Y,Y,Y,Y,Y,Y,O,O,Y,Y,Y,O,O,Y,Y,O,Y,O,O,O,O,Y,O,O,Y,O,O,O,O,O] rfl rfl (take_ofW HT_.out HW_.out (by kernel_rfl)) (fun _ _ _ h => h) (Or.inl ⟨by rfl, ?_⟩) hHeld ?_ ?_
        rotate_left
        ·rintro w' ⟨s0, s1, s2, s3, s4⟩
         go_simp
         with_reducible rfl
        rotate_left
        ·simp only [Act.put, List.setIfInBounds_toArray, List.set_cons_zero, List.set_cons_succ, i64_w, i32_w]
         rfl
        refine take_ (i := 17) (N := some 24) (v := ?_) (a' := ?_) #[Y,Y,Y,Y,Y,Y,O,O,Y,Y,Y,O,O,Y,Y,O,Y,Y,O,O,O,Y,O,O,Y,O,O,O,O,O] rfl rfl (take_ofW HT_.out HW_.out (by kernel_rfl)) (fun _ _ _ h => h) (Or.inl ⟨by rfl, ?_⟩) hHeld ?_ ?_
        rotate_left
        ·rintro w' ⟨s0, s1, s2, s3, s4⟩
         go_simp
         with_reducible rfl
        rotate_left
        ·simp only [Act.put, List.setIfInBounds_toArray, List.set_cons_zero, List.set_cons_succ, i64_w, i32_w]
         rfl
        refine pure_ (i := 18) (N := some 25) (v := ?_) (a' := ?_) #[Y,Y,Y,Y,Y,Y,O,O,Y,Y,Y,O,O,Y,Y,O,Y,Y,Y,O,O,Y,O,O,Y,O,O,O,O,O] rfl rfl (any_of HT_.out (by kernel_rfl)) (fun _ _ _ h => h) (Or.inl ⟨by rfl, ?_⟩) ?_ ?_
        rotate_left
        ·intro w'
         go_simp
         with_reducible rfl
        rotate_left
        ·simp only [Act.put, List.setIfInBounds_toArray, List.set_cons_zero, List.set_cons_succ, i64_w, i32_w]
         rfl
        refine take_ (i := 22) (N := some 29) (v := ?_) (a' := ?_) #[Y,Y,Y,Y,Y,Y,O,O,Y,Y,Y,O,O,Y,Y,O,Y,Y,Y,O,O,Y,Y,O,Y,O,O,O,O,O] rfl rfl (take_ofW HT_.out HW_.out (by kernel_rfl)) (fun _ _ _ h => h) (Or.inl ⟨by rfl, ?_⟩) hHeld ?_ ?_
        rotate_left
        ·rintro w' ⟨s0, s1, s2, s3, s4⟩
         go_simp
         with_reducible rfl
        rotate_left
        ·simp only [Act.put, List.setIfInBounds_toArray, List.set_cons_zero, List.set_cons_succ, i64_w, i32_w]
         rfl
        refine take_ (i := 25) (N := some 32) (v := ?_) (a' := ?_) #[Y,Y,Y,Y,Y,Y,O,O,Y,Y,Y,O,O,Y,Y,O,Y,Y,Y,O,O,Y,Y,O,Y,Y,O,O,O,O] rfl rfl (take_ofW HT_.out HW_.out (by kernel_rfl)) (fun _ _ _ h => h) (Or.inl ⟨by rfl, ?_⟩) hHeld ?_ ?_
        rotate_left
        ·rintro w' ⟨s0, s1, s2, s3, s4⟩
         go_simp
         with_reducible rfl
        rotate_left
        ·simp only [Act.put, List.setIfInBounds_toArray, List.set_cons_zero, List.set_cons_succ, i64_w, i32_w]
         rfl
        refine join_ (σ := Value) 3 #[Y,Y,Y,Y,Y,Y,Y,Y,Y,Y,Y,Y,Y,Y,Y,Y,Y,Y,Y,Y,Y,Y,Y,Y,Y,Y,Y,O,O,O] (fun s_ => [(13, s_), (14, .string (strOfNums y396)), (18, .string t399), (26, .string t400), (33, .string t401), (19, .string ((strOfNums y396) ++ t399)), (22, .string (((strOfNums y396) ++ t399) ++ a0_1)), (27, .string ((((strOfNums y396) ++ t399) ++ a0_1) ++ t400)), (30, .string (((((strOfNums y396) ++ t399) ++ a0_1) ++ t400) ++ a0_2))]) (fun s_ w' => (w'.cell? ⟨gb394, 0, none⟩ = some (.int .i64 a0_0) ∧ w'.cell? ⟨gb394, 1, none⟩ = some (.string a0_1) ∧ w'.cell? ⟨gb394, 2, none⟩ = some (.string a0_2) ∧ w'.cell? ⟨gb394, 3, none⟩ = some (.int .i64 a0_3) ∧ w'.cell? ⟨gb394, 4, none⟩ = some (.int .i64 a0_4)) ∧ (Kd.R (Kd.int .u8) 5 w' w.heap.size (fun _ => True) s_ y396) ∧ (w'.heap[gb394]? = some (.cells #[.int .i64 a0_0, .string a0_1, .string a0_2, .int .i64 a0_3, .int .i64 a0_4] 34 (0, 0))) ∧ (Below w.heap.size w w')) ?_ ?_
        rotate_left
        ·intro hJ6_7_11_19_26
         refine join_ (σ := Value) 4 #[Y,Y,Y,Y,Y,Y,Y,Y,Y,Y,Y,Y,Y,Y,Y,Y,Y,Y,Y,Y,Y,Y,Y,Y,Y,Y,O,O,O,O] (fun s_ => [(13, s_), (14, .string (strOfNums y396)), (18, .string t399), (26, .string t400), (19, .string ((strOfNums y396) ++ t399)), (22, .string (((strOfNums y396) ++ t399) ++ a0_1)), (27, .string ((((strOfNums y396) ++ t399) ++ a0_1) ++ t400)), (30, .string (((((strOfNums y396) ++ t399) ++ a0_1) ++ t400) ++ a0_2))]) (fun s_ w' => (w'.cell? ⟨gb394, 0, none⟩ = some (.int .i64 a0_0) ∧ w'.cell? ⟨gb394, 1, none⟩ = some (.string a0_1) ∧ w'.cell? ⟨gb394, 2, none⟩ = some (.string a0_2) ∧ w'.cell? ⟨gb394, 3, none⟩ = some (.int .i64 a0_3) ∧ w'.cell? ⟨gb394, 4, none⟩ = some (.int .i64 a0_4)) ∧ (Kd.R (Kd.int .u8) 5 w' w.heap.size (fun _ => True) s_ y396) ∧ (w'.heap[gb394]? = some (.cells #[.int .i64 a0_0, .string a0_1, .string a0_2, .int .i64 a0_3, .int .i64 a0_4] 34 (0, 0))) ∧ (Below w.heap.size w w')) ?_ ?_
         rotate_left
         ·intro hJ6_7_11_19
          refine join_ (σ := Value) 8 #[Y,Y,Y,Y,Y,Y,Y,O,Y,Y,Y,Y,O,Y,Y,O,Y,Y,Y,Y,O,Y,Y,O,Y,Y,Y,O,O,O] (fun s_ => [(13, s_), (18, .string t399), (26, .string t400), (33, .string t401)]) (fun s_ w' => (w'.cell? ⟨gb394, 0, none⟩ = some (.int .i64 a0_0) ∧ w'.cell? ⟨gb394, 1, none⟩ = some (.string a0_1) ∧ w'.cell? ⟨gb394, 2, none⟩ = some (.string a0_2) ∧ w'.cell? ⟨gb394, 3, none⟩ = some (.int .i64 a0_3) ∧ w'.cell? ⟨gb394, 4, none⟩ = some (.int .i64 a0_4)) ∧ (Kd.R (Kd.int .u8) 5 w' w.heap.size (fun _ => True) s_ y396) ∧ (w'.heap[gb394]? = some (.cells #[.int .i64 a0_0, .string a0_1, .string a0_2, .int .i64 a0_3, .int .i64 a0_4] 34 (0, 0))) ∧ (Below w.heap.size w w')) ?_ ?_
          rotate_left
          ·intro hJ6_11_19_26
           refine join_ (σ := Value) 7 #[Y,Y,Y,Y,Y,Y,Y,Y,Y,Y,Y,Y,Y,Y,Y,Y,Y,Y,Y,O,O,Y,Y,O,Y,Y,O,O,O,O] (fun s_ => [(13, s_), (14, .string (strOfNums y396)), (18, .string t399), (19, .string ((strOfNums y396) ++ t399)), (22, .string (((strOfNums y396) ++ t399) ++ a0_1))]) (fun s_ w' => (w'.cell? ⟨gb394, 0, none⟩ = some (.int .i64 a0_0) ∧ w'.cell? ⟨gb394, 1, none⟩ = some (.string a0_1) ∧ w'.cell? ⟨gb394, 2, none⟩ = some (.string a0_2) ∧ w'.cell? ⟨gb394, 3, none⟩ = some (.int .i64 a0_3) ∧ w'.cell? ⟨gb394, 4, none⟩ = some (.int .i64 a0_4)) ∧ (Kd.R (Kd.int .u8) 5 w' w.heap.size (fun _ => True) s_ y396) ∧ (w'.heap[gb394]? = some (.cells #[.int .i64 a0_0, .string a0_1, .string a0_2, .int .i64 a0_3, .int .i64 a0_4] 34 (0, 0))) ∧ (Below w.heap.size w w')) ?_ ?_
           rotate_left
           ·intro hJ6_7_11
            refine join_ (σ := Value) 9 #[Y,Y,Y,Y,Y,Y,Y,O,Y,Y,Y,Y,O,Y,Y,O,Y,Y,Y,Y,O,Y,Y,O,Y,Y,O,O,O,O] (fun s_ => [(13, s_), (18, .string t399), (26, .string t400)]) (fun s_ w' => (w'.cell? ⟨gb394, 0, none⟩ = some (.int .i64 a0_0) ∧ w'.cell? ⟨gb394, 1, none⟩ = some (.string a0_1) ∧ w'.cell? ⟨gb394, 2, none⟩ = some (.string a0_2) ∧ w'.cell? ⟨gb394, 3, none⟩ = some (.int .i64 a0_3) ∧ w'.cell? ⟨gb394, 4, none⟩ = some (.int .i64 a0_4)) ∧ (Kd.R (Kd.int .u8) 5 w' w.heap.size (fun _ => True) s_ y396) ∧ (w'.heap[gb394]? = some (.cells #[.int .i64 a0_0, .string a0_1, .string a0_2, .int .i64 a0_3, .int .i64 a0_4] 34 (0, 0))) ∧ (Below w.heap.size w w')) ?_ ?_
            rotate_left
            ·intro hJ6_11_19
             refine join_ (σ := Unit) 9 #[Y,Y,Y,Y,Y,Y,O,O,Y,Y,Y,Y,O,Y,Y,O,Y,Y,Y,Y,O,Y,Y,O,Y,Y,Y,O,O,O] (fun s_ => [(18, .string t399), (26, .string t400), (33, .string t401)]) (fun s_ w' => (w'.cell? ⟨gb394, 0, none⟩ = some (.int .i64 a0_0) ∧ w'.cell? ⟨gb394, 1, none⟩ = some (.string a0_1) ∧ w'.cell? ⟨gb394, 2, none⟩ = some (.string a0_2) ∧ w'.cell? ⟨gb394, 3, none⟩ = some (.int .i64 a0_3) ∧ w'.cell? ⟨gb394, 4, none⟩ = some (.int .i64 a0_4)) ∧ (w'.heap[gb394]? = some (.cells #[.int .i64 a0_0, .string a0_1, .string a0_2, .int .i64 a0_3, .int .i64 a0_4] 34 (0, 0))) ∧ (Below w.heap.size w w')) ?_ ?_
             rotate_left
             ·intro hJ11_19_26
              refine join_ (σ := Value) 10 #[Y,Y,Y,Y,Y,Y,Y,Y,Y,Y,Y,O,O,Y,Y,O,Y,Y,Y,O,O,Y,Y,O,Y,Y,O,O,O,O] (fun s_ => [(13, s_), (14, .string (strOfNums y396))]) (fun s_ w' => (w'.cell? ⟨gb394, 0, none⟩ = some (.int .i64 a0_0) ∧ w'.cell? ⟨gb394, 1, none⟩ = some (.string a0_1) ∧ w'.cell? ⟨gb394, 2, none⟩ = some (.string a0_2) ∧ w'.cell? ⟨gb394, 3, none⟩ = some (.int .i64 a0_3) ∧ w'.cell? ⟨gb394, 4, none⟩ = some (.int .i64 a0_4)) ∧ (Kd.R (Kd.int .u8) 5 w' w.heap.size (fun _ => True) s_ y396) ∧ (w'.heap[gb394]? = some (.cells #[.int .i64 a0_0, .string a0_1, .string a0_2, .int .i64 a0_3, .int .i64 a0_4] 34 (0, 0))) ∧ (Below w.heap.size w w')) ?_ ?_
              rotate_left
              ·intro hJ6_7
               refine join_ (σ := Value) 10 #[Y,Y,Y,Y,Y,Y,Y,O,Y,Y,Y,Y,O,Y,Y,O,Y,Y,Y,O,O,Y,Y,O,Y,Y,O,O,O,O] (fun s_ => [(13, s_), (18, .string t399)]) (fun s_ w' => (w'.cell? ⟨gb394, 0, none⟩ = some (.int .i64 a0_0) ∧ w'.cell? ⟨gb394, 1, none⟩ = some (.string a0_1) ∧ w'.cell? ⟨gb394, 2, none⟩ = some (.string a0_2) ∧ w'.cell? ⟨gb394, 3, none⟩ = some (.int .i64 a0_3) ∧ w'.cell? ⟨gb394, 4, none⟩ = some (.int .i64 a0_4)) ∧ (Kd.R (Kd.int .u8) 5 w' w.heap.size (fun _ => True) s_ y396) ∧ (w'.heap[gb394]? = some (.cells #[.int .i64 a0_0, .string a0_1, .string a0_2, .int .i64 a0_3, .int .i64 a0_4] 34 (0, 0))) ∧ (Below w.heap.size w w')) ?_ ?_
               rotate_left
               ·intro hJ6_11
                refine join_ (σ := Unit) 10 #[Y,Y,Y,Y,Y,Y,O,O,Y,Y,Y,Y,O,Y,Y,O,Y,Y,Y,Y,O,Y,Y,O,Y,Y,O,O,O,O] (fun s_ => [(18, .string t399), (26, .string t400)]) (fun s_ w' => (w'.cell? ⟨gb394, 0, none⟩ = some (.int .i64 a0_0) ∧ w'.cell? ⟨gb394, 1, none⟩ = some (.string a0_1) ∧ w'.cell? ⟨gb394, 2, none⟩ = some (.string a0_2) ∧ w'.cell? ⟨gb394, 3, none⟩ = some (.int .i64 a0_3) ∧ w'.cell? ⟨gb394, 4, none⟩ = some (.int .i64 a0_4)) ∧ (w'.heap[gb394]? = some (.cells #[.int .i64 a0_0, .string a0_1, .string a0_2, .int .i64 a0_3, .int .i64 a0_4] 34 (0, 0))) ∧ (Below w.heap.size w w')) ?_ ?_
                rotate_left
                ·intro hJ11_19
                 refine join_ (σ := Value) 11 #[Y,Y,Y,Y,Y,Y,Y,O,Y,Y,Y,O,O,Y,Y,O,Y,Y,Y,O,O,Y,Y,O,Y,Y,O,O,O,O] (fun s_ => [(13, s_)]) (fun s_ w' => (w'.cell? ⟨gb394, 0, none⟩ = some (.int .i64 a0_0) ∧ w'.cell? ⟨gb394, 1, none⟩ = some (.string a0_1) ∧ w'.cell? ⟨gb394, 2, none⟩ = some (.string a0_2) ∧ w'.cell? ⟨gb394, 3, none⟩ = some (.int .i64 a0_3) ∧ w'.cell? ⟨gb394, 4, none⟩ = some (.int .i64 a0_4)) ∧ (Kd.R (Kd.int .u8) 5 w' w.heap.size (fun _ => True) s_ y396) ∧ (w'.heap[gb394]? = some (.cells #[.int .i64 a0_0, .string a0_1, .string a0_2, .int .i64 a0_3, .int .i64 a0_4] 34 (0, 0))) ∧ (Below w.heap.size w w')) ?_ ?_
                 rotate_left
                 ·intro hJ6
                  refine join_ (σ := Unit) 11 #[Y,Y,Y,Y,Y,Y,O,O,Y,Y,Y,Y,O,Y,Y,O,Y,Y,Y,O,O,Y,Y,O,Y,Y,O,O,O,O] (fun s_ => [(18, .string t399)]) (fun s_ w' => (w'.cell? ⟨gb394, 0, none⟩ = some (.int .i64 a0_0) ∧ w'.cell? ⟨gb394, 1, none⟩ = some (.string a0_1) ∧ w'.cell? ⟨gb394, 2, none⟩ = some (.string a0_2) ∧ w'.cell? ⟨gb394, 3, none⟩ = some (.int .i64 a0_3) ∧ w'.cell? ⟨gb394, 4, none⟩ = some (.int .i64 a0_4)) ∧ (w'.heap[gb394]? = some (.cells #[.int .i64 a0_0, .string a0_1, .string a0_2, .int .i64 a0_3, .int .i64 a0_4] 34 (0, 0))) ∧ (Below w.heap.size w w')) ?_ ?_
                  rotate_left
                  ·intro hJ11
                   refine two_ (i := 6) (j := 11) (Ni := some 13) (Nj := some 18) #[Y,Y,Y,Y,Y,Y,Y,O,Y,Y,Y,O,O,Y,Y,O,Y,Y,Y,O,O,Y,Y,O,Y,Y,O,O,O,O] #[Y,Y,Y,Y,Y,Y,O,O,Y,Y,Y,Y,O,Y,Y,O,Y,Y,Y,O,O,Y,Y,O,Y,Y,O,O,O,O] rfl rfl rfl rfl (two_of HT_.out (by kernel_rfl)) (by decide) (by decide) (fun K hK => ?_) (fun K hK => ?_)
                   ·skip
                    refine Kd.R_lit_step (Kd.int .u8) _ 5 ?hg (N := 13) ?hd (xs := ([(a0_0) % 256, (a0_4) % 256] : List Int)) (inner := [.int .u8 ((a0_0) % 256), .int .u8 ((a0_4) % 256)]) (ok := fun _ => True) (okp := fun _ => True) ?hr ?hp (fun _ hk => hk) trivial (Below.refl _ _) (Nat.le_refl _) (by simp) ?_; (case hd => rfl); (case hg => rfl); (case hr => first | (go_simp; done) | (go_simp; rfl)); (case hp => exact (Reps.one (show Kd.M (Kd.int .u8) _ _ _ ((a0_0) % 256) [.int .u8 ((a0_0) % 256)] from rfl) (Reps.one (show Kd.M (Kd.int .u8) _ _ _ ((a0_4) % 256) [.int .u8 ((a0_4) % 256)] from rfl) (Reps.none _ _))))
                    intro v397 w16 ho17 hb hg_ hnew_
                    clear hg_ hnew_
                    (first | rw [← Ny396.out] at ho17 | (simp only [Int.reduceToNat] at ho17; rw [← Ny396.out] at ho17))
                    have n0_ := Aside0.mk (Kd.R_lower ho17 (below_size (pl1 HB.out GE394.out)))
                    have n1_ := Aside0.mk (pb BK394.out hb)
                    have n2_ := Aside0.mk (below_step (pl1 HB.out GE394.out) hb)
                    clear BK394
                    clear HB
                    have HO398 := n0_
                    have BK394 := n1_
                    have HB := n2_
                    clear n0_ n1_ n2_
                    clear hb ho17
                    refine hK.out _ _ ⟨(blk_cell BK394.out 0).trans rfl, (blk_cell BK394.out 1).trans rfl, (blk_cell BK394.out 2).trans rfl, (blk_cell BK394.out 3).trans rfl, (blk_cell BK394.out 4).trans rfl⟩ (fun hHeld => ?_)
                    clear hK K
                    refine norm_ (a' := ?_) ?_ ?_
                    rotate_left
                    ·show Act.put _ (some 13) _ = _
                     simp only [Act.put, List.setIfInBounds_toArray, List.set_cons_zero, List.set_cons_succ, i64_w, i32_w]
                     rfl
                    exact norm_ (by first | (simp only [putAll, Act.put, List.setIfInBounds_toArray, List.set_cons_zero, List.set_cons_succ]; done) | (simp only [putAll, Act.put, List.setIfInBounds_toArray, List.set_cons_zero, List.set_cons_succ]; rfl)) (hJ6 (v397) _ ⟨hHeld, (by (with_reducible repeat (first | apply Kd.R_alloc | apply Kd.R_drewN | apply Kd.R_drew)); exact HO398.out), (pk BK394.out), (pl1 HB.out GE394.out)⟩)
                   ·skip
                    refine goes_ Tryd.func54 (by kernel_rfl) rfl #[.int .i64 (a0_1.size : Int)] (by rfl) rfl rfl (by (try simp only [List.map_toArray, List.map_cons, List.map_nil]); first | done | rfl | (simp only [List.length_drop, List.length_take]; rfl)) ?_
                    with_reducible refine (spec_l01Var.calls k (a0_1.size : Int) t399 _ A4.out).mono ?_
                    rintro e w16 ⟨rfl, hb⟩
                    refine ⟨_, rfl, ?_⟩
                    replace BK394 := Aside0.mk (pb BK394.out hb)
                    replace HB := Aside0.mk (below_step (pl1 HB.out GE394.out) hb)
                    (try clear hb)
                    (try clear hb2)
                    (try clear hk)
                    (try clear hi)
                    refine hK.out _ _ ⟨(blk_cell BK394.out 0).trans rfl, (blk_cell BK394.out 1).trans rfl, (blk_cell BK394.out 2).trans rfl, (blk_cell BK394.out 3).trans rfl, (blk_cell BK394.out 4).trans rfl⟩ (fun hHeld => ?_)
                    clear hK K
                    refine norm_ (a' := ?_) ?_ ?_
                    rotate_left
                    ·show Act.put _ (some 18) _ = _
                     simp only [Act.put, List.setIfInBounds_toArray, List.set_cons_zero, List.set_cons_succ, i64_w, i32_w]
                     rfl
                    exact norm_ (by first | (simp only [putAll, Act.put, List.setIfInBounds_toArray, List.set_cons_zero, List.set_cons_succ]; done) | (simp only [putAll, Act.put, List.setIfInBounds_toArray, List.set_cons_zero, List.set_cons_succ]; rfl)) (hJ11 () _ ⟨hHeld, (pk BK394.out), (pl1 HB.out GE394.out)⟩)
                  ·skip
                   rintro _ w17 ⟨hS_, h0_, h1_⟩
                   have n0_ : Aside0 (w17.heap[gb394]? = some (.cells #[.int .i64 a0_0, .string a0_1, .string a0_2, .int .i64 a0_3, .int .i64 a0_4] 34 (0, 0))) := ⟨h0_⟩
                   have n1_ : Aside0 (Below w.heap.size w w17) := ⟨h1_⟩
                   clear BK394
                   clear HB
                   clear h0_ h1_
                   have BK394 := n0_
                   have HB := n1_
                   clear n0_ n1_
                   have hHeld : w17.cell? ⟨gb394, 0, none⟩ = some (.int .i64 a0_0) ∧ w17.cell? ⟨gb394, 1, none⟩ = some (.string a0_1) ∧ w17.cell? ⟨gb394, 2, none⟩ = some (.string a0_2) ∧ w17.cell? ⟨gb394, 3, none⟩ = some (.int .i64 a0_3) ∧ w17.cell? ⟨gb394, 4, none⟩ = some (.int .i64 a0_4) := hS_
                   refine norm_ (a' := ?_) ?_ ?_
                   rotate_left
                   ·simp only [putAll, Act.put, List.setIfInBounds_toArray, List.set_cons_zero, List.set_cons_succ]
                    rfl
                   refine two_ (i := 6) (j := 19) (Ni := some 13) (Nj := some 26) #[Y,Y,Y,Y,Y,Y,Y,O,Y,Y,Y,Y,O,Y,Y,O,Y,Y,Y,O,O,Y,Y,O,Y,Y,O,O,O,O] #[Y,Y,Y,Y,Y,Y,O,O,Y,Y,Y,Y,O,Y,Y,O,Y,Y,Y,Y,O,Y,Y,O,Y,Y,O,O,O,O] rfl rfl rfl rfl (two_of HT_.out (by kernel_rfl)) (by decide) (by decide) (fun K hK => ?_) (fun K hK => ?_)
                   ·skip
                    refine Kd.R_lit_step (Kd.int .u8) _ 5 ?hg (N := 13) ?hd (xs := ([(a0_0) % 256, (a0_4) % 256] : List Int)) (inner := [.int .u8 ((a0_0) % 256), .int .u8 ((a0_4) % 256)]) (ok := fun _ => True) (okp := fun _ => True) ?hr ?hp (fun _ hk => hk) trivial (Below.refl _ _) (Nat.le_refl _) (by simp) ?_; (case hd => rfl); (case hg => rfl); (case hr => first | (go_simp; done) | (go_simp; rfl)); (case hp => exact (Reps.one (show Kd.M (Kd.int .u8) _ _ _ ((a0_0) % 256) [.int .u8 ((a0_0) % 256)] from rfl) (Reps.one (show Kd.M (Kd.int .u8) _ _ _ ((a0_4) % 256) [.int .u8 ((a0_4) % 256)] from rfl) (Reps.none _ _))))
                    intro v397 w18 ho19 hb hg_ hnew_
                    clear hg_ hnew_
                    (first | rw [← Ny396.out] at ho19 | (simp only [Int.reduceToNat] at ho19; rw [← Ny396.out] at ho19))
                    have n0_ := Aside0.mk (Kd.R_lower ho19 (below_size (pl1 HB.out GE394.out)))
                    have n1_ := Aside0.mk (pb BK394.out hb)
                    have n2_ := Aside0.mk (below_step (pl1 HB.out GE394.out) hb)
                    clear BK394
                    clear HB
                    have HO398 := n0_
                    have BK394 := n1_
                    have HB := n2_
                    clear n0_ n1_ n2_
                    clear hb ho19
                    refine hK.out _ _ ⟨(blk_cell BK394.out 0).trans rfl, (blk_cell BK394.out 1).trans rfl, (blk_cell BK394.out 2).trans rfl, (blk_cell BK394.out 3).trans rfl, (blk_cell BK394.out 4).trans rfl⟩ (fun hHeld => ?_)
                    clear hK K
                    refine norm_ (a' := ?_) ?_ ?_
                    rotate_left
                    ·show Act.put _ (some 13) _ = _
                     simp only [Act.put, List.setIfInBounds_toArray, List.set_cons_zero, List.set_cons_succ, i64_w, i32_w]
                     rfl
                    exact norm_ (by first | (simp only [putAll, Act.put, List.setIfInBounds_toArray, List.set_cons_zero, List.set_cons_succ]; done) | (simp only [putAll, Act.put, List.setIfInBounds_toArray, List.set_cons_zero, List.set_cons_succ]; rfl)) (hJ6_11 (v397) _ ⟨hHeld, (by (with_reducible repeat (first | apply Kd.R_alloc | apply Kd.R_drewN | apply Kd.R_drew)); exact HO398.out), (pk BK394.out), (pl1 HB.out GE394.out)⟩)
                   ·skip
                    refine goes_ Tryd.func54 (by kernel_rfl) rfl #[.int .i64 (a0_2.size : Int)] (by rfl) rfl rfl (by (try simp only [List.map_toArray, List.map_cons, List.map_nil]); first | done | rfl | (simp only [List.length_drop, List.length_take]; rfl)) ?_
                    with_reducible refine (spec_l01Var.calls k (a0_2.size : Int) t400 _ A7.out).mono ?_
                    rintro e w18 ⟨rfl, hb⟩
                    refine ⟨_, rfl, ?_⟩
                    replace BK394 := Aside0.mk (pb BK394.out hb)
                    replace HB := Aside0.mk (below_step (pl1 HB.out GE394.out) hb)
                    (try clear hb)
                    (try clear hb2)
                    (try clear hk)
                    (try clear hi)
                    refine hK.out _ _ ⟨(blk_cell BK394.out 0).trans rfl, (blk_cell BK394.out 1).trans rfl, (blk_cell BK394.out 2).trans rfl, (blk_cell BK394.out 3).trans rfl, (blk_cell BK394.out 4).trans rfl⟩ (fun hHeld => ?_)
                    clear hK K
                    refine norm_ (a' := ?_) ?_ ?_
                    rotate_left
                    ·show Act.put _ (some 26) _ = _
                     simp only [Act.put, List.setIfInBounds_toArray, List.set_cons_zero, List.set_cons_succ, i64_w, i32_w]
                     rfl
                    exact norm_ (by first | (simp only [putAll, Act.put, List.setIfInBounds_toArray, List.set_cons_zero, List.set_cons_succ]; done) | (simp only [putAll, Act.put, List.setIfInBounds_toArray, List.set_cons_zero, List.set_cons_succ]; rfl)) (hJ11_19 () _ ⟨hHeld, (pk BK394.out), (pl1 HB.out GE394.out)⟩)
                 ·skip
                  rintro v397 w18 ⟨hS_, h0_, h1_, h2_⟩
                  have n0_ : Aside0 (Kd.R (Kd.int .u8) 5 w18 w.heap.size (fun _ => True) v397 y396) := ⟨h0_⟩
                  have n1_ : Aside0 (w18.heap[gb394]? = some (.cells #[.int .i64 a0_0, .string a0_1, .string a0_2, .int .i64 a0_3, .int .i64 a0_4] 34 (0, 0))) := ⟨h1_⟩
                  have n2_ : Aside0 (Below w.heap.size w w18) := ⟨h2_⟩
                  clear BK394
                  clear HB
                  clear h0_ h1_ h2_
                  have HO398 := n0_
                  have BK394 := n1_
                  have HB := n2_
                  clear n0_ n1_ n2_
                  have hHeld : w18.cell? ⟨gb394, 0, none⟩ = some (.int .i64 a0_0) ∧ w18.cell? ⟨gb394, 1, none⟩ = some (.string a0_1) ∧ w18.cell? ⟨gb394, 2, none⟩ = some (.string a0_2) ∧ w18.cell? ⟨gb394, 3, none⟩ = some (.int .i64 a0_3) ∧ w18.cell? ⟨gb394, 4, none⟩ = some (.int .i64 a0_4) := hS_
                  refine norm_ (a' := ?_) ?_ ?_
                  rotate_left
                  ·simp only [putAll, Act.put, List.setIfInBounds_toArray, List.set_cons_zero, List.set_cons_succ]
                   rfl
                  refine two_ (i := 7) (j := 11) (Ni := some 14) (Nj := some 18) #[Y,Y,Y,Y,Y,Y,Y,Y,Y,Y,Y,O,O,Y,Y,O,Y,Y,Y,O,O,Y,Y,O,Y,Y,O,O,O,O] #[Y,Y,Y,Y,Y,Y,Y,O,Y,Y,Y,Y,O,Y,Y,O,Y,Y,Y,O,O,Y,Y,O,Y,Y,O,O,O,O] rfl rfl rfl rfl (two_of HT_.out (by kernel_rfl)) (by decide) (by decide) (fun K hK => ?_) (fun K hK => ?_)
                  ·skip
                   have hcv19 := own_string (P := Tryd.prog) Tryd.underlying22 Tryd.underlying5 Tryd.underlying9 (Kd.own_of_R HO398.out)
                   refine value_ (w1 := ?_) (v := ?_) (by rfl) rfl ?_ ?_
                   rotate_left 2
                   ·go_simp
                    constructor
                    ·rfl
                    ·rfl
                   clear hcv19
                   refine hK.out _ _ ⟨(blk_cell BK394.out 0).trans rfl, (blk_cell BK394.out 1).trans rfl, (blk_cell BK394.out 2).trans rfl, (blk_cell BK394.out 3).trans rfl, (blk_cell BK394.out 4).trans rfl⟩ (fun hHeld => ?_)
                   clear hK K
                   refine norm_ (a' := ?_) ?_ ?_
                   rotate_left
                   ·show Act.put _ (some 14) _ = _
                    simp only [Act.put, List.setIfInBounds_toArray, List.set_cons_zero, List.set_cons_succ, i64_w, i32_w]
                    rfl
                   exact norm_ (by first | (simp only [putAll, Act.put, List.setIfInBounds_toArray, List.set_cons_zero, List.set_cons_succ]; done) | (simp only [putAll, Act.put, List.setIfInBounds_toArray, List.set_cons_zero, List.set_cons_succ]; rfl)) (hJ6_7 (v397) _ ⟨hHeld, (by (with_reducible repeat (first | apply Kd.R_alloc | apply Kd.R_drewN | apply Kd.R_drew)); exact HO398.out), (pk BK394.out), (pl1 HB.out GE394.out)⟩)
                  ·skip
                   refine goes_ Tryd.func54 (by kernel_rfl) rfl #[.int .i64 (a0_1.size : Int)] (by rfl) rfl rfl (by (try simp only [List.map_toArray, List.map_cons, List.map_nil]); first | done | rfl | (simp only [List.length_drop, List.length_take]; rfl)) ?_
                   with_reducible refine (spec_l01Var.calls k (a0_1.size : Int) t399 _ A4.out).mono ?_
                   rintro e w19 ⟨rfl, hb⟩
                   refine ⟨_, rfl, ?_⟩
                   replace HO398 := Aside0.mk (Kd.R_below (by (with_reducible repeat (first | apply Kd.R_alloc | apply Kd.R_drewN | apply Kd.R_drew)); exact HO398.out) hb)
                   replace BK394 := Aside0.mk (pb BK394.out hb)
                   replace HB := Aside0.mk (below_step (pl1 HB.out GE394.out) hb)
                   (try clear hb)
                   (try clear hb2)
                   (try clear hk)
                   (try clear hi)
                   refine hK.out _ _ ⟨(blk_cell BK394.out 0).trans rfl, (blk_cell BK394.out 1).trans rfl, (blk_cell BK394.out 2).trans rfl, (blk_cell BK394.out 3).trans rfl, (blk_cell BK394.out 4).trans rfl⟩ (fun hHeld => ?_)
                   clear hK K
                   refine norm_ (a' := ?_) ?_ ?_
                   rotate_left
                   ·show Act.put _ (some 18) _ = _
                    simp only [Act.put, List.setIfInBounds_toArray, List.set_cons_zero, List.set_cons_succ, i64_w, i32_w]
                    rfl
                   exact norm_ (by first | (simp only [putAll, Act.put, List.setIfInBounds_toArray, List.set_cons_zero, List.set_cons_succ]; done) | (simp only [putAll, Act.put, List.setIfInBounds_toArray, List.set_cons_zero, List.set_cons_succ]; rfl)) (hJ6_11 (v397) _ ⟨hHeld, (by (with_reducible repeat (first | apply Kd.R_alloc | apply Kd.R_drewN | apply Kd.R_drew)); exact HO398.out), (pk BK394.out), (pl1 HB.out GE394.out)⟩)
                ·skip
                 rintro _ w18 ⟨hS_, h0_, h1_⟩
                 have n0_ : Aside0 (w18.heap[gb394]? = some (.cells #[.int .i64 a0_0, .string a0_1, .string a0_2, .int .i64 a0_3, .int .i64 a0_4] 34 (0, 0))) := ⟨h0_⟩
                 have n1_ : Aside0 (Below w.heap.size w w18) := ⟨h1_⟩
                 clear BK394
                 clear HB
                 clear h0_ h1_
                 have BK394 := n0_
                 have HB := n1_
                 clear n0_ n1_
                 have hHeld : w18.cell? ⟨gb394, 0, none⟩ = some (.int .i64 a0_0) ∧ w18.cell? ⟨gb394, 1, none⟩ = some (.string a0_1) ∧ w18.cell? ⟨gb394, 2, none⟩ = some (.string a0_2) ∧ w18.cell? ⟨gb394, 3, none⟩ = some (.int .i64 a0_3) ∧ w18.cell? ⟨gb394, 4, none⟩ = some (.int .i64 a0_4) := hS_
                 refine norm_ (a' := ?_) ?_ ?_
                 rotate_left
                 ·simp only [putAll, Act.put, List.setIfInBounds_toArray, List.set_cons_zero, List.set_cons_succ]
                  rfl
                 refine two_ (i := 6) (j := 26) (Ni := some 13) (Nj := some 33) #[Y,Y,Y,Y,Y,Y,Y,O,Y,Y,Y,Y,O,Y,Y,O,Y,Y,Y,Y,O,Y,Y,O,Y,Y,O,O,O,O] #[Y,Y,Y,Y,Y,Y,O,O,Y,Y,Y,Y,O,Y,Y,O,Y,Y,Y,Y,O,Y,Y,O,Y,Y,Y,O,O,O] rfl rfl rfl rfl (two_of HT_.out (by kernel_rfl)) (by decide) (by decide) (fun K hK => ?_) (fun K hK => ?_)
                 ·skip
                  refine Kd.R_lit_step (Kd.int .u8) _ 5 ?hg (N := 13) ?hd (xs := ([(a0_0) % 256, (a0_4) % 256] : List Int)) (inner := [.int .u8 ((a0_0) % 256), .int .u8 ((a0_4) % 256)]) (ok := fun _ => True) (okp := fun _ => True) ?hr ?hp (fun _ hk => hk) trivial (Below.refl _ _) (Nat.le_refl _) (by simp) ?_; (case hd => rfl); (case hg => rfl); (case hr => first | (go_simp; done) | (go_simp; rfl)); (case hp => exact (Reps.one (show Kd.M (Kd.int .u8) _ _ _ ((a0_0) % 256) [.int .u8 ((a0_0) % 256)] from rfl) (Reps.one (show Kd.M (Kd.int .u8) _ _ _ ((a0_4) % 256) [.int .u8 ((a0_4) % 256)] from rfl) (Reps.none _ _))))
                  intro v397 w19 ho20 hb hg_ hnew_
                  clear hg_ hnew_
                  (first | rw [← Ny396.out] at ho20 | (simp only [Int.reduceToNat] at ho20; rw [← Ny396.out] at ho20))
                  have n0_ := Aside0.mk (Kd.R_lower ho20 (below_size (pl1 HB.out GE394.out)))
                  have n1_ := Aside0.mk (pb BK394.out hb)
                  have n2_ := Aside0.mk (below_step (pl1 HB.out GE394.out) hb)
                  clear BK394
                  clear HB
                  have HO398 := n0_
                  have BK394 := n1_
                  have HB := n2_
                  clear n0_ n1_ n2_
                  clear hb ho20
                  refine hK.out _ _ ⟨(blk_cell BK394.out 0).trans rfl, (blk_cell BK394.out 1).trans rfl, (blk_cell BK394.out 2).trans rfl, (blk_cell BK394.out 3).trans rfl, (blk_cell BK394.out 4).trans rfl⟩ (fun hHeld => ?_)
                  clear hK K
                  refine norm_ (a' := ?_) ?_ ?_
                  rotate_left
                  ·show Act.put _ (some 13) _ = _
                   simp only [Act.put, List.setIfInBounds_toArray, List.set_cons_zero, List.set_cons_succ, i64_w, i32_w]
                   rfl
                  exact norm_ (by first | (simp only [putAll, Act.put, List.setIfInBounds_toArray, List.set_cons_zero, List.set_cons_succ]; done) | (simp only [putAll, Act.put, List.setIfInBounds_toArray, List.set_cons_zero, List.set_cons_succ]; rfl)) (hJ6_11_19 (v397) _ ⟨hHeld, (by (with_reducible repeat (first | apply Kd.R_alloc | apply Kd.R_drewN | apply Kd.R_drew)); exact HO398.out), (pk BK394.out), (pl1 HB.out GE394.out)⟩)
                 ·skip
                  refine goes_ Tryd.func54 (by kernel_rfl) rfl #[.int .i64 a0_3] (by rfl) rfl rfl (by (try simp only [List.map_toArray, List.map_cons, List.map_nil]); first | done | rfl | (simp only [List.length_drop, List.length_take]; rfl)) ?_
                  with_reducible refine (spec_l01Var.calls k a0_3 t401 _ A10.out).mono ?_
                  rintro e w19 ⟨rfl, hb⟩
                  refine ⟨_, rfl, ?_⟩
                  replace BK394 := Aside0.mk (pb BK394.out hb)
                  replace HB := Aside0.mk (below_step (pl1 HB.out GE394.out) hb)
                  (try clear hb)
                  (try clear hb2)
                  (try clear hk)
                  (try clear hi)
                  refine hK.out _ _ ⟨(blk_cell BK394.out 0).trans rfl, (blk_cell BK394.out 1).trans rfl, (blk_cell BK394.out 2).trans rfl, (blk_cell BK394.out 3).trans rfl, (blk_cell BK394.out 4).trans rfl⟩ (fun hHeld => ?_)
                  clear hK K
                  refine norm_ (a' := ?_) ?_ ?_
                  rotate_left
                  ·show Act.put _ (some 33) _ = _
                   simp only [Act.put, List.setIfInBounds_toArray, List.set_cons_zero, List.set_cons_succ, i64_w, i32_w]
                   rfl
                  exact norm_ (by first | (simp only [putAll, Act.put, List.setIfInBounds_toArray, List.set_cons_zero, List.set_cons_succ]; done) | (simp only [putAll, Act.put, List.setIfInBounds_toArray, List.set_cons_zero, List.set_cons_succ]; rfl)) (hJ11_19_26 () _ ⟨hHeld, (pk BK394.out), (pl1 HB.out GE394.out)⟩)
               ·skip
                rintro v397 w19 ⟨hS_, h0_, h1_, h2_⟩
                have n0_ : Aside0 (Kd.R (Kd.int .u8) 5 w19 w.heap.size (fun _ => True) v397 y396) := ⟨h0_⟩
                have n1_ : Aside0 (w19.heap[gb394]? = some (.cells #[.int .i64 a0_0, .string a0_1, .string a0_2, .int .i64 a0_3, .int .i64 a0_4] 34 (0, 0))) := ⟨h1_⟩
                have n2_ : Aside0 (Below w.heap.size w w19) := ⟨h2_⟩
                clear BK394
                clear HB
                clear h0_ h1_ h2_
                have HO398 := n0_
                have BK394 := n1_
                have HB := n2_
                clear n0_ n1_ n2_
                have hHeld : w19.cell? ⟨gb394, 0, none⟩ = some (.int .i64 a0_0) ∧ w19.cell? ⟨gb394, 1, none⟩ = some (.string a0_1) ∧ w19.cell? ⟨gb394, 2, none⟩ = some (.string a0_2) ∧ w19.cell? ⟨gb394, 3, none⟩ = some (.int .i64 a0_3) ∧ w19.cell? ⟨gb394, 4, none⟩ = some (.int .i64 a0_4) := hS_
                refine norm_ (a' := ?_) ?_ ?_
                rotate_left
                ·simp only [putAll, Act.put, List.setIfInBounds_toArray, List.set_cons_zero, List.set_cons_succ]
                 rfl
                refine two_ (i := 7) (j := 19) (Ni := some 14) (Nj := some 26) #[Y,Y,Y,Y,Y,Y,Y,Y,Y,Y,Y,Y,O,Y,Y,O,Y,Y,Y,O,O,Y,Y,O,Y,Y,O,O,O,O] #[Y,Y,Y,Y,Y,Y,Y,O,Y,Y,Y,Y,O,Y,Y,O,Y,Y,Y,Y,O,Y,Y,O,Y,Y,O,O,O,O] rfl rfl rfl rfl (two_of HT_.out (by kernel_rfl)) (by decide) (by decide) (fun K hK => ?_) (fun K hK => ?_)
                ·skip
                 have hcv20 := own_string (P := Tryd.prog) Tryd.underlying22 Tryd.underlying5 Tryd.underlying9 (Kd.own_of_R HO398.out)
                 refine value_ (w1 := ?_) (v := ?_) (by rfl) rfl ?_ ?_
                 rotate_left 2
                 ·go_simp
                  constructor
                  ·rfl
                  ·rfl
                 clear hcv20
                 refine hK.out _ _ ⟨(blk_cell BK394.out 0).trans rfl, (blk_cell BK394.out 1).trans rfl, (blk_cell BK394.out 2).trans rfl, (blk_cell BK394.out 3).trans rfl, (blk_cell BK394.out 4).trans rfl⟩ (fun hHeld => ?_)
                 clear hK K
                 refine norm_ (a' := ?_) ?_ ?_
                 rotate_left
                 ·show Act.put _ (some 14) _ = _
                  simp only [Act.put, List.setIfInBounds_toArray, List.set_cons_zero, List.set_cons_succ, i64_w, i32_w]
                  rfl
                 refine pure_ (i := 12) (N := some 19) (v := ?_) (a' := ?_) #[Y,Y,Y,Y,Y,Y,Y,Y,Y,Y,Y,Y,Y,Y,Y,O,Y,Y,Y,O,O,Y,Y,O,Y,Y,O,O,O,O] rfl rfl (any_of HT_.out (by kernel_rfl)) (fun _ _ _ h => h) (Or.inl ⟨by rfl, ?_⟩) ?_ ?_
                 rotate_left
                 ·intro w'
                  go_simp
                  with_reducible rfl
                 rotate_left
                 ·simp only [Act.put, List.setIfInBounds_toArray, List.set_cons_zero, List.set_cons_succ, i64_w, i32_w]
                  rfl
                 refine pure_ (i := 15) (N := some 22) (v := ?_) (a' := ?_) #[Y,Y,Y,Y,Y,Y,Y,Y,Y,Y,Y,Y,Y,Y,Y,Y,Y,Y,Y,O,O,Y,Y,O,Y,Y,O,O,O,O] rfl rfl (any_of HT_.out (by kernel_rfl)) (fun _ _ _ h => h) (Or.inl ⟨by rfl, ?_⟩) ?_ ?_
                 rotate_left
                 ·intro w'
                  go_simp
                  with_reducible rfl
                 rotate_left
                 ·simp only [Act.put, List.setIfInBounds_toArray, List.set_cons_zero, List.set_cons_succ, i64_w, i32_w]
                  rfl
                 exact norm_ (by first | (simp only [putAll, Act.put, List.setIfInBounds_toArray, List.set_cons_zero, List.set_cons_succ]; done) | (simp only [putAll, Act.put, List.setIfInBounds_toArray, List.set_cons_zero, List.set_cons_succ]; rfl)) (hJ6_7_11 (v397) _ ⟨hHeld, (by (with_reducible repeat (first | apply Kd.R_alloc | apply Kd.R_drewN | apply Kd.R_drew)); exact HO398.out), (pk BK394.out), (pl1 HB.out GE394.out)⟩)
                ·skip
                 refine goes_ Tryd.func54 (by kernel_rfl) rfl #[.int .i64 (a0_2.size : Int)] (by rfl) rfl rfl (by (try simp only [List.map_toArray, List.map_cons, List.map_nil]); first | done | rfl | (simp only [List.length_drop, List.length_take]; rfl)) ?_
                 with_reducible refine (spec_l01Var.calls k (a0_2.size : Int) t400 _ A7.out).mono ?_
                 rintro e w20 ⟨rfl, hb⟩
                 refine ⟨_, rfl, ?_⟩
                 replace HO398 := Aside0.mk (Kd.R_below (by (with_reducible repeat (first | apply Kd.R_alloc | apply Kd.R_drewN | apply Kd.R_drew)); exact HO398.out) hb)
                 replace BK394 := Aside0.mk (pb BK394.out hb)
                 replace HB := Aside0.mk (below_step (pl1 HB.out GE394.out) hb)
                 (try clear hb)
                 (try clear hb2)
                 (try clear hk)
                 (try clear hi)
                 refine hK.out _ _ ⟨(blk_cell BK394.out 0).trans rfl, (blk_cell BK394.out 1).trans rfl, (blk_cell BK394.out 2).trans rfl, (blk_cell BK394.out 3).trans rfl, (blk_cell BK394.out 4).trans rfl⟩ (fun hHeld => ?_)
                 clear hK K
                 refine norm_ (a' := ?_) ?_ ?_
                 rotate_left
                 ·show Act.put _ (some 26) _ = _
                  simp only [Act.put, List.setIfInBounds_toArray, List.set_cons_zero, List.set_cons_succ, i64_w, i32_w]
                  rfl
                 exact norm_ (by first | (simp only [putAll, Act.put, List.setIfInBounds_toArray, List.set_cons_zero, List.set_cons_succ]; done) | (simp only [putAll, Act.put, List.setIfInBounds_toArray, List.set_cons_zero, List.set_cons_succ]; rfl)) (hJ6_11_19 (v397) _ ⟨hHeld, (by (with_reducible repeat (first | apply Kd.R_alloc | apply Kd.R_drewN | apply Kd.R_drew)); exact HO398.out), (pk BK394.out), (pl1 HB.out GE394.out)⟩)
              ·skip
               rintro v397 w19 ⟨hS_, h0_, h1_, h2_⟩
               have n0_ : Aside0 (Kd.R (Kd.int .u8) 5 w19 w.heap.size (fun _ => True) v397 y396) := ⟨h0_⟩
               have n1_ : Aside0 (w19.heap[gb394]? = some (.cells #[.int .i64 a0_0, .string a0_1, .string a0_2, .int .i64 a0_3, .int .i64 a0_4] 34 (0, 0))) := ⟨h1_⟩
               have n2_ : Aside0 (Below w.heap.size w w19) := ⟨h2_⟩
               clear BK394
               clear HB
               clear h0_ h1_ h2_
               have HO398 := n0_
               have BK394 := n1_
               have HB := n2_
               clear n0_ n1_ n2_
               have hHeld : w19.cell? ⟨gb394, 0, none⟩ = some (.int .i64 a0_0) ∧ w19.cell? ⟨gb394, 1, none⟩ = some (.string a0_1) ∧ w19.cell? ⟨gb394, 2, none⟩ = some (.string a0_2) ∧ w19.cell? ⟨gb394, 3, none⟩ = some (.int .i64 a0_3) ∧ w19.cell? ⟨gb394, 4, none⟩ = some (.int .i64 a0_4) := hS_
               refine norm_ (a' := ?_) ?_ ?_
               rotate_left
               ·simp only [putAll, Act.put, List.setIfInBounds_toArray, List.set_cons_zero, List.set_cons_succ]
                rfl
               refine one_ (i := 11) (N := some 18) #[Y,Y,Y,Y,Y,Y,Y,Y,Y,Y,Y,Y,O,Y,Y,O,Y,Y,Y,O,O,Y,Y,O,Y,Y,O,O,O,O] rfl rfl (one_of HT_.out (by kernel_rfl)) (by decide) (fun K hK => ?_)
               refine goes_ Tryd.func54 (by kernel_rfl) rfl #[.int .i64 (a0_1.size : Int)] (by rfl) rfl rfl (by (try simp only [List.map_toArray, List.map_cons, List.map_nil]); first | done | rfl | (simp only [List.length_drop, List.length_take]; rfl)) ?_
               with_reducible refine (spec_l01Var.calls k (a0_1.size : Int) t399 _ A4.out).mono ?_
               rintro e w20 ⟨rfl, hb⟩
               refine ⟨_, rfl, ?_⟩
               replace HO398 := Aside0.mk (Kd.R_below (by (with_reducible repeat (first | apply Kd.R_alloc | apply Kd.R_drewN | apply Kd.R_drew)); exact HO398.out) hb)
               replace BK394 := Aside0.mk (pb BK394.out hb)
               replace HB := Aside0.mk (below_step (pl1 HB.out GE394.out) hb)
               (try clear hb)
               (try clear hb2)
               (try clear hk)
               (try clear hi)
               refine hK.out _ _ ⟨(blk_cell BK394.out 0).trans rfl, (blk_cell BK394.out 1).trans rfl, (blk_cell BK394.out 2).trans rfl, (blk_cell BK394.out 3).trans rfl, (blk_cell BK394.out 4).trans rfl⟩ (fun hHeld => ?_)
               clear hK K
               refine norm_ (a' := ?_) ?_ ?_
               rotate_left
               ·show Act.put _ (some 18) _ = _
                simp only [Act.put, List.setIfInBounds_toArray, List.set_cons_zero, List.set_cons_succ, i64_w, i32_w]
                rfl
               refine pure_ (i := 12) (N := some 19) (v := ?_) (a' := ?_) #[Y,Y,Y,Y,Y,Y,Y,Y,Y,Y,Y,Y,Y,Y,Y,O,Y,Y,Y,O,O,Y,Y,O,Y,Y,O,O,O,O] rfl rfl (any_of HT_.out (by kernel_rfl)) (fun _ _ _ h => h) (Or.inl ⟨by rfl, ?_⟩) ?_ ?_
               rotate_left
               ·intro w'
                go_simp
                with_reducible rfl
               rotate_left
               ·simp only [Act.put, List.setIfInBounds_toArray, List.set_cons_zero, List.set_cons_succ, i64_w, i32_w]
                rfl
               refine pure_ (i := 15) (N := some 22) (v := ?_) (a' := ?_) #[Y,Y,Y,Y,Y,Y,Y,Y,Y,Y,Y,Y,Y,Y,Y,Y,Y,Y,Y,O,O,Y,Y,O,Y,Y,O,O,O,O] rfl rfl (any_of HT_.out (by kernel_rfl)) (fun _ _ _ h => h) (Or.inl ⟨by rfl, ?_⟩) ?_ ?_
               rotate_left
               ·intro w'
                go_simp
                with_reducible rfl
               rotate_left
               ·simp only [Act.put, List.setIfInBounds_toArray, List.set_cons_zero, List.set_cons_succ, i64_w, i32_w]
                rfl
               exact norm_ (by first | (simp only [putAll, Act.put, List.setIfInBounds_toArray, List.set_cons_zero, List.set_cons_succ]; done) | (simp only [putAll, Act.put, List.setIfInBounds_toArray, List.set_cons_zero, List.set_cons_succ]; rfl)) (hJ6_7_11 (v397) _ ⟨hHeld, (by (with_reducible repeat (first | apply Kd.R_alloc | apply Kd.R_drewN | apply Kd.R_drew)); exact HO398.out), (pk BK394.out), (pl1 HB.out GE394.out)⟩)
             ·skip
              rintro _ w19 ⟨hS_, h0_, h1_⟩
              have n0_ : Aside0 (w19.heap[gb394]? = some (.cells #[.int .i64 a0_0, .string a0_1, .string a0_2, .int .i64 a0_3, .int .i64 a0_4] 34 (0, 0))) := ⟨h0_⟩
              have n1_ : Aside0 (Below w.heap.size w w19) := ⟨h1_⟩
              clear BK394
              clear HB
              clear h0_ h1_
              have BK394 := n0_
              have HB := n1_
              clear n0_ n1_
              have hHeld : w19.cell? ⟨gb394, 0, none⟩ = some (.int .i64 a0_0) ∧ w19.cell? ⟨gb394, 1, none⟩ = some (.string a0_1) ∧ w19.cell? ⟨gb394, 2, none⟩ = some (.string a0_2) ∧ w19.cell? ⟨gb394, 3, none⟩ = some (.int .i64 a0_3) ∧ w19.cell? ⟨gb394, 4, none⟩ = some (.int .i64 a0_4) := hS_
              refine norm_ (a' := ?_) ?_ ?_
              rotate_left
              ·simp only [putAll, Act.put, List.setIfInBounds_toArray, List.set_cons_zero, List.set_cons_succ]
               rfl
              refine one_ (i := 6) (N := some 13) #[Y,Y,Y,Y,Y,Y,Y,O,Y,Y,Y,Y,O,Y,Y,O,Y,Y,Y,Y,O,Y,Y,O,Y,Y,Y,O,O,O] rfl rfl (one_of HT_.out (by kernel_rfl)) (by decide) (fun K hK => ?_)
              refine Kd.R_lit_step (Kd.int .u8) _ 5 ?hg (N := 13) ?hd (xs := ([(a0_0) % 256, (a0_4) % 256] : List Int)) (inner := [.int .u8 ((a0_0) % 256), .int .u8 ((a0_4) % 256)]) (ok := fun _ => True) (okp := fun _ => True) ?hr ?hp (fun _ hk => hk) trivial (Below.refl _ _) (Nat.le_refl _) (by simp) ?_; (case hd => rfl); (case hg => rfl); (case hr => first | (go_simp; done) | (go_simp; rfl)); (case hp => exact (Reps.one (show Kd.M (Kd.int .u8) _ _ _ ((a0_0) % 256) [.int .u8 ((a0_0) % 256)] from rfl) (Reps.one (show Kd.M (Kd.int .u8) _ _ _ ((a0_4) % 256) [.int .u8 ((a0_4) % 256)] from rfl) (Reps.none _ _))))
              intro v397 w20 ho21 hb hg_ hnew_
              clear hg_ hnew_
              (first | rw [← Ny396.out] at ho21 | (simp only [Int.reduceToNat] at ho21; rw [← Ny396.out] at ho21))
              have n0_ := Aside0.mk (Kd.R_lower ho21 (below_size (pl1 HB.out GE394.out)))
              have n1_ := Aside0.mk (pb BK394.out hb)
              have n2_ := Aside0.mk (below_step (pl1 HB.out GE394.out) hb)
              clear BK394
              clear HB
              have HO398 := n0_
              have BK394 := n1_
              have HB := n2_
              clear n0_ n1_ n2_
              clear hb ho21
              refine hK.out _ _ ⟨(blk_cell BK394.out 0).trans rfl, (blk_cell BK394.out 1).trans rfl, (blk_cell BK394.out 2).trans rfl, (blk_cell BK394.out 3).trans rfl, (blk_cell BK394.out 4).trans rfl⟩ (fun hHeld => ?_)
              clear hK K
              refine norm_ (a' := ?_) ?_ ?_
              rotate_left
              ·show Act.put _ (some 13) _ = _
               simp only [Act.put, List.setIfInBounds_toArray, List.set_cons_zero, List.set_cons_succ, i64_w, i32_w]
               rfl
              exact norm_ (by first | (simp only [putAll, Act.put, List.setIfInBounds_toArray, List.set_cons_zero, List.set_cons_succ]; done) | (simp only [putAll, Act.put, List.setIfInBounds_toArray, List.set_cons_zero, List.set_cons_succ]; rfl)) (hJ6_11_19_26 (v397) _ ⟨hHeld, (by (with_reducible repeat (first | apply Kd.R_alloc | apply Kd.R_drewN | apply Kd.R_drew)); exact HO398.out), (pk BK394.out), (pl1 HB.out GE394.out)⟩)
            ·skip
             rintro v397 w20 ⟨hS_, h0_, h1_, h2_⟩
             have n0_ : Aside0 (Kd.R (Kd.int .u8) 5 w20 w.heap.size (fun _ => True) v397 y396) := ⟨h0_⟩
             have n1_ : Aside0 (w20.heap[gb394]? = some (.cells #[.int .i64 a0_0, .string a0_1, .string a0_2, .int .i64 a0_3, .int .i64 a0_4] 34 (0, 0))) := ⟨h1_⟩
             have n2_ : Aside0 (Below w.heap.size w w20) := ⟨h2_⟩
             clear BK394
             clear HB
             clear h0_ h1_ h2_
             have HO398 := n0_
             have BK394 := n1_
             have HB := n2_
             clear n0_ n1_ n2_
             have hHeld : w20.cell? ⟨gb394, 0, none⟩ = some (.int .i64 a0_0) ∧ w20.cell? ⟨gb394, 1, none⟩ = some (.string a0_1) ∧ w20.cell? ⟨gb394, 2, none⟩ = some (.string a0_2) ∧ w20.cell? ⟨gb394, 3, none⟩ = some (.int .i64 a0_3) ∧ w20.cell? ⟨gb394, 4, none⟩ = some (.int .i64 a0_4) := hS_
             refine norm_ (a' := ?_) ?_ ?_
             rotate_left
             ·simp only [putAll, Act.put, List.setIfInBounds_toArray, List.set_cons_zero, List.set_cons_succ]
              rfl
             refine two_ (i := 7) (j := 26) (Ni := some 14) (Nj := some 33) #[Y,Y,Y,Y,Y,Y,Y,Y,Y,Y,Y,Y,O,Y,Y,O,Y,Y,Y,Y,O,Y,Y,O,Y,Y,O,O,O,O] #[Y,Y,Y,Y,Y,Y,Y,O,Y,Y,Y,Y,O,Y,Y,O,Y,Y,Y,Y,O,Y,Y,O,Y,Y,Y,O,O,O] rfl rfl rfl rfl (two_of HT_.out (by kernel_rfl)) (by decide) (by decide) (fun K hK => ?_) (fun K hK => ?_)
             ·skip
              have hcv21 := own_string (P := Tryd.prog) Tryd.underlying22 Tryd.underlying5 Tryd.underlying9 (Kd.own_of_R HO398.out)
              refine value_ (w1 := ?_) (v := ?_) (by rfl) rfl ?_ ?_
              rotate_left 2
              ·go_simp
               constructor
               ·rfl
               ·rfl
              clear hcv21
              refine hK.out _ _ ⟨(blk_cell BK394.out 0).trans rfl, (blk_cell BK394.out 1).trans rfl, (blk_cell BK394.out 2).trans rfl, (blk_cell BK394.out 3).trans rfl, (blk_cell BK394.out 4).trans rfl⟩ (fun hHeld => ?_)
              clear hK K
              refine norm_ (a' := ?_) ?_ ?_
              rotate_left
              ·show Act.put _ (some 14) _ = _
               simp only [Act.put, List.setIfInBounds_toArray, List.set_cons_zero, List.set_cons_succ, i64_w, i32_w]
               rfl
              refine pure_ (i := 12) (N := some 19) (v := ?_) (a' := ?_) #[Y,Y,Y,Y,Y,Y,Y,Y,Y,Y,Y,Y,Y,Y,Y,O,Y,Y,Y,Y,O,Y,Y,O,Y,Y,O,O,O,O] rfl rfl (any_of HT_.out (by kernel_rfl)) (fun _ _ _ h => h) (Or.inl ⟨by rfl, ?_⟩) ?_ ?_
              rotate_left
              ·intro w'
               go_simp
               with_reducible rfl
              rotate_left
              ·simp only [Act.put, List.setIfInBounds_toArray, List.set_cons_zero, List.set_cons_succ, i64_w, i32_w]
               rfl
              refine pure_ (i := 15) (N := some 22) (v := ?_) (a' := ?_) #[Y,Y,Y,Y,Y,Y,Y,Y,Y,Y,Y,Y,Y,Y,Y,Y,Y,Y,Y,Y,O,Y,Y,O,Y,Y,O,O,O,O] rfl rfl (any_of HT_.out (by kernel_rfl)) (fun _ _ _ h => h) (Or.inl ⟨by rfl, ?_⟩) ?_ ?_
              rotate_left
              ·intro w'
               go_simp
               with_reducible rfl
              rotate_left
              ·simp only [Act.put, List.setIfInBounds_toArray, List.set_cons_zero, List.set_cons_succ, i64_w, i32_w]
               rfl
              refine pure_ (i := 20) (N := some 27) (v := ?_) (a' := ?_) #[Y,Y,Y,Y,Y,Y,Y,Y,Y,Y,Y,Y,Y,Y,Y,Y,Y,Y,Y,Y,Y,Y,Y,O,Y,Y,O,O,O,O] rfl rfl (any_of HT_.out (by kernel_rfl)) (fun _ _ _ h => h) (Or.inl ⟨by rfl, ?_⟩) ?_ ?_
              rotate_left
              ·intro w'
               go_simp
               with_reducible rfl
              rotate_left
              ·simp only [Act.put, List.setIfInBounds_toArray, List.set_cons_zero, List.set_cons_succ, i64_w, i32_w]
               rfl
              refine pure_ (i := 23) (N := some 30) (v := ?_) (a' := ?_) #[Y,Y,Y,Y,Y,Y,Y,Y,Y,Y,Y,Y,Y,Y,Y,Y,Y,Y,Y,Y,Y,Y,Y,Y,Y,Y,O,O,O,O] rfl rfl (any_of HT_.out (by kernel_rfl)) (fun _ _ _ h => h) (Or.inl ⟨by rfl, ?_⟩) ?_ ?_
              rotate_left
              ·intro w'
               go_simp
               with_reducible rfl
              rotate_left
              ·simp only [Act.put, List.setIfInBounds_toArray, List.set_cons_zero, List.set_cons_succ, i64_w, i32_w]
               rfl
              exact norm_ (by first | (simp only [putAll, Act.put, List.setIfInBounds_toArray, List.set_cons_zero, List.set_cons_succ]; done) | (simp only [putAll, Act.put, List.setIfInBounds_toArray, List.set_cons_zero, List.set_cons_succ]; rfl)) (hJ6_7_11_19 (v397) _ ⟨hHeld, (by (with_reducible repeat (first | apply Kd.R_alloc | apply Kd.R_drewN | apply Kd.R_drew)); exact HO398.out), (pk BK394.out), (pl1 HB.out GE394.out)⟩)
             ·skip
              refine goes_ Tryd.func54 (by kernel_rfl) rfl #[.int .i64 a0_3] (by rfl) rfl rfl (by (try simp only [List.map_toArray, List.map_cons, List.map_nil]); first | done | rfl | (simp only [List.length_drop, List.length_take]; rfl)) ?_
              with_reducible refine (spec_l01Var.calls k a0_3 t401 _ A10.out).mono ?_
              rintro e w21 ⟨rfl, hb⟩
              refine ⟨_, rfl, ?_⟩
              replace HO398 := Aside0.mk (Kd.R_below (by (with_reducible repeat (first | apply Kd.R_alloc | apply Kd.R_drewN | apply Kd.R_drew)); exact HO398.out) hb)
              replace BK394 := Aside0.mk (pb BK394.out hb)
              replace HB := Aside0.mk (below_step (pl1 HB.out GE394.out) hb)
              (try clear hb)
              (try clear hb2)
              (try clear hk)
              (try clear hi)
              refine hK.out _ _ ⟨(blk_cell BK394.out 0).trans rfl, (blk_cell BK394.out 1).trans rfl, (blk_cell BK394.out 2).trans rfl, (blk_cell BK394.out 3).trans rfl, (blk_cell BK394.out 4).trans rfl⟩ (fun hHeld => ?_)
              clear hK K
              refine norm_ (a' := ?_) ?_ ?_
              rotate_left
              ·show Act.put _ (some 33) _ = _
               simp only [Act.put, List.setIfInBounds_toArray, List.set_cons_zero, List.set_cons_succ, i64_w, i32_w]
               rfl
              exact norm_ (by first | (simp only [putAll, Act.put, List.setIfInBounds_toArray, List.set_cons_zero, List.set_cons_succ]; done) | (simp only [putAll, Act.put, List.setIfInBounds_toArray, List.set_cons_zero, List.set_cons_succ]; rfl)) (hJ6_11_19_26 (v397) _ ⟨hHeld, (by (with_reducible repeat (first | apply Kd.R_alloc | apply Kd.R_drewN | apply Kd.R_drew)); exact HO398.out), (pk BK394.out), (pl1 HB.out GE394.out)⟩)
           ·skip
            rintro v397 w20 ⟨hS_, h0_, h1_, h2_⟩
            have n0_ : Aside0 (Kd.R (Kd.int .u8) 5 w20 w.heap.size (fun _ => True) v397 y396) := ⟨h0_⟩
            have n1_ : Aside0 (w20.heap[gb394]? = some (.cells #[.int .i64 a0_0, .string a0_1, .string a0_2, .int .i64 a0_3, .int .i64 a0_4] 34 (0, 0))) := ⟨h1_⟩
            have n2_ : Aside0 (Below w.heap.size w w20) := ⟨h2_⟩
            clear BK394
            clear HB
            clear h0_ h1_ h2_
            have HO398 := n0_
            have BK394 := n1_
            have HB := n2_
            clear n0_ n1_ n2_
            have hHeld : w20.cell? ⟨gb394, 0, none⟩ = some (.int .i64 a0_0) ∧ w20.cell? ⟨gb394, 1, none⟩ = some (.string a0_1) ∧ w20.cell? ⟨gb394, 2, none⟩ = some (.string a0_2) ∧ w20.cell? ⟨gb394, 3, none⟩ = some (.int .i64 a0_3) ∧ w20.cell? ⟨gb394, 4, none⟩ = some (.int .i64 a0_4) := hS_
            refine norm_ (a' := ?_) ?_ ?_
            rotate_left
            ·simp only [putAll, Act.put, List.setIfInBounds_toArray, List.set_cons_zero, List.set_cons_succ]
             rfl
            refine one_ (i := 19) (N := some 26) #[Y,Y,Y,Y,Y,Y,Y,Y,Y,Y,Y,Y,Y,Y,Y,Y,Y,Y,Y,Y,O,Y,Y,O,Y,Y,O,O,O,O] rfl rfl (one_of HT_.out (by kernel_rfl)) (by decide) (fun K hK => ?_)
            refine goes_ Tryd.func54 (by kernel_rfl) rfl #[.int .i64 (a0_2.size : Int)] (by rfl) rfl rfl (by (try simp only [List.map_toArray, List.map_cons, List.map_nil]); first | done | rfl | (simp only [List.length_drop, List.length_take]; rfl)) ?_
            with_reducible refine (spec_l01Var.calls k (a0_2.size : Int) t400 _ A7.out).mono ?_
            rintro e w21 ⟨rfl, hb⟩
            refine ⟨_, rfl, ?_⟩
            replace HO398 := Aside0.mk (Kd.R_below (by (with_reducible repeat (first | apply Kd.R_alloc | apply Kd.R_drewN | apply Kd.R_drew)); exact HO398.out) hb)
            replace BK394 := Aside0.mk (pb BK394.out hb)
            replace HB := Aside0.mk (below_step (pl1 HB.out GE394.out) hb)
            (try clear hb)
            (try clear hb2)
            (try clear hk)
            (try clear hi)
            refine hK.out _ _ ⟨(blk_cell BK394.out 0).trans rfl, (blk_cell BK394.out 1).trans rfl, (blk_cell BK394.out 2).trans rfl, (blk_cell BK394.out 3).trans rfl, (blk_cell BK394.out 4).trans rfl⟩ (fun hHeld => ?_)
            clear hK K
            refine norm_ (a' := ?_) ?_ ?_
            rotate_left
            ·show Act.put _ (some 26) _ = _
             simp only [Act.put, List.setIfInBounds_toArray, List.set_cons_zero, List.set_cons_succ, i64_w, i32_w]
             rfl
            refine pure_ (i := 20) (N := some 27) (v := ?_) (a' := ?_) #[Y,Y,Y,Y,Y,Y,Y,Y,Y,Y,Y,Y,Y,Y,Y,Y,Y,Y,Y,Y,Y,Y,Y,O,Y,Y,O,O,O,O] rfl rfl (any_of HT_.out (by kernel_rfl)) (fun _ _ _ h => h) (Or.inl ⟨by rfl, ?_⟩) ?_ ?_
            rotate_left
            ·intro w'
             go_simp
             with_reducible rfl
            rotate_left
            ·simp only [Act.put, List.setIfInBounds_toArray, List.set_cons_zero, List.set_cons_succ, i64_w, i32_w]
             rfl
            refine pure_ (i := 23) (N := some 30) (v := ?_) (a' := ?_) #[Y,Y,Y,Y,Y,Y,Y,Y,Y,Y,Y,Y,Y,Y,Y,Y,Y,Y,Y,Y,Y,Y,Y,Y,Y,Y,O,O,O,O] rfl rfl (any_of HT_.out (by kernel_rfl)) (fun _ _ _ h => h) (Or.inl ⟨by rfl, ?_⟩) ?_ ?_
            rotate_left
            ·intro w'
             go_simp
             with_reducible rfl
            rotate_left
            ·simp only [Act.put, List.setIfInBounds_toArray, List.set_cons_zero, List.set_cons_succ, i64_w, i32_w]
             rfl
            exact norm_ (by first | (simp only [putAll, Act.put, List.setIfInBounds_toArray, List.set_cons_zero, List.set_cons_succ]; done) | (simp only [putAll, Act.put, List.setIfInBounds_toArray, List.set_cons_zero, List.set_cons_succ]; rfl)) (hJ6_7_11_19 (v397) _ ⟨hHeld, (by (with_reducible repeat (first | apply Kd.R_alloc | apply Kd.R_drewN | apply Kd.R_drew)); exact HO398.out), (pk BK394.out), (pl1 HB.out GE394.out)⟩)
          ·skip
           rintro v397 w21 ⟨hS_, h0_, h1_, h2_⟩
           have n0_ : Aside0 (Kd.R (Kd.int .u8) 5 w21 w.heap.size (fun _ => True) v397 y396) := ⟨h0_⟩
           have n1_ : Aside0 (w21.heap[gb394]? = some (.cells #[.int .i64 a0_0, .string a0_1, .string a0_2, .int .i64 a0_3, .int .i64 a0_4] 34 (0, 0))) := ⟨h1_⟩
           have n2_ : Aside0 (Below w.heap.size w w21) := ⟨h2_⟩
           clear BK394
           clear HB
           clear h0_ h1_ h2_
           have HO398 := n0_
           have BK394 := n1_
           have HB := n2_
           clear n0_ n1_ n2_
           have hHeld : w21.cell? ⟨gb394, 0, none⟩ = some (.int .i64 a0_0) ∧ w21.cell? ⟨gb394, 1, none⟩ = some (.string a0_1) ∧ w21.cell? ⟨gb394, 2, none⟩ = some (.string a0_2) ∧ w21.cell? ⟨gb394, 3, none⟩ = some (.int .i64 a0_3) ∧ w21.cell? ⟨gb394, 4, none⟩ = some (.int .i64 a0_4) := hS_
           refine norm_ (a' := ?_) ?_ ?_
           rotate_left
           ·simp only [putAll, Act.put, List.setIfInBounds_toArray, List.set_cons_zero, List.set_cons_succ]
            rfl
           refine one_ (i := 7) (N := some 14) #[Y,Y,Y,Y,Y,Y,Y,Y,Y,Y,Y,Y,O,Y,Y,O,Y,Y,Y,Y,O,Y,Y,O,Y,Y,Y,O,O,O] rfl rfl (one_of HT_.out (by kernel_rfl)) (by decide) (fun K hK => ?_)
           have hcv22 := own_string (P := Tryd.prog) Tryd.underlying22 Tryd.underlying5 Tryd.underlying9 (Kd.own_of_R HO398.out)
           refine value_ (w1 := ?_) (v := ?_) (by rfl) rfl ?_ ?_
           rotate_left 2
           ·go_simp
            constructor
            ·rfl
            ·rfl
           clear hcv22
           refine hK.out _ _ ⟨(blk_cell BK394.out 0).trans rfl, (blk_cell BK394.out 1).trans rfl, (blk_cell BK394.out 2).trans rfl, (blk_cell BK394.out 3).trans rfl, (blk_cell BK394.out 4).trans rfl⟩ (fun hHeld => ?_)
           clear hK K
           refine norm_ (a' := ?_) ?_ ?_
           rotate_left
           ·show Act.put _ (some 14) _ = _
            simp only [Act.put, List.setIfInBounds_toArray, List.set_cons_zero, List.set_cons_succ, i64_w, i32_w]
            rfl
           refine pure_ (i := 12) (N := some 19) (v := ?_) (a' := ?_) #[Y,Y,Y,Y,Y,Y,Y,Y,Y,Y,Y,Y,Y,Y,Y,O,Y,Y,Y,Y,O,Y,Y,O,Y,Y,Y,O,O,O] rfl rfl (any_of HT_.out (by kernel_rfl)) (fun _ _ _ h => h) (Or.inl ⟨by rfl, ?_⟩) ?_ ?_
           rotate_left
           ·intro w'
            go_simp
            with_reducible rfl
           rotate_left
           ·simp only [Act.put, List.setIfInBounds_toArray, List.set_cons_zero, List.set_cons_succ, i64_w, i32_w]
            rfl
           refine pure_ (i := 15) (N := some 22) (v := ?_) (a' := ?_) #[Y,Y,Y,Y,Y,Y,Y,Y,Y,Y,Y,Y,Y,Y,Y,Y,Y,Y,Y,Y,O,Y,Y,O,Y,Y,Y,O,O,O] rfl rfl (any_of HT_.out (by kernel_rfl)) (fun _ _ _ h => h) (Or.inl ⟨by rfl, ?_⟩) ?_ ?_
           rotate_left
           ·intro w'
            go_simp
            with_reducible rfl
           rotate_left
           ·simp only [Act.put, List.setIfInBounds_toArray, List.set_cons_zero, List.set_cons_succ, i64_w, i32_w]
            rfl
           refine pure_ (i := 20) (N := some 27) (v := ?_) (a' := ?_) #[Y,Y,Y,Y,Y,Y,Y,Y,Y,Y,Y,Y,Y,Y,Y,Y,Y,Y,Y,Y,Y,Y,Y,O,Y,Y,Y,O,O,O] rfl rfl (any_of HT_.out (by kernel_rfl)) (fun _ _ _ h => h) (Or.inl ⟨by rfl, ?_⟩) ?_ ?_
           rotate_left
           ·intro w'
            go_simp
            with_reducible rfl
           rotate_left
           ·simp only [Act.put, List.setIfInBounds_toArray, List.set_cons_zero, List.set_cons_succ, i64_w, i32_w]
            rfl
           refine pure_ (i := 23) (N := some 30) (v := ?_) (a' := ?_) #[Y,Y,Y,Y,Y,Y,Y,Y,Y,Y,Y,Y,Y,Y,Y,Y,Y,Y,Y,Y,Y,Y,Y,Y,Y,Y,Y,O,O,O] rfl rfl (any_of HT_.out (by kernel_rfl)) (fun _ _ _ h => h) (Or.inl ⟨by rfl, ?_⟩) ?_ ?_
           rotate_left
           ·intro w'
            go_simp
            with_reducible rfl
           rotate_left
           ·simp only [Act.put, List.setIfInBounds_toArray, List.set_cons_zero, List.set_cons_succ, i64_w, i32_w]
            rfl
           exact norm_ (by first | (simp only [putAll, Act.put, List.setIfInBounds_toArray, List.set_cons_zero, List.set_cons_succ]; done) | (simp only [putAll, Act.put, List.setIfInBounds_toArray, List.set_cons_zero, List.set_cons_succ]; rfl)) (hJ6_7_11_19_26 (v397) _ ⟨hHeld, (by (with_reducible repeat (first | apply Kd.R_alloc | apply Kd.R_drewN | apply Kd.R_drew)); exact HO398.out), (pk BK394.out), (pl1 HB.out GE394.out)⟩)
         ·skip
          rintro v397 w21 ⟨hS_, h0_, h1_, h2_⟩
          have n0_ : Aside0 (Kd.R (Kd.int .u8) 5 w21 w.heap.size (fun _ => True) v397 y396) := ⟨h0_⟩
          have n1_ : Aside0 (w21.heap[gb394]? = some (.cells #[.int .i64 a0_0, .string a0_1, .string a0_2, .int .i64 a0_3, .int .i64 a0_4] 34 (0, 0))) := ⟨h1_⟩
          have n2_ : Aside0 (Below w.heap.size w w21) := ⟨h2_⟩
          clear BK394
          clear HB
          clear h0_ h1_ h2_
          have HO398 := n0_
          have BK394 := n1_
          have HB := n2_
          clear n0_ n1_ n2_
          have hHeld : w21.cell? ⟨gb394, 0, none⟩ = some (.int .i64 a0_0) ∧ w21.cell? ⟨gb394, 1, none⟩ = some (.string a0_1) ∧ w21.cell? ⟨gb394, 2, none⟩ = some (.string a0_2) ∧ w21.cell? ⟨gb394, 3, none⟩ = some (.int .i64 a0_3) ∧ w21.cell? ⟨gb394, 4, none⟩ = some (.int .i64 a0_4) := hS_
          refine norm_ (a' := ?_) ?_ ?_
          rotate_left
          ·simp only [putAll, Act.put, List.setIfInBounds_toArray, List.set_cons_zero, List.set_cons_succ]
           rfl
          refine one_ (i := 26) (N := some 33) #[Y,Y,Y,Y,Y,Y,Y,Y,Y,Y,Y,Y,Y,Y,Y,Y,Y,Y,Y,Y,Y,Y,Y,Y,Y,Y,Y,O,O,O] rfl rfl (one_of HT_.out (by kernel_rfl)) (by decide) (fun K hK => ?_)
          refine goes_ Tryd.func54 (by kernel_rfl) rfl #[.int .i64 a0_3] (by rfl) rfl rfl (by (try simp only [List.map_toArray, List.map_cons, List.map_nil]); first | done | rfl | (simp only [List.length_drop, List.length_take]; rfl)) ?_
          with_reducible refine (spec_l01Var.calls k a0_3 t401 _ A10.out).mono ?_
          rintro e w22 ⟨rfl, hb⟩
          refine ⟨_, rfl, ?_⟩
          replace HO398 := Aside0.mk (Kd.R_below (by (with_reducible repeat (first | apply Kd.R_alloc | apply Kd.R_drewN | apply Kd.R_drew)); exact HO398.out) hb)
          replace BK394 := Aside0.mk (pb BK394.out hb)
          replace HB := Aside0.mk (below_step (pl1 HB.out GE394.out) hb)
          (try clear hb)
          (try clear hb2)
          (try clear hk)
          (try clear hi)
          refine hK.out _ _ ⟨(blk_cell BK394.out 0).trans rfl, (blk_cell BK394.out 1).trans rfl, (blk_cell BK394.out 2).trans rfl, (blk_cell BK394.out 3).trans rfl, (blk_cell BK394.out 4).trans rfl⟩ (fun hHeld => ?_)
          clear hK K
          refine norm_ (a' := ?_) ?_ ?_
          rotate_left
          ·show Act.put _ (some 33) _ = _
           simp only [Act.put, List.setIfInBounds_toArray, List.set_cons_zero, List.set_cons_succ, i64_w, i32_w]
           rfl
          exact norm_ (by first | (simp only [putAll, Act.put, List.setIfInBounds_toArray, List.set_cons_zero, List.set_cons_succ]; done) | (simp only [putAll, Act.put, List.setIfInBounds_toArray, List.set_cons_zero, List.set_cons_succ]; rfl)) (hJ6_7_11_19_26 (v397) _ ⟨hHeld, (by (with_reducible repeat (first | apply Kd.R_alloc | apply Kd.R_drewN | apply Kd.R_drew)); exact HO398.out), (pk BK394.out), (pl1 HB.out GE394.out)⟩)
        rintro v397 w22 ⟨hS_, h0_, h1_, h2_⟩
        have n0_ : Aside0 (Kd.R (Kd.int .u8) 5 w22 w.heap.size (fun _ => True) v397 y396) := ⟨h0_⟩
        have n1_ : Aside0 (w22.heap[gb394]? = some (.cells #[.int .i64 a0_0, .string a0_1, .string a0_2, .int .i64 a0_3, .int .i64 a0_4] 34 (0, 0))) := ⟨h1_⟩
        have n2_ : Aside0 (Below w.heap.size w w22) := ⟨h2_⟩
        clear BK394
        clear HB
        clear h0_ h1_ h2_
        have HO398 := n0_
        have BK394 := n1_
        have HB := n2_
        clear n0_ n1_ n2_
        have hHeld : w22.cell? ⟨gb394, 0, none⟩ = some (.int .i64 a0_0) ∧ w22.cell? ⟨gb394, 1, none⟩ = some (.string a0_1) ∧ w22.cell? ⟨gb394, 2, none⟩ = some (.string a0_2) ∧ w22.cell? ⟨gb394, 3, none⟩ = some (.int .i64 a0_3) ∧ w22.cell? ⟨gb394, 4, none⟩ = some (.int .i64 a0_4) := hS_
        refine norm_ (a' := ?_) ?_ ?_
        rotate_left
        ·simp only [putAll, Act.put, List.setIfInBounds_toArray, List.set_cons_zero, List.set_cons_succ]
         rfl
        refine pz 27 34 #[Y,Y,Y,Y,Y,Y,Y,Y,Y,Y,Y,Y,Y,Y,Y,Y,Y,Y,Y,Y,Y,Y,Y,Y,Y,Y,Y,Y,O,O] HT_ ?_
        refine pz 28 2 #[Y,Y,Y,Y,Y,Y,Y,Y,Y,Y,Y,Y,Y,Y,Y,Y,Y,Y,Y,Y,Y,Y,Y,Y,Y,Y,Y,Y,Y,O] HT_ ?_
        refine pz 29 3 #[Y,Y,Y,Y,Y,Y,Y,Y,Y,Y,Y,Y,Y,Y,Y,Y,Y,Y,Y,Y,Y,Y,Y,Y,Y,Y,Y,Y,Y,Y] HT_ ?_
        refine done_ (done_of HT_.out (by kernel_rfl)) ?_
        try go_wp2
        go_ret2
        exact ⟨erq, pl1 HB.out GE394.out⟩
       ·rw [if_neg c11] at H
        exact absurd H (by simp)
      ·rw [if_neg c9] at H
       exact absurd H (by simp)
     ·rw [if_neg c8] at H
      exact absurd H (by simp)
    ·rw [if_neg c6] at H
     exact absurd H (by simp)
   ·rw [if_neg c5] at H
    exact absurd H (by simp)
  ·replace c3 := Bool.eq_false_iff.mpr c3
   subst c3
   have H1 : (some ((⟨#[]⟩ : ByteArray), false)) = some (r1, r2) := by rw [if_neg (show ¬ (false = true) by decide)] at H; exact H
   clear H
   have H := H1
   clear H1
   simp only [Option.some.injEq, Prod.mk.injEq] at H
   obtain ⟨rfl, rfl⟩ := H
   go_enter Tryd.func37, Tryd.ntmps37
   go_wp2_with (first | ((with_reducible refine gate_dst (N := 1) rfl ?_); refine box_event ?hg (N := 1) ?hd (cs := #[.int .i64 a0_0, .string a0_1, .string a0_2, .int .i64 a0_3, .int .i64 a0_4]) (t := 34) ?hr ?_; (case hd => rfl); (case hg => rfl); (case hr => first | (go_simp; done) | (go_simp; rfl)); intro gb394 hg w23 hbox hb; have n0_ := Aside0.mk (below_step (pl0 HB.out) hb); have n1_ := Aside0.mk (hbox); have n2_ := Aside0.mk ((by rw [hg]; exact (below_size (pl0 HB.out)) : w.heap.size ≤ gb394)); have n3_ := Aside0.mk ((by rw [hg]; exact (below_size (pl0 HB.out)) : w.heap.size ≤ gb394)); clear HB; have HB := n0_; have BK394 := n1_; have GW394 := n2_; have GE394 := n3_; clear n0_ n1_ n2_ n3_; clear hb hbox hg; obtain ⟨hcz24_0, hcz24_1, hcz24_2, hcz24_3, hcz24_4, hfz24_0, hfz24_1, hfz24_2, hfz24_3, hfz24_4⟩ := z5 BK394.out) | ((with_reducible refine gate_callee (f := 16) rfl ?_); refine goesL_ (some 5) rfl rfl Tryd.func16 (by kernel_rfl) rfl #[.agg #[.int .i64 a0_0, .string a0_1, .string a0_2, .int .i64 a0_3, .int .i64 a0_4]] rfl (by (try simp only [List.map_toArray, List.map_cons, List.map_nil]); first | done | rfl | (simp only [List.length_drop, List.length_take]; rfl)) ?_; (with_reducible refine (spec_EditOk.calls k a0_0 a0_1 a0_2 a0_3 a0_4 false _ A2.out).mono ?_); rintro e w25 ⟨rfl, hb⟩; refine ⟨_, rfl, ?_⟩; replace BK394 := Aside0.mk (pb BK394.out hb); replace HB := Aside0.mk (below_step (pl1 HB.out GE394.out) hb); (try clear hb); (try clear hb2); (try clear hk); (try clear hi)))
   go_ret2
   exact ⟨erq, pl1 HB.out GE394.out⟩
mutual
def spec_l01Text.j0 : Nat → Int → List Int → Int → Int → Option (ByteArray × Int × Int)
  | 0, _, _, _, _ => none
  | k + 1, x1, x1000, x1001, x1002 => spec_l01Text.l0 k x1 (([] : List Int)) 0 x1000 x1001 x1002
def spec_l01Text.l0 : Nat → Int → List Int → Int → List Int → Int → Int → Option (ByteArray × Int × Int)
  | 0, _, _, _, _, _, _ => none
  | k + 1, x1, x5, x6, x1000, x1001, x1002 => if x6 < x1 then ((spec_l01Byte.f x1000 x1001 x1002).bind fun bt405 => (if x5.length < 140737488355328 then (spec_l01Text.l0 k x1 (x5 ++ [(bt405.1) % 256]) (wrap64 (x6 + 1)) x1000 bt405.2.1 bt405.2.2) else (none))) else (some (strOfNums x5, x1001, x1002))
end
def spec_l01Text.f (k : Nat) (s0_0 : List Int) (s0_1 : Int) (s0_2 : Int) (a1 : Int) : Option (ByteArray × Int × Int) := if a1 > 5000 then (spec_l01Text.j0 k 5000 s0_0 s0_1 s0_2) else (spec_l01Text.j0 k a1 s0_0 s0_1 s0_2)
set_option maxHeartbeats 8000000 in
set_option maxRecDepth 100000 in
theorem spec_l01Text.calls (k : Nat) (g : Nat) (s0_0 : List Int) (s0_1 : Int) (s0_2 : Int) (a1 : Int) (r1 : ByteArray) (r2 : Int) (r3 : Int) (w0 w : World) (hI : IsS60 w0 w g s0_0 s0_1 s0_2) (hB : Below w0.heap.size w0 w) (h : spec_l01Text.f k s0_0 s0_1 s0_2 a1 = some (r1, r2, r3)) :
    Calls Tryd.prog 55 #[.pointer (some ⟨g, 0, none⟩), .int .i64 a1] w fun e w' => e = .returned (.string r1) ∧ IsS60 w0 w' g s0_0 r2 r3 ∧ Below w0.heap.size w0 w' ∧ KeepBut w w' g none := by
  have HI0 := Aside0.mk hI
  have HK := Aside0.mk (KeepBut.refl w g none)
  have HL := Aside0.mk hB.size
  clear hI
  have HW0 := Aside0.mk hB.size
  have HB := Aside0.mk hB
  clear hB
  have H : (if a1 > 5000 then (spec_l01Text.j0 k 5000 s0_0 s0_1 s0_2) else (spec_l01Text.j0 k a1 s0_0 s0_1 s0_2)) = some (r1, r2, r3) := h
  clear h
  have HC3 := Aside0.mk H
  clear H
  go_enter Tryd.func55, Tryd.ntmps55
  go_upto_if 8 with (fail)
  go_cut [1] (fun v1 wc => ∃ (kq : Nat) (x1_2 : Int), v1 = .int .i64 x1_2 ∧ Aside0 (spec_l01Text.j0 kq x1_2 s0_0 s0_1 s0_2 = some (r1, r2, r3)) ∧ Aside0 (kq ≤ k) ∧ Aside0 (IsS60 w0 wc g s0_0 s0_1 s0_2) ∧ Aside0 (KeepBut w wc g none) ∧ Aside0 (Below w0.heap.size w0 wc))
  case first =>
   have H := HC3.out
   clear HC3
   by_cases c4 : a1 > 5000
   ·rw [if_pos c4] at H
    have c4b0 : decide (5000 < a1) = true := decide_eq_true c4
    clear c4
    (first | rw [c4b0] | (simp only [i64_w, i32_w]; rw [c4b0]) | skip)
    have H' := Aside0.mk H
    clear H
    go_wp2
    go_meet
    case rel => exact ⟨_, (5000), eqa, H', ⟨by first | omega | exact Nat.le_refl _⟩, ⟨(zpb3 HI0.out)⟩, ⟨(zpb4 HK.out)⟩, ⟨(zpb1 HB.out (IsS60.ge HI0.out))⟩⟩
   ·rw [if_neg c4] at H
    have c4b0 : decide (5000 < a1) = false := decide_eq_false c4
    clear c4
    (first | rw [c4b0] | (simp only [i64_w, i32_w]; rw [c4b0]) | skip)
    have H' := Aside0.mk H
    clear H
    go_wp2
    go_meet
    case rel => exact ⟨_, (a1), eqa, H', ⟨by first | omega | exact Nat.le_refl _⟩, ⟨(zpb3 HI0.out)⟩, ⟨(zpb4 HK.out)⟩, ⟨(zpb1 HB.out (IsS60.ge HI0.out))⟩⟩
  case rest =>
   clear HC3
   obtain ⟨kq, x1_2, rfl, HA, HJ2, HI0, HK, HB⟩ := hcut
   cases kq with
   | zero => exact absurd HA.out (by simp [spec_l01Text.j0])
   | succ kj2 =>
    have H := HA.out
    clear HA
    simp only [spec_l01Text.j0] at H
    obtain ⟨y402, hy402⟩ : ∃ y_ : List Int, y_ = (([] : List Int)) := ⟨_, rfl⟩
    replace H : (spec_l01Text.l0 kj2 x1_2 y402 0 s0_0 s0_1 s0_2) = some (r1, r2, r3) := by first | (rw [hy402]; with_reducible exact H) | (have H2_ := (Option.bind_some _ _).symm.trans H; rw [hy402]; with_reducible exact H2_) | (have H2_ := (Option.bind_some _ _).symm.trans H; with_reducible exact H2_) | with_reducible exact H | (rw [hy402]; exact H) | exact H
    have Ny402 := Aside0.mk hy402
    clear hy402
    have H' := Aside0.mk H
    clear H
    go_wp2_with (first | ((with_reducible refine gate_dst (N := 9) rfl ?_); refine Kd.R_lit (Kd.int .u8) _ 5 ?hg (N := 9) ?hd (xs := ([] : List Int)) (inner := []) (ok := fun _ => True) (okp := fun _ => True) ?hr ?hp (fun _ hk => hk) trivial (Below.refl _ _) (Nat.le_refl _) (by simp) ?_; (case hd => rfl); (case hg => rfl); (case hr => first | (go_simp; done) | (go_simp; rfl)); (case hp => exact (Reps.none _ _)); intro v403 w5 ho6 hb hg_ hnew_; clear hg_ hnew_; (first | rw [← Ny402.out] at ho6 | (simp only [Int.reduceToNat] at ho6; rw [← Ny402.out] at ho6)); have n0_ := Aside0.mk (Kd.R_lower ho6 (keep_size (w := w) (g := g) (row := none) (zpb4 HK.out))); have n1_ := Aside0.mk (IsS60.below (zpb3 HI0.out) hb); have n2_ := Aside0.mk (KeepBut.trans (zpb4 HK.out) (KeepBut.of_below hb g none) (.inl rfl)); have n3_ := Aside0.mk (below_step (zpb1 HB.out (IsS60.ge HI0.out)) hb); clear HI0; clear HK; clear HB; have HO404 := n0_; have HI0 := n1_; have HK := n2_; have HB := n3_; clear n0_ n1_ n2_ n3_; clear hb ho6))
    go_loopg [5, 6] kj2 (fun kq v5 v6 w' => ∃ (x5_2 : List Int) (x6_2 : Int) (x1001_2 : Int) (x1002_2 : Int), v6 = .int .i64 x6_2 ∧ Aside0 (spec_l01Text.l0 kq x1_2 x5_2 x6_2 s0_0 x1001_2 x1002_2 = some (r1, r2, r3)) ∧ Aside0 (kq ≤ kj2) ∧ Aside0 (Kd.R (Kd.int .u8) 5 w' w.heap.size (fun _ => True) v5 x5_2) ∧ Aside0 (IsS60 w0 w' g s0_0 x1001_2 x1002_2) ∧ Aside0 (KeepBut w w' g none) ∧ Aside0 (Below w0.heap.size w0 w'))
    case atStart => exact ⟨(y402), (0), (s0_1), (s0_2), eqa, H', ⟨Nat.le_refl _⟩, ⟨by (with_reducible repeat (first | apply Kd.R_alloc | apply Kd.R_drewN | apply Kd.R_drew)); exact HO404.out⟩, ⟨(zpb3 HI0.out)⟩, ⟨(zpb4 HK.out)⟩, ⟨(zpb1 HB.out (IsS60.ge HI0.out))⟩⟩
    case round =>
     clear H'
     obtain ⟨x5_2, x6_2, x1001_2, x1002_2, rfl, HA, HK2, HO_5, HI0, HK, HB⟩ := hrel
     cases gk with
     | zero => exact absurd HA.out (by simp [spec_l01Text.l0])
     | succ k2 =>
      have H := HA.out
      clear HA
      simp only [spec_l01Text.l0] at H
      by_cases c7 : x6_2 < x1_2
      ·rw [if_pos c7] at H
       have c7b0 : decide (x6_2 < x1_2) = true := decide_eq_true c7
       clear c7
       replace H := Option.bind_eq_some_iff.mp H
       obtain ⟨⟨t405, t406, t407⟩, A80, H⟩ := H
       replace H : (if x5_2.length < 140737488355328 then (spec_l01Text.l0 k2 x1_2 (x5_2 ++ [(t405) % 256]) (wrap64 (x6_2 + 1)) s0_0 t406 t407) else (none)) = some (r1, r2, r3) := H
       have A8 := Aside0.mk A80
       clear A80
       by_cases c9 : x5_2.length < 140737488355328
       ·rw [if_pos c9] at H
        have LMc9 := Aside0.mk c9
        clear c9
        obtain ⟨y408, hy408⟩ : ∃ y_ : List Int, y_ = (x5_2 ++ [(t405) % 256]) := ⟨_, rfl⟩
        replace H : (spec_l01Text.l0 k2 x1_2 y408 (wrap64 (x6_2 + 1)) s0_0 t406 t407) = some (r1, r2, r3) := by first | (rw [hy408]; with_reducible exact H) | (have H2_ := (Option.bind_some _ _).symm.trans H; rw [hy408]; with_reducible exact H2_) | (have H2_ := (Option.bind_some _ _).symm.trans H; with_reducible exact H2_) | with_reducible exact H | (rw [hy408]; exact H) | exact H
        have Ny408 := Aside0.mk hy408
        clear hy408
        have H' := Aside0.mk H
        clear H
        go_wp2_with (first | ((with_reducible refine gate_callee (f := 62) rfl ?_); refine goesL_ (some 17) rfl rfl Tryd.func62 (by kernel_rfl) rfl #[.pointer (some ⟨g, 0, none⟩)] rfl (by (try simp only [List.map_toArray, List.map_cons, List.map_nil]); first | done | rfl | (simp only [List.length_drop, List.length_take]; rfl)) ?_; (with_reducible refine (spec_l01Byte.calls g s0_0 x1001_2 x1002_2 t405 t406 t407 w0 _ ?side1 ?side2 A8.out).mono ?_); (case side1 => exact zpb3 HI0.out); (case side2 => exact zpb1 HB.out (IsS60.ge HI0.out)); rintro e w10 ⟨rfl, hi, hb, hk⟩; refine ⟨_, rfl, ?_⟩; replace HO_5 := Aside0.mk (Kd.R_mono (Kd.R_keep (IsS60.apart (show IsS60 w0 _ g s0_0 x1001_2 x1002_2 from (zpb3 HI0.out)) (by (with_reducible repeat (first | apply Kd.R_alloc | apply Kd.R_drewN | apply Kd.R_drew)); exact HO_5.out) (by decide)) hk (fun _ h => h.2)) (fun _ h => h.1)); replace HK := Aside0.mk (KeepBut.trans (zpb4 HK.out) hk (.inl rfl)); replace HB := Aside0.mk (hb); replace HI0 := Aside0.mk (hi); (try clear hb); (try clear hb2); (try clear hk); (try clear hi)) | ((with_reducible refine gate_builtin (b := .append) (xs := #[.tmp 15, .tmp 19]) rfl ?_); at_builtin; refine Kd.R_append (Kd.int .u8) w.heap.size rfl (.tmp 15) (.tmp 19) 22 5 (.int .u8 0) 1 rfl Tryd.underlying22 info5 rfl (by decide) (by omega) u5 x5_2 ((t405) % 256) [.int .u8 ((t405) % 256)] (fun _ => True) (fun _ => False) rfl rfl ?aP (fun _ hk => hk.elim) ?aF ?aO (Below.refl _ _) ?aS ?aL ?_; (case aP => exact rfl); (case aF => exact (fun _ _ => trivial)); (case aO => exact (by (with_reducible repeat (first | apply Kd.R_alloc | apply Kd.R_drewN | apply Kd.R_drew)); exact HO_5.out)); (case aS => exact (keep_size (w := w) (g := g) (row := none) (zpb4 HK.out))); (case aL => have := LMc9.out; omega); intro v409 w11 ho hb hg hat; rw [← Ny408.out] at ho; have n0_ := Aside0.mk (IsS60.grown (zpb3 HI0.out) hg (IsS60.own_ne HI0.out HO_5.out (by decide))); have n1_ := Aside0.mk (below_weaken (zpb1 HB.out (IsS60.ge HI0.out)) HL.out hb); have n2_ := Aside0.mk (KeepBut.trans (zpb4 HK.out) (KeepBut.of_grown hg g) (Kd.R_base2 HO_5.out)); have n3_ := Aside0.mk (ho); clear HI0; clear HB; clear HK; clear HO_5; have HI0 := n0_; have HB := n1_; have HK := n2_; have HO410 := n3_; clear n0_ n1_ n2_ n3_; clear ho hb hg hat))
        go_roundg k2
        case measure => have := HJ2.out; have := HK2.out; omega
        case rel => exact ⟨(y408), (wrap64 (x6_2 + 1)), (t406), (t407), eqa, H', ⟨by have := HJ2.out; have := HK2.out; omega⟩, ⟨by (with_reducible repeat (first | apply Kd.R_alloc | apply Kd.R_drewN | apply Kd.R_drew)); exact HO410.out⟩, ⟨(zpb3 HI0.out)⟩, ⟨(zpb4 HK.out)⟩, ⟨(zpb1 HB.out (IsS60.ge HI0.out))⟩⟩
       ·rw [if_neg c9] at H
        exact absurd H (by simp)
      ·rw [if_neg c7] at H
       have c7b0 : decide (x6_2 < x1_2) = false := decide_eq_false c7
       clear c7
       simp only [Option.some.injEq, Prod.mk.injEq] at H
       obtain ⟨rfl, rfl, rfl⟩ := H
       have hcv12 := own_string (P := Tryd.prog) Tryd.underlying22 Tryd.underlying5 Tryd.underlying9 (Kd.own_of_R HO_5.out)
       go_wp2
       go_ret
       exact ⟨erq, (zpb3 HI0.out), (zpb1 HB.out (IsS60.ge HI0.out)), (zpb4 HK.out)⟩
def spec_l02Spoilt.j0 : Nat → ByteArray → Bool → List Int → Int → Int → Option (ByteArray × Int × Int)
  | 0, _, _, _, _, _ => none
  | k + 1, x1, x23, x1000, x1001, x1002 => if x23 = true then (if (x1.size : Int) > 0 then ((spec_l01Below.f x1000 x1001 x1002 (x1.size : Int)).bind fun bt420 => (if 0 ≤ bt420.1 then (if bt420.1 ≤ (x1.size : Int) then ((spec_l01Text.f k x1000 bt420.2.1 bt420.2.2 1).bind fun bt423 => (if (x1.extract 0 (bt420.1 : Int).toNat).size + bt423.1.size ≤ 9223372036854775807 then (if 0 ≤ (wrap64 (bt420.1 + 1)) then (if (wrap64 (bt420.1 + 1)) ≤ (x1.size : Int) then (if ((x1.extract 0 (bt420.1 : Int).toNat) ++ bt423.1).size + (x1.extract ((wrap64 (bt420.1 + 1)) : Int).toNat x1.size).size ≤ 9223372036854775807 then (some (((x1.extract 0 (bt420.1 : Int).toNat) ++ bt423.1) ++ (x1.extract ((wrap64 (bt420.1 + 1)) : Int).toNat x1.size), bt423.2.1, bt423.2.2)) else (none)) else (none)) else (none)) else (none))) else (none)) else (none))) else (some (x1, x1001, x1002))) else (some (x1, x1001, x1002))
def spec_l02Spoilt.f (k : Nat) (s0_0 : List Int) (s0_1 : Int) (s0_2 : Int) (a1 : ByteArray) : Option (ByteArray × Int × Int) := (spec_l01Below.f s0_0 s0_1 s0_2 12).bind fun bt411 => (if bt411.1 = 0 then ((spec_l01Text.f k s0_0 bt411.2.1 bt411.2.2 1).bind fun bt414 => (if a1.size + bt414.1.size ≤ 9223372036854775807 then (some (a1 ++ bt414.1, bt414.2.1, bt414.2.2)) else (none))) else (if bt411.1 = 1 then ((spec_l01Below.f s0_0 bt411.2.1 bt411.2.2 (wrap64 ((a1.size : Int) + 1))).bind fun bt417 => (if 0 ≤ bt417.1 then (if bt417.1 ≤ (a1.size : Int) then (some (a1.extract 0 (bt417.1 : Int).toNat, bt417.2.1, bt417.2.2)) else (none)) else (none))) else (if bt411.1 = 2 then (spec_l02Spoilt.j0 k a1 (bt411.1 == 2) s0_0 bt411.2.1 bt411.2.2) else (spec_l02Spoilt.j0 k a1 (bt411.1 == 3) s0_0 bt411.2.1 bt411.2.2))))
def spec_l02Spoilt.T10 : Bool × List (List Nat × List Nat) := (true, [([], []), ([], []), ([0, 1], [0, 1]), ([], []), ([3], [3]), ([2, 4], [2, 4]), ([], []), ([], []), ([7], [7]), ([6, 8], [6, 8]), ([5, 9], [5, 9]), ([10, 4, 0, 1, 2, 3, 4, 5, 6, 7, 8, 9, 10], [10])])
def spec_l02Spoilt.B10 : List Nat := [0, 0, 3, 0, 8, 31, 0, 0, 128, 448, 1023, 2047]
theorem spec_l02Spoilt.tab10 : rtab .any (opsOf Tryd.f39 10) = spec_l02Spoilt.T10 := by kernel_rfl
theorem spec_l02Spoilt.bits10 : waitsOk spec_l02Spoilt.T10.2 spec_l02Spoilt.B10 = true := by kernel_rfl
set_option maxHeartbeats 8000000 in
set_option maxRecDepth 100000 in
theorem spec_l02Spoilt.calls (k : Nat) (g : Nat) (s0_0 : List Int) (s0_1 : Int) (s0_2 : Int) (a1 : ByteArray) (r1 : ByteArray) (r2 : Int) (r3 : Int) (w0 w : World) (hI : IsS60 w0 w g s0_0 s0_1 s0_2) (hB : Below w0.heap.size w0 w) (h : spec_l02Spoilt.f k s0_0 s0_1 s0_2 a1 = some (r1, r2, r3)) :
    Calls Tryd.prog 39 #[.pointer (some ⟨g, 0, none⟩), .string a1] w fun e w' => e = .returned (.string r1) ∧ IsS60 w0 w' g s0_0 r2 r3 ∧ Below w0.heap.size w0 w' ∧ KeepBut w w' g none := by
  have HI0 := Aside0.mk hI
  have HK := Aside0.mk (KeepBut.refl w g none)
  have HL := Aside0.mk hB.size
  clear hI
  have HW0 := Aside0.mk hB.size
  have HB := Aside0.mk hB
  clear hB
  have H : ((spec_l01Below.f s0_0 s0_1 s0_2 12).bind fun bt411 => (if bt411.1 = 0 then ((spec_l01Text.f k s0_0 bt411.2.1 bt411.2.2 1).bind fun bt414 => (if a1.size + bt414.1.size ≤ 9223372036854775807 then (some (a1 ++ bt414.1, bt414.2.1, bt414.2.2)) else (none))) else (if bt411.1 = 1 then ((spec_l01Below.f s0_0 bt411.2.1 bt411.2.2 (wrap64 ((a1.size : Int) + 1))).bind fun bt417 => (if 0 ≤ bt417.1 then (if bt417.1 ≤ (a1.size : Int) then (some (a1.extract 0 (bt417.1 : Int).toNat, bt417.2.1, bt417.2.2)) else (none)) else (none))) else (if bt411.1 = 2 then (spec_l02Spoilt.j0 k a1 (bt411.1 == 2) s0_0 bt411.2.1 bt411.2.2) else (spec_l02Spoilt.j0 k a1 (bt411.1 == 3) s0_0 bt411.2.1 bt411.2.2))))) = some (r1, r2, r3) := h
  clear h
  replace H := Option.bind_eq_some_iff.mp H
  obtain ⟨⟨t411, t412, t413⟩, A30, H⟩ := H
  replace H : (if t411 = 0 then ((spec_l01Text.f k s0_0 t412 t413 1).bind fun bt414 => (if a1.size + bt414.1.size ≤ 9223372036854775807 then (some (a1 ++ bt414.1, bt414.2.1, bt414.2.2)) else (none))) else (if t411 = 1 then ((spec_l01Below.f s0_0 t412 t413 (wrap64 ((a1.size : Int) + 1))).bind fun bt417 => (if 0 ≤ bt417.1 then (if bt417.1 ≤ (a1.size : Int) then (some (a1.extract 0 (bt417.1 : Int).toNat, bt417.2.1, bt417.2.2)) else (none)) else (none))) else (if t411 = 2 then (spec_l02Spoilt.j0 k a1 (t411 == 2) s0_0 t412 t413) else (spec_l02Spoilt.j0 k a1 (t411 == 3) s0_0 t412 t413)))) = some (r1, r2, r3) := H
  have A3 := Aside0.mk A30
  clear A30
  by_cases c4 : t411 = 0
  ·rw [if_pos c4] at H
   have c4b0 : (t411 == 0) = true := beq_iff_eq.mpr c4
   have c4b1 : (t411 != 0) = false := bne_eq_false_iff_eq.mpr c4
   clear c4
   replace H := Option.bind_eq_some_iff.mp H
   obtain ⟨⟨t414, t415, t416⟩, A50, H⟩ := H
   replace H : (if a1.size + t414.size ≤ 9223372036854775807 then (some (a1 ++ t414, t415, t416)) else (none)) = some (r1, r2, r3) := H
   have A5 := Aside0.mk A50
   clear A50
   by_cases c6 : a1.size + t414.size ≤ 9223372036854775807
   ·rw [if_pos c6] at H
    have c6b0 := eq_true c6
    have c6b1 : decide (a1.size + t414.size ≤ 9223372036854775807) = true := decide_eq_true c6
    try have c6b2 : (9223372036854775807 < a1.size + t414.size) = False := eq_false (Nat.not_lt.2 c6)
    simp only [Option.some.injEq, Prod.mk.injEq] at H
    obtain ⟨rfl, rfl, rfl⟩ := H
    go_enter Tryd.func39, Tryd.ntmps39
    go_wp2_with (first | ((with_reducible refine gate_callee (f := 51) rfl ?_); refine goesL_ (some 7) rfl rfl Tryd.func51 (by kernel_rfl) rfl #[.pointer (some ⟨g, 0, none⟩), .int .i64 12] rfl (by (try simp only [List.map_toArray, List.map_cons, List.map_nil]); first | done | rfl | (simp only [List.length_drop, List.length_take]; rfl)) ?_; (with_reducible refine (spec_l01Below.calls g s0_0 s0_1 s0_2 12 t411 t412 t413 w0 _ ?side1 ?side2 A3.out).mono ?_); (case side1 => exact zpb3 HI0.out); (case side2 => exact zpb1 HB.out (IsS60.ge HI0.out)); rintro e w7 ⟨rfl, hi, hb, hk⟩; refine ⟨_, rfl, ?_⟩; replace HK := Aside0.mk (KeepBut.trans (zpb4 HK.out) hk (.inl rfl)); replace HB := Aside0.mk (hb); replace HI0 := Aside0.mk (hi); (try clear hb); (try clear hb2); (try clear hk); (try clear hi)) | ((with_reducible refine gate_callee (f := 55) rfl ?_); refine goesL_ (some 12) rfl rfl Tryd.func55 (by kernel_rfl) rfl #[.pointer (some ⟨g, 0, none⟩), .int .i64 1] rfl (by (try simp only [List.map_toArray, List.map_cons, List.map_nil]); first | done | rfl | (simp only [List.length_drop, List.length_take]; rfl)) ?_; (with_reducible refine (spec_l01Text.calls k g s0_0 t412 t413 1 t414 t415 t416 w0 _ ?side1 ?side2 A5.out).mono ?_); (case side1 => exact zpb3 HI0.out); (case side2 => exact zpb1 HB.out (IsS60.ge HI0.out)); rintro e w8 ⟨rfl, hi, hb, hk⟩; refine ⟨_, rfl, ?_⟩; replace HK := Aside0.mk (KeepBut.trans (zpb4 HK.out) hk (.inl rfl)); replace HB := Aside0.mk (hb); replace HI0 := Aside0.mk (hi); (try clear hb); (try clear hb2); (try clear hk); (try clear hi)))
    go_ret
    exact ⟨erq, (zpb3 HI0.out), (zpb1 HB.out (IsS60.ge HI0.out)), (zpb4 HK.out)⟩
   ·rw [if_neg c6] at H
    exact absurd H (by simp)
  ·rw [if_neg c4] at H
   have c4b0 : (t411 == 0) = false := beq_eq_false_iff_ne.mpr c4
   have c4b1 : (t411 != 0) = true := bne_iff_ne.mpr c4
   by_cases c9 : t411 = 1
   ·rw [if_pos c9] at H
    have c9b0 : (t411 == 1) = true := beq_iff_eq.mpr c9
    have c9b1 : (t411 != 1) = false := bne_eq_false_iff_eq.mpr c9
    clear c9
    replace H := Option.bind_eq_some_iff.mp H
    obtain ⟨⟨t417, t418, t419⟩, A100, H⟩ := H
    replace H : (if 0 ≤ t417 then (if t417 ≤ (a1.size : Int) then (some (a1.extract 0 (t417 : Int).toNat, t418, t419)) else (none)) else (none)) = some (r1, r2, r3) := H
    have A10 := Aside0.mk A100
    clear A100
    by_cases c11 : 0 ≤ t417
    ·rw [if_pos c11] at H
     have c11b0 := eq_true c11
     have c11b1 : decide (0 ≤ t417) = true := decide_eq_true c11
     clear c11
     by_cases c12 : t417 ≤ (a1.size : Int)
     ·rw [if_pos c12] at H
      have c12b0 := eq_true c12
      have c12b1 : decide (t417 ≤ (a1.size : Int)) = true := decide_eq_true c12
      clear c12
      simp only [Option.some.injEq, Prod.mk.injEq] at H
      obtain ⟨rfl, rfl, rfl⟩ := H
      go_enter Tryd.func39, Tryd.ntmps39
      go_wp2_with (first | ((with_reducible refine gate_callee (f := 51) rfl ?_); refine goesL_ (some 7) rfl rfl Tryd.func51 (by kernel_rfl) rfl #[.pointer (some ⟨g, 0, none⟩), .int .i64 12] rfl (by (try simp only [List.map_toArray, List.map_cons, List.map_nil]); first | done | rfl | (simp only [List.length_drop, List.length_take]; rfl)) ?_; (with_reducible refine (spec_l01Below.calls g s0_0 s0_1 s0_2 12 t411 t412 t413 w0 _ ?side1 ?side2 A3.out).mono ?_); (case side1 => exact zpb3 HI0.out); (case side2 => exact zpb1 HB.out (IsS60.ge HI0.out)); rintro e w13 ⟨rfl, hi, hb, hk⟩; refine ⟨_, rfl, ?_⟩; replace HK := Aside0.mk (KeepBut.trans (zpb4 HK.out) hk (.inl rfl)); replace HB := Aside0.mk (hb); replace HI0 := Aside0.mk (hi); (try clear hb); (try clear hb2); (try clear hk); (try clear hi)) | ((with_reducible refine gate_callee (f := 51) rfl ?_); refine goesL_ (some 21) rfl rfl Tryd.func51 (by kernel_rfl) rfl #[.pointer (some ⟨g, 0, none⟩), .int .i64 (wrap64 ((a1.size : Int) + 1))] rfl (by (try simp only [List.map_toArray, List.map_cons, List.map_nil]); first | done | rfl | (simp only [List.length_drop, List.length_take]; rfl)) ?_; (with_reducible refine (spec_l01Below.calls g s0_0 t412 t413 (wrap64 ((a1.size : Int) + 1)) t417 t418 t419 w0 _ ?side1 ?side2 A10.out).mono ?_); (case side1 => exact zpb3 HI0.out); (case side2 => exact zpb1 HB.out (IsS60.ge HI0.out)); rintro e w14 ⟨rfl, hi, hb, hk⟩; refine ⟨_, rfl, ?_⟩; replace HK := Aside0.mk (KeepBut.trans (zpb4 HK.out) hk (.inl rfl)); replace HB := Aside0.mk (hb); replace HI0 := Aside0.mk (hi); (try clear hb); (try clear hb2); (try clear hk); (try clear hi)))
      go_ret
      exact ⟨erq, (zpb3 HI0.out), (zpb1 HB.out (IsS60.ge HI0.out)), (zpb4 HK.out)⟩
     ·rw [if_neg c12] at H
      exact absurd H (by simp)
    ·rw [if_neg c11] at H
     exact absurd H (by simp)
   ·rw [if_neg c9] at H
    have c9b0 : (t411 == 1) = false := beq_eq_false_iff_ne.mpr c9
    have c9b1 : (t411 != 1) = true := bne_iff_ne.mpr c9
    have HC15 := Aside0.mk H
    clear H
    go_enter Tryd.func39, Tryd.ntmps39
    go_upto_if 23 with (first | ((with_reducible refine gate_callee (f := 51) rfl ?_); refine goesL_ (some 7) rfl rfl Tryd.func51 (by kernel_rfl) rfl #[.pointer (some ⟨g, 0, none⟩), .int .i64 12] rfl (by (try simp only [List.map_toArray, List.map_cons, List.map_nil]); first | done | rfl | (simp only [List.length_drop, List.length_take]; rfl)) ?_; (with_reducible refine (spec_l01Below.calls g s0_0 s0_1 s0_2 12 t411 t412 t413 w0 _ ?side1 ?side2 A3.out).mono ?_); (case side1 => exact zpb3 HI0.out); (case side2 => exact zpb1 HB.out (IsS60.ge HI0.out)); rintro e w16 ⟨rfl, hi, hb, hk⟩; refine ⟨_, rfl, ?_⟩; replace HK := Aside0.mk (KeepBut.trans (zpb4 HK.out) hk (.inl rfl)); replace HB := Aside0.mk (hb); replace HI0 := Aside0.mk (hi); (try clear hb); (try clear hb2); (try clear hk); (try clear hi)))
    (try simp only [Act.put, List.setIfInBounds_toArray, List.set_cons_zero, List.set_cons_succ])
    go_cut [23] (fun v23 wc => ∃ (kq : Nat) (x23_14 : Bool), v23 = .bool x23_14 ∧ Aside0 (spec_l02Spoilt.j0 kq a1 x23_14 s0_0 t412 t413 = some (r1, r2, r3)) ∧ Aside0 (kq ≤ k) ∧ Aside0 (IsS60 w0 wc g s0_0 t412 t413) ∧ Aside0 (KeepBut w wc g none) ∧ Aside0 (Below w0.heap.size w0 wc))
    case first =>
     have H := HC15.out
     clear HC15
     by_cases c17 : t411 = 2
     ·rw [if_pos c17] at H
      have c17b0 : (t411 == 2) = true := beq_iff_eq.mpr c17
      have c17b1 : (t411 != 2) = false := bne_eq_false_iff_eq.mpr c17
      clear c17
      (first | rw [c17b0] | (simp only [i64_w, i32_w]; rw [c17b0]) | skip)
      have H' := Aside0.mk H
      clear H
      go_wp2
      go_meet
      case rel => exact ⟨_, ((t411 == 2)), eqa, H', ⟨by first | omega | exact Nat.le_refl _⟩, ⟨(zpb3 HI0.out)⟩, ⟨(zpb4 HK.out)⟩, ⟨(zpb1 HB.out (IsS60.ge HI0.out))⟩⟩
     ·rw [if_neg c17] at H
      have c17b0 : (t411 == 2) = false := beq_eq_false_iff_ne.mpr c17
      have c17b1 : (t411 != 2) = true := bne_iff_ne.mpr c17
      (first | rw [c17b0] | (simp only [i64_w, i32_w]; rw [c17b0]) | skip)
      have H' := Aside0.mk H
      clear H
      go_wp2
      go_meet
      case rel => exact ⟨_, ((t411 == 3)), eqa, H', ⟨by first | omega | exact Nat.le_refl _⟩, ⟨(zpb3 HI0.out)⟩, ⟨(zpb4 HK.out)⟩, ⟨(zpb1 HB.out (IsS60.ge HI0.out))⟩⟩
    case rest =>
     clear HC15
     try clear c4; try clear c4b0; try clear c4b1; try clear c9; try clear c9b0; try clear c9b1
     obtain ⟨kq, x23_14, rfl, HA, HJ14, HI0, HK, HB⟩ := hcut
     cases kq with
     | zero => exact absurd HA.out (by simp [spec_l02Spoilt.j0])
     | succ kj14 =>
      have H := HA.out
      clear HA
      simp only [spec_l02Spoilt.j0] at H
      by_cases c18 : x23_14 = true
      ·subst c18
       have H1 : (if (a1.size : Int) > 0 then ((spec_l01Below.f s0_0 t412 t413 (a1.size : Int)).bind fun bt420 => (if 0 ≤ bt420.1 then (if bt420.1 ≤ (a1.size : Int) then ((spec_l01Text.f kj14 s0_0 bt420.2.1 bt420.2.2 1).bind fun bt423 => (if (a1.extract 0 (bt420.1 : Int).toNat).size + bt423.1.size ≤ 9223372036854775807 then (if 0 ≤ (wrap64 (bt420.1 + 1)) then (if (wrap64 (bt420.1 + 1)) ≤ (a1.size : Int) then (if ((a1.extract 0 (bt420.1 : Int).toNat) ++ bt423.1).size + (a1.extract ((wrap64 (bt420.1 + 1)) : Int).toNat a1.size).size ≤ 9223372036854775807 then (some (((a1.extract 0 (bt420.1 : Int).toNat) ++ bt423.1) ++ (a1.extract ((wrap64 (bt420.1 + 1)) : Int).toNat a1.size), bt423.2.1, bt423.2.2)) else (none)) else (none)) else (none)) else (none))) else (none)) else (none))) else (some (a1, t412, t413))) = some (r1, r2, r3) := by rw [if_pos rfl] at H; exact H
       clear H
       have H := H1
       clear H1
       by_cases c19 : (a1.size : Int) > 0
       ·rw [if_pos c19] at H
        have c19b0 : decide (0 < (a1.size : Int)) = true := decide_eq_true c19
        have c19b1 : decide (0 < a1.size) = true := decide_eq_true (by omega)
        clear c19
        replace H := Option.bind_eq_some_iff.mp H
        obtain ⟨⟨t420, t421, t422⟩, A200, H⟩ := H
        replace H : (if 0 ≤ t420 then (if t420 ≤ (a1.size : Int) then ((spec_l01Text.f kj14 s0_0 t421 t422 1).bind fun bt423 => (if (a1.extract 0 (t420 : Int).toNat).size + bt423.1.size ≤ 9223372036854775807 then (if 0 ≤ (wrap64 (t420 + 1)) then (if (wrap64 (t420 + 1)) ≤ (a1.size : Int) then (if ((a1.extract 0 (t420 : Int).toNat) ++ bt423.1).size + (a1.extract ((wrap64 (t420 + 1)) : Int).toNat a1.size).size ≤ 9223372036854775807 then (some (((a1.extract 0 (t420 : Int).toNat) ++ bt423.1) ++ (a1.extract ((wrap64 (t420 + 1)) : Int).toNat a1.size), bt423.2.1, bt423.2.2)) else (none)) else (none)) else (none)) else (none))) else (none)) else (none)) = some (r1, r2, r3) := H
        have A20 := Aside0.mk A200
        clear A200
        by_cases c21 : 0 ≤ t420
        ·rw [if_pos c21] at H
         have c21b0 := eq_true c21
         have c21b1 : decide (0 ≤ t420) = true := decide_eq_true c21
         clear c21
         by_cases c22 : t420 ≤ (a1.size : Int)
         ·rw [if_pos c22] at H
          have c22b0 := eq_true c22
          have c22b1 : decide (t420 ≤ (a1.size : Int)) = true := decide_eq_true c22
          clear c22
          replace H := Option.bind_eq_some_iff.mp H
          obtain ⟨⟨t423, t424, t425⟩, A230, H⟩ := H
          replace H : (if (a1.extract 0 (t420 : Int).toNat).size + t423.size ≤ 9223372036854775807 then (if 0 ≤ (wrap64 (t420 + 1)) then (if (wrap64 (t420 + 1)) ≤ (a1.size : Int) then (if ((a1.extract 0 (t420 : Int).toNat) ++ t423).size + (a1.extract ((wrap64 (t420 + 1)) : Int).toNat a1.size).size ≤ 9223372036854775807 then (some (((a1.extract 0 (t420 : Int).toNat) ++ t423) ++ (a1.extract ((wrap64 (t420 + 1)) : Int).toNat a1.size), t424, t425)) else (none)) else (none)) else (none)) else (none)) = some (r1, r2, r3) := H
          have A23 := Aside0.mk A230
          clear A230
          by_cases c24 : (a1.extract 0 (t420 : Int).toNat).size + t423.size ≤ 9223372036854775807
          ·rw [if_pos c24] at H
           have c24b0 := eq_true c24
           have c24b1 : decide ((a1.extract 0 (t420 : Int).toNat).size + t423.size ≤ 9223372036854775807) = true := decide_eq_true c24
           try have c24b2 : (9223372036854775807 < (a1.extract 0 (t420 : Int).toNat).size + t423.size) = False := eq_false (Nat.not_lt.2 c24)
           try have c24b5 : (9223372036854775807 < (t420 : Int).toNat + t423.size) = False := eq_false (by have h_ := c24; simp only [ByteArray.size_append, ByteArray.size_extract] at h_; have p0_ : (t420) ≤ (a1.size : Int) := (by first | exact of_eq_true (by assumption) | omega); omega)
           obtain ⟨ji25, hji25⟩ : ∃ j_ : Int, (wrap64 (t420 + 1)) = j_ := ⟨_, rfl⟩
           replace H : (if 0 ≤ (ji25) then (if (ji25) ≤ (a1.size : Int) then (if ((a1.extract 0 (t420 : Int).toNat) ++ t423).size + (a1.extract ((ji25) : Int).toNat a1.size).size ≤ 9223372036854775807 then (some (((a1.extract 0 (t420 : Int).toNat) ++ t423) ++ (a1.extract ((ji25) : Int).toNat a1.size), t424, t425)) else (none)) else (none)) else (none)) = some (r1, r2, r3) := by first | (rw [hji25] at H; exact H) | (simp only [hji25] at H ⊢; exact H)
           (try rw [hji25] at A20)
           (try rw [hji25] at A23)
           have hji25w : (IntKind.i64.wrap (t420 + 1)) = ji25 := (i64_w _).trans hji25
           by_cases c26 : 0 ≤ (ji25)
           ·rw [if_pos c26] at H
            have c26b0 := eq_true c26
            have c26b1 : decide (0 ≤ (ji25)) = true := decide_eq_true c26
            clear c26
            by_cases c27 : (ji25) ≤ (a1.size : Int)
            ·rw [if_pos c27] at H
             have c27b0 := eq_true c27
             have c27b1 : decide ((ji25) ≤ (a1.size : Int)) = true := decide_eq_true c27
             clear c27
             by_cases c28 : ((a1.extract 0 (t420 : Int).toNat) ++ t423).size + (a1.extract ((ji25) : Int).toNat a1.size).size ≤ 9223372036854775807
             ·rw [if_pos c28] at H
              have c28b0 := eq_true c28
              have c28b1 : decide (((a1.extract 0 (t420 : Int).toNat) ++ t423).size + (a1.extract ((ji25) : Int).toNat a1.size).size ≤ 9223372036854775807) = true := decide_eq_true c28
              try have c28b2 : (9223372036854775807 < ((a1.extract 0 (t420 : Int).toNat) ++ t423).size + (a1.extract ((ji25) : Int).toNat a1.size).size) = False := eq_false (Nat.not_lt.2 c28)
              try have c28b4 := c28b2
              try simp only [ByteArray.size_append] at c28b4
              try have c28b5 : (9223372036854775807 < (t420 : Int).toNat + t423.size + (a1.size - ((ji25) : Int).toNat)) = False := eq_false (by have h_ := c28; simp only [ByteArray.size_append, ByteArray.size_extract] at h_; have p0_ : (t420) ≤ (a1.size : Int) := (by first | exact of_eq_true (by assumption) | omega); omega)
              simp only [Option.some.injEq, Prod.mk.injEq] at H
              obtain ⟨rfl, rfl, rfl⟩ := H
              try go_wp2_with (first | ((with_reducible refine gate_callee (f := 51) rfl ?_); refine goesL_ (some 32) rfl rfl Tryd.func51 (by kernel_rfl) rfl #[.pointer (some ⟨g, 0, none⟩), .int .i64 (a1.size : Int)] rfl (by (try simp only [List.map_toArray, List.map_cons, List.map_nil]); first | done | rfl | (simp only [List.length_drop, List.length_take]; rfl)) ?_; (with_reducible refine (spec_l01Below.calls g s0_0 t412 t413 (a1.size : Int) t420 t421 t422 w0 _ ?side1 ?side2 A20.out).mono ?_); (case side1 => exact zpb3 HI0.out); (case side2 => exact zpb1 HB.out (IsS60.ge HI0.out)); rintro e w29 ⟨rfl, hi, hb, hk⟩; refine ⟨_, rfl, ?_⟩; replace HK := Aside0.mk (KeepBut.trans (zpb4 HK.out) hk (.inl rfl)); replace HB := Aside0.mk (hb); replace HI0 := Aside0.mk (hi); (try clear hb); (try clear hb2); (try clear hk); (try clear hi)))
              replace HI0 := Aside0.mk (IsS60.drew HI0.out)
              replace HK := Aside0.mk (keep_drew HK.out)
              replace HB := Aside0.mk (below_drew1 HB.out)
              refine start_ (n := 12) (S := fun w' => True) (ds := []) #[O,O,O,O,O,O,O,O,O,O,O,O] (by kernel_rfl) rfl rfl trivial (fun hHeld => ?_); refine with_tabW spec_l02Spoilt.tab10 spec_l02Spoilt.bits10 (fun HT_ HW_ => ?_)
              generalize w29.drew = w30 at HI0 HK HB hHeld ⊢
              refine pz 0 33 #[Y,O,O,O,O,O,O,O,O,O,O,O] HT_ ?_
              refine pz 1 34 #[Y,Y,O,O,O,O,O,O,O,O,O,O] HT_ ?_
              refine pz 2 35 #[Y,Y,Y,O,O,O,O,O,O,O,O,O] HT_ ?_
              refine pz 3 36 #[Y,Y,Y,Y,O,O,O,O,O,O,O,O] HT_ ?_
              refine pure_ (i := 6) (N := some 39) (v := ?_) (a' := ?_) #[Y,Y,Y,Y,O,O,Y,O,O,O,O,O] rfl rfl (any_of HT_.out (by kernel_rfl)) (fun _ _ _ h => h) (Or.inl ⟨by rfl, ?_⟩) ?_ ?_
              rotate_left
              ·intro w'
               go_simp
               with_reducible rfl
              rotate_left
              ·simp only [Act.put, List.setIfInBounds_toArray, List.set_cons_zero, List.set_cons_succ, i64_w, i32_w]
               rfl
              refine pure_ (i := 7) (N := some 40) (v := ?_) (a' := ?_) #[Y,Y,Y,Y,O,O,Y,Y,O,O,O,O] rfl rfl (any_of HT_.out (by kernel_rfl)) (fun _ _ _ h => h) (Or.inl ⟨by rfl, ?_⟩) ?_ ?_
              rotate_left
              ·intro w'
               go_simp
               with_reducible rfl
              rotate_left
              ·simp only [Act.put, List.setIfInBounds_toArray, List.set_cons_zero, List.set_cons_succ, i64_w, i32_w]
               rfl
              refine pure_ (i := 8) (N := some 41) (v := ?_) (a' := ?_) #[Y,Y,Y,Y,O,O,Y,Y,Y,O,O,O] rfl rfl (any_of HT_.out (by kernel_rfl)) (fun _ _ _ h => h) (Or.inl ⟨by rfl, ?_⟩) ?_ ?_
              rotate_left
              ·intro w'
               go_simp
               with_reducible rfl
              rotate_left
              ·simp only [Act.put, List.setIfInBounds_toArray, List.set_cons_zero, List.set_cons_succ, i64_w, i32_w]
               rfl
              refine pure_ (i := 9) (N := some 42) (v := ?_) (a' := ?_) #[Y,Y,Y,Y,O,O,Y,Y,Y,Y,O,O] rfl rfl (any_of HT_.out (by kernel_rfl)) (fun _ _ _ h => h) (Or.inl ⟨by rfl, ?_⟩) ?_ ?_
              rotate_left
              ·intro w'
               go_simp
               with_reducible rfl
              rotate_left
              ·simp only [Act.put, List.setIfInBounds_toArray, List.set_cons_zero, List.set_cons_succ, i64_w, i32_w]
               rfl
              refine one_ (i := 4) (N := some 37) #[Y,Y,Y,Y,Y,O,Y,Y,Y,Y,O,O] rfl rfl (one_of HT_.out (by kernel_rfl)) (by decide) (fun K hK => ?_)
              refine goes_ Tryd.func55 (by kernel_rfl) rfl #[.pointer (some ⟨g, 0, none⟩), .int .i64 1] (by rfl) rfl rfl (by (try simp only [List.map_toArray, List.map_cons, List.map_nil]); first | done | rfl | (simp only [List.length_drop, List.length_take]; rfl)) ?_
              with_reducible refine (spec_l01Text.calls kj14 g s0_0 t421 t422 1 t423 t424 t425 w0 _ ?side1 ?side2 A23.out).mono ?_
              (case side1 => exact zpb3 HI0.out)
              (case side2 => exact zpb1 HB.out (IsS60.ge HI0.out))
              rintro e w31 ⟨rfl, hi, hb, hk⟩
              refine ⟨_, rfl, ?_⟩
              replace HK := Aside0.mk (KeepBut.trans (zpb4 HK.out) hk (.inl rfl))
              replace HB := Aside0.mk (hb)
              replace HI0 := Aside0.mk (hi)
              (try clear hb)
              (try clear hb2)
              (try clear hk)
              (try clear hi)
              refine hK.out _ _ trivial (fun hHeld => ?_)
              clear hK K
              refine norm_ (a' := ?_) ?_ ?_
              rotate_left
              ·show Act.put _ (some 37) _ = _
               simp only [Act.put, List.setIfInBounds_toArray, List.set_cons_zero, List.set_cons_succ, i64_w, i32_w]
               rfl
              refine pure_ (i := 5) (N := some 38) (v := ?_) (a' := ?_) #[Y,Y,Y,Y,Y,Y,Y,Y,Y,Y,O,O] rfl rfl (any_of HT_.out (by kernel_rfl)) (fun _ _ _ h => h) (Or.inl ⟨by rfl, ?_⟩) ?_ ?_
              rotate_left
              ·intro w'
               go_simp
               with_reducible rfl
              rotate_left
              ·simp only [Act.put, List.setIfInBounds_toArray, List.set_cons_zero, List.set_cons_succ, i64_w, i32_w]
               rfl
              refine pz 10 43 #[Y,Y,Y,Y,Y,Y,Y,Y,Y,Y,Y,O] HT_ ?_
              refine pz 11 4 #[Y,Y,Y,Y,Y,Y,Y,Y,Y,Y,Y,Y] HT_ ?_
              refine done_ (done_of HT_.out (by kernel_rfl)) ?_
              try go_wp2
              go_ret
              exact ⟨by first | rfl | (simp [errW_none, errW_some] <;> rfl) | (simp only [← hji25]; first | rfl | (simp [errW_none, errW_some] <;> rfl)) | (simp [*, errW_none, errW_some] <;> rfl), (zpb3 HI0.out), (zpb1 HB.out (IsS60.ge HI0.out)), (zpb4 HK.out)⟩
             ·rw [if_neg c28] at H
              exact absurd H (by simp)
            ·rw [if_neg c27] at H
             exact absurd H (by simp)
           ·rw [if_neg c26] at H
            exact absurd H (by simp)
          ·rw [if_neg c24] at H
           exact absurd H (by simp)
         ·rw [if_neg c22] at H
          exact absurd H (by simp)
        ·rw [if_neg c21] at H
         exact absurd H (by simp)
       ·rw [if_neg c19] at H
        have c19b0 : decide (0 < (a1.size : Int)) = false := decide_eq_false c19
        have c19b1 : decide (0 < a1.size) = false := decide_eq_false (by omega)
        clear c19
        simp only [Option.some.injEq, Prod.mk.injEq] at H
        obtain ⟨rfl, rfl, rfl⟩ := H
        go_wp2
        go_ret
        exact ⟨erq, (zpb3 HI0.out), (zpb1 HB.out (IsS60.ge HI0.out)), (zpb4 HK.out)⟩
      ·replace c18 := Bool.eq_false_iff.mpr c18
       subst c18
       have H1 : (some (a1, t412, t413)) = some (r1, r2, r3) := by rw [if_neg (show ¬ (false = true) by decide)] at H; exact H
       clear H
       have H := H1
       clear H1
       simp only [Option.some.injEq, Prod.mk.injEq] at H
       obtain ⟨rfl, rfl, rfl⟩ := H
       go_wp2
       go_ret
       exact ⟨erq, (zpb3 HI0.out), (zpb1 HB.out (IsS60.ge HI0.out)), (zpb4 HK.out)⟩
def spec_DrawReadEdit.f (k : Nat) (l0 : List Int) : Option (ByteArray) := (spec_l01New.f k l0).bind fun bt426 => ((spec_l11Any.f k bt426.1 bt426.2.1 bt426.2.2).bind fun bt430 => ((spec_EditText.f k bt430.1 bt430.2.1 bt430.2.2.1 bt430.2.2.2.1 bt430.2.2.2.2.1).bind fun bt437 => ((spec_l01Once.f bt426.1 bt430.2.2.2.2.2.1 bt430.2.2.2.2.2.2 2).bind fun bt439 => (if bt439.1 = true then ((spec_l02Spoilt.f k bt426.1 bt439.2.1 bt439.2.2 bt437.1).bind fun bt442 => (some bt442.1)) else (some bt437.1)))))
set_option maxHeartbeats 8000000 in
set_option maxRecDepth 100000 in
theorem spec_DrawReadEdit.calls (k : Nat) (A0 : Option Addr) (c0 : Nat) (l0 : List Int) (r : ByteArray) (w : World) (hr0 : Kd.C (Kd.int .u8) w A0 l0.length l0) (hc0 : l0.length ≤ c0) (h : spec_DrawReadEdit.f k l0 = some r) :
    Calls Tryd.prog 18 #[.slice A0 l0.length c0] w fun e w' => e = .returned (.string r) ∧ Below w.heap.size w w' := by
  have HR0 := Aside0.mk hr0
  have HC0 := Aside0.mk hc0
  clear hr0 hc0
  have HB := Aside0.mk (Below.refl w.heap.size w)
  have H : ((spec_l01New.f k l0).bind fun bt426 => ((spec_l11Any.f k bt426.1 bt426.2.1 bt426.2.2).bind fun bt430 => ((spec_EditText.f k bt430.1 bt430.2.1 bt430.2.2.1 bt430.2.2.2.1 bt430.2.2.2.2.1).bind fun bt437 => ((spec_l01Once.f bt426.1 bt430.2.2.2.2.2.1 bt430.2.2.2.2.2.2 2).bind fun bt439 => (if bt439.1 = true then ((spec_l02Spoilt.f k bt426.1 bt439.2.1 bt439.2.2 bt437.1).bind fun bt442 => (some bt442.1)) else (some bt437.1)))))) = some r := h
  clear h
  replace H := Option.bind_eq_some_iff.mp H
  obtain ⟨⟨t426, t427, t428⟩, A20, H⟩ := H
  replace H : ((spec_l11Any.f k t426 t427 t428).bind fun bt430 => ((spec_EditText.f k bt430.1 bt430.2.1 bt430.2.2.1 bt430.2.2.2.1 bt430.2.2.2.2.1).bind fun bt437 => ((spec_l01Once.f t426 bt430.2.2.2.2.2.1 bt430.2.2.2.2.2.2 2).bind fun bt439 => (if bt439.1 = true then ((spec_l02Spoilt.f k t426 bt439.2.1 bt439.2.2 bt437.1).bind fun bt442 => (some bt442.1)) else (some bt437.1))))) = some r := H
  have A2 := Aside0.mk A20
  clear A20
  replace H := Option.bind_eq_some_iff.mp H
  obtain ⟨⟨t430, t431, t432, t433, t434, t435, t436⟩, A30, H⟩ := H
  replace H : ((spec_EditText.f k t430 t431 t432 t433 t434).bind fun bt437 => ((spec_l01Once.f t426 t435 t436 2).bind fun bt439 => (if bt439.1 = true then ((spec_l02Spoilt.f k t426 bt439.2.1 bt439.2.2 bt437.1).bind fun bt442 => (some bt442.1)) else (some bt437.1)))) = some r := H
  have A3 := Aside0.mk A30
  clear A30
  replace H := Option.bind_eq_some_iff.mp H
  obtain ⟨⟨t437, t438⟩, A40, H⟩ := H
  replace H : ((spec_l01Once.f t426 t435 t436 2).bind fun bt439 => (if bt439.1 = true then ((spec_l02Spoilt.f k t426 bt439.2.1 bt439.2.2 t437).bind fun bt442 => (some bt442.1)) else (some t437))) = some r := H
  have A4 := Aside0.mk A40
  clear A40
  replace H := Option.bind_eq_some_iff.mp H
  obtain ⟨⟨t439, t440, t441⟩, A50, H⟩ := H
  replace H : (if t439 = true then ((spec_l02Spoilt.f k t426 t440 t441 t437).bind fun bt442 => (some bt442.1)) else (some t437)) = some r := H
  have A5 := Aside0.mk A50
  clear A50
  by_cases c6 : t439 = true
  ·subst c6
   have H1 : ((spec_l02Spoilt.f k t426 t440 t441 t437).bind fun bt442 => (some bt442.1)) = some r := by rw [if_pos rfl] at H; exact H
   clear H
   have H := H1
   clear H1
   replace H := Option.bind_eq_some_iff.mp H
   obtain ⟨⟨t442, t443, t444⟩, A70, H⟩ := H
   replace H : (some t442) = some r := H
   have A7 := Aside0.mk A70
   clear A70
   obtain rfl := Option.some.inj H
   go_enter Tryd.func18, Tryd.ntmps18
   go_wp2_with (first | ((with_reducible refine gate_callee (f := 21) rfl ?_); refine goesL_ (some 7) rfl rfl Tryd.func21 (by kernel_rfl) rfl #[.slice A0 l0.length c0] rfl (by (try simp only [List.map_toArray, List.map_cons, List.map_nil]); first | done | rfl | (simp only [List.length_drop, List.length_take]; rfl)) ?_; (with_reducible refine (spec_l01New.calls k _ _ l0 t426 t427 t428 w _ ?side1 ?side2 ?side3 A2.out).mono ?_); (case side1 => exact zpb0 HB.out); (case side2 => exact HR0.out); (case side3 => exact HC0.out); rintro e w8 ⟨g429, rfl, hi, hb, hb2⟩; refine ⟨_, rfl, ?_⟩; have n0_ := Aside0.mk (hb); have n1_ := Aside0.mk (hi); clear HB; have HB := n0_; have HI429 := n1_; clear n0_ n1_; (try clear hb); (try clear hb2); (try clear hk); (try clear hi)) | ((with_reducible refine gate_callee (f := 29) rfl ?_); refine goesL_ (some 10) rfl rfl Tryd.func29 (by kernel_rfl) rfl #[.pointer (some ⟨g429, 0, none⟩)] rfl (by (try simp only [List.map_toArray, List.map_cons, List.map_nil]); first | done | rfl | (simp only [List.length_drop, List.length_take]; rfl)) ?_; (with_reducible refine (spec_l11Any.calls k g429 t426 t427 t428 t430 t431 t432 t433 t434 t435 t436 w _ ?side1 ?side2 A3.out).mono ?_); (case side1 => exact zpb3 HI429.out); (case side2 => exact zpb1 HB.out (IsS60.ge HI429.out)); rintro e w9 ⟨rfl, hi, hb, hk⟩; refine ⟨_, rfl, ?_⟩; replace HB := Aside0.mk (hb); replace HI429 := Aside0.mk (hi); (try clear hb); (try clear hb2); (try clear hk); (try clear hi)) | ((with_reducible refine gate_callee (f := 37) rfl ?_); refine goesL_ (some 11) rfl rfl Tryd.func37 (by kernel_rfl) rfl #[.agg #[.int .i64 t430, .string t431, .string t432, .int .i64 t433, .int .i64 t434]] rfl (by (try simp only [List.map_toArray, List.map_cons, List.map_nil]); first | done | rfl | (simp only [List.length_drop, List.length_take]; rfl)) ?_; (with_reducible refine (spec_EditText.calls k t430 t431 t432 t433 t434 t437 t438 _ A4.out).mono ?_); rintro e w10 ⟨rfl, hb⟩; refine ⟨_, rfl, ?_⟩; have n0_ := Aside0.mk (IsS60.below (zpb3 HI429.out) hb); have n1_ := Aside0.mk (below_step (zpb1 HB.out (IsS60.ge HI429.out)) hb); clear HI429; clear HB; have HI429 := n0_; have HB := n1_; clear n0_ n1_; (try clear hb); (try clear hb2); (try clear hk); (try clear hi)) | ((with_reducible refine gate_callee (f := 38) rfl ?_); refine goesL_ (some 15) rfl rfl Tryd.func38 (by kernel_rfl) rfl #[.pointer (some ⟨g429, 0, none⟩), .int .i64 2] rfl (by (try simp only [List.map_toArray, List.map_cons, List.map_nil]); first | done | rfl | (simp only [List.length_drop, List.length_take]; rfl)) ?_; (with_reducible refine (spec_l01Once.calls g429 t426 t435 t436 2 true t440 t441 w _ ?side1 ?side2 A5.out).mono ?_); (case side1 => exact zpb3 HI429.out); (case side2 => exact zpb1 HB.out (IsS60.ge HI429.out)); rintro e w11 ⟨rfl, hi, hb, hk⟩; refine ⟨_, rfl, ?_⟩; replace HB := Aside0.mk (hb); replace HI429 := Aside0.mk (hi); (try clear hb); (try clear hb2); (try clear hk); (try clear hi)) | ((with_reducible refine gate_callee (f := 39) rfl ?_); refine goesL_ (some 18) rfl rfl Tryd.func39 (by kernel_rfl) rfl #[.pointer (some ⟨g429, 0, none⟩), .string t437] rfl (by (try simp only [List.map_toArray, List.map_cons, List.map_nil]); first | done | rfl | (simp only [List.length_drop, List.length_take]; rfl)) ?_; (with_reducible refine (spec_l02Spoilt.calls k g429 t426 t440 t441 t437 t442 t443 t444 w _ ?side1 ?side2 A7.out).mono ?_); (case side1 => exact zpb3 HI429.out); (case side2 => exact zpb1 HB.out (IsS60.ge HI429.out)); rintro e w12 ⟨rfl, hi, hb, hk⟩; refine ⟨_, rfl, ?_⟩; replace HB := Aside0.mk (hb); replace HI429 := Aside0.mk (hi); (try clear hb); (try clear hb2); (try clear hk); (try clear hi)))
   go_ret
   exact ⟨erq, (zpb1 HB.out (IsS60.ge HI429.out))⟩
  ·replace c6 := Bool.eq_false_iff.mpr c6
   subst c6
   have H1 : (some t437) = some r := by rw [if_neg (show ¬ (false = true) by decide)] at H; exact H
   clear H
   have H := H1
   clear H1
   obtain rfl := Option.some.inj H
   go_enter Tryd.func18, Tryd.ntmps18
   go_wp2_with (first | ((with_reducible refine gate_callee (f := 21) rfl ?_); refine goesL_ (some 7) rfl rfl Tryd.func21 (by kernel_rfl) rfl #[.slice A0 l0.length c0] rfl (by (try simp only [List.map_toArray, List.map_cons, List.map_nil]); first | done | rfl | (simp only [List.length_drop, List.length_take]; rfl)) ?_; (with_reducible refine (spec_l01New.calls k _ _ l0 t426 t427 t428 w _ ?side1 ?side2 ?side3 A2.out).mono ?_); (case side1 => exact zpb0 HB.out); (case side2 => exact HR0.out); (case side3 => exact HC0.out); rintro e w13 ⟨g429, rfl, hi, hb, hb2⟩; refine ⟨_, rfl, ?_⟩; have n0_ := Aside0.mk (hb); have n1_ := Aside0.mk (hi); clear HB; have HB := n0_; have HI429 := n1_; clear n0_ n1_; (try clear hb); (try clear hb2); (try clear hk); (try clear hi)) | ((with_reducible refine gate_callee (f := 29) rfl ?_); refine goesL_ (some 10) rfl rfl Tryd.func29 (by kernel_rfl) rfl #[.pointer (some ⟨g429, 0, none⟩)] rfl (by (try simp only [List.map_toArray, List.map_cons, List.map_nil]); first | done | rfl | (simp only [List.length_drop, List.length_take]; rfl)) ?_; (with_reducible refine (spec_l11Any.calls k g429 t426 t427 t428 t430 t431 t432 t433 t434 t435 t436 w _ ?side1 ?side2 A3.out).mono ?_); (case side1 => exact zpb3 HI429.out); (case side2 => exact zpb1 HB.out (IsS60.ge HI429.out)); rintro e w14 ⟨rfl, hi, hb, hk⟩; refine ⟨_, rfl, ?_⟩; replace HB := Aside0.mk (hb); replace HI429 := Aside0.mk (hi); (try clear hb); (try clear hb2); (try clear hk); (try clear hi)) | ((with_reducible refine gate_callee (f := 37) rfl ?_); refine goesL_ (some 11) rfl rfl Tryd.func37 (by kernel_rfl) rfl #[.agg #[.int .i64 t430, .string t431, .string t432, .int .i64 t433, .int .i64 t434]] rfl (by (try simp only [List.map_toArray, List.map_cons, List.map_nil]); first | done | rfl | (simp only [List.length_drop, List.length_take]; rfl)) ?_; (with_reducible refine (spec_EditText.calls k t430 t431 t432 t433 t434 t437 t438 _ A4.out).mono ?_); rintro e w15 ⟨rfl, hb⟩; refine ⟨_, rfl, ?_⟩; have n0_ := Aside0.mk (IsS60.below (zpb3 HI429.out) hb); have n1_ := Aside0.mk (below_step (zpb1 HB.out (IsS60.ge HI429.out)) hb); clear HI429; clear HB; have HI429 := n0_; have HB := n1_; clear n0_ n1_; (try clear hb); (try clear hb2); (try clear hk); (try clear hi)) | ((with_reducible refine gate_callee (f := 38) rfl ?_); refine goesL_ (some 15) rfl rfl Tryd.func38 (by kernel_rfl) rfl #[.pointer (some ⟨g429, 0, none⟩), .int .i64 2] rfl (by (try simp only [List.map_toArray, List.map_cons, List.map_nil]); first | done | rfl | (simp only [List.length_drop, List.length_take]; rfl)) ?_; (with_reducible refine (spec_l01Once.calls g429 t426 t435 t436 2 false t440 t441 w _ ?side1 ?side2 A5.out).mono ?_); (case side1 => exact zpb3 HI429.out); (case side2 => exact zpb1 HB.out (IsS60.ge HI429.out)); rintro e w16 ⟨rfl, hi, hb, hk⟩; refine ⟨_, rfl, ?_⟩; replace HB := Aside0.mk (hb); replace HI429 := Aside0.mk (hi); (try clear hb); (try clear hb2); (try clear hk); (try clear hi)))
   go_ret
   exact ⟨erq, (zpb1 HB.out (IsS60.ge HI429.out))⟩
end Go.Proofs.YtmgdekfajjdcdaaDoor.QPB
