/- The law FnExactTreeNew, walked: both trees are made, told alike, marked, held, made again. -/
import Derived.Test.YtfckmpfanaknpaaQTN2
import Derived.Test.YtfckmpfanaknpaaQTN3
import Derived.Test.YtfckmpfanaknpaaMt
namespace Go.Proofs.Ytfckmpfanaknpaa.QTN
open Go.Proofs.YtfckmpfanaknpaaW Go.Proofs.YtfckmpfanaknpaaW.Zip
open Go.RowKit Go.Proofs.YtfckmpfanaknpaaW.PrintWords Go.Proofs.YtfckmpfanaknpaaW.PrintLast Go.Proofs.YtfckmpfanaknpaaW.PrintMore
def T0 : List S31 := [(⟨1, 0, (⟨#[]⟩ : ByteArray), true, 1, 0, 0, ([] : List (S40)), 0⟩ : S31)]
set_option maxHeartbeats 1000000 in
set_option maxRecDepth 100000 in
theorem law (k : Nat) (m : Int) (ys : List S31) (w : World) (he : laws_eqTree.f k T0 2 T0 2 = some true) (hm : laws_markInodeS.f k T0 1 = some (m, ys)) (h0 : 0 ≤ m) (hh : laws_heldTree.f k ys 2 1 = some m) :
    Calls Try.prog 3 #[] w fun e w' => e = .returned (.bool true) ∧ Below w.heap.size w w' := by
  have hu24 := Try.underlying24
  go_enter Try.func3, Try.ntmps3
  go_wp2_with (first | (go_at_call 4; refine (spec_TreeNew.calls T0 2 _ rfl).mono ?_; rintro e w1 ⟨v0, rfl, hS0, hb1⟩; obtain ⟨A0, c0, rfl⟩ := Kd.S_slice hS0))
  go_wp2_with (first | (go_at_call 5; refine (impl_TreeNew.calls T0 2 _ rfl).mono ?_; rintro e w2 ⟨v1, rfl, hS1, hb2⟩; obtain ⟨A1, c1, rfl⟩ := Kd.S_slice hS1; (have B0 := blk_below (blk_new w1 (Obj.cells #[Value.slice A0 T0.length c0, Value.int IntKind.i64 2] 24)) hb2); (obtain ⟨h0a, h0b, f0a, f0b⟩ := z2 (blk_alloc B0 (Obj.cells #[Value.slice A1 T0.length c1, Value.int IntKind.i64 2] 24)))))
  go_wp2_with (first | (go_at_call 6; refine (laws_eqTree.calls k A1 c1 T0 2 A0 c0 T0 2 true _ ?sa ?sb ?sc ?sd he).mono ?_; (case sa => exact (Kd.S_reads' (Kd.S_alloc hS1 _)).2.2); (case sb => exact (Kd.S_reads' hS1).2.1); (case sc => exact (Kd.S_reads' (Kd.S_alloc (Kd.S_below (Kd.S_alloc hS0 _) hb2) _)).2.2); (case sd => exact (Kd.S_reads' hS0).2.1); rintro e w3 ⟨rfl, hb3⟩; clear h0a h0b f0a f0b; (have B1 := blk_below (blk_new w2 (Obj.cells #[Value.slice A1 T0.length c1, Value.int IntKind.i64 2] 24)) hb3); (replace B0 := blk_below (blk_alloc B0 (Obj.cells #[Value.slice A1 T0.length c1, Value.int IntKind.i64 2] 24)) hb3); (have hB3 := below_step (below_alloc hb2 (Obj.cells #[Value.slice A1 T0.length c1, Value.int IntKind.i64 2] 24)) hb3); (replace hS1 := Kd.S_bound (Kd.S_below (Kd.S_alloc hS1 (Obj.cells #[Value.slice A1 T0.length c1, Value.int IntKind.i64 2] 24)) hb3)); (replace hS0 := Kd.S_below (Kd.S_alloc (Kd.S_below (Kd.S_alloc (Kd.S_bound hS0) _) hb2) (Obj.cells #[Value.slice A1 T0.length c1, Value.int IntKind.i64 2] 24)) hb3); (obtain ⟨h1a, h1b, f1a, f1b⟩ := z2 B1)))
  go_wp2_with (first | (go_at_call 7; refine (laws_markTree.calls k _ _ T0 2 1 m ys (w1.alloc (Obj.cells #[Value.slice A0 T0.length c0, Value.int IntKind.i64 2] 24)) _ hB3 hS1 hm).mono ?_; rintro e w4 ⟨rfl, hM, hB4, hk⟩; (have hBW := below_step (below_alloc hb1 (Obj.cells #[Value.slice A0 T0.length c0, Value.int IntKind.i64 2] 24)) hB4); (have hP1 : ∀ q, q ∈ 31 :: k31.E → q ≠ 24 := by decide); (have hlt1 := blk_lt (blk_new w1 (Obj.cells #[Value.slice A0 T0.length c0, Value.int IntKind.i64 2] 24))); clear h1a h1b f1a f1b; (replace B0 := blk_kept B0 hk (fun h_ => absurd h_.2.1 (Nat.not_le.mpr hlt1))); (have B1' := blk_kept B1 hk (fun h_ => by obtain ⟨_, _, _, q, hq, cells, hc⟩ := h_; rw [B1] at hc; injection hc with hc; injection hc with _ hq2; exact hP1 q hq hq2.symm)); clear B1; (have B1 := B1'); clear B1'; (replace hS0 := Kd.S_kept hS0 hk (fun k_ h_ hP => absurd hP.2.1 (Nat.not_le.mpr (Nat.lt_trans h_.2.2.1 hlt1)))); (have hlen : ys.length = T0.length := (Kd.S_reads' hM).1.symm); (have hm0 : decide (m < 0) = false := decide_eq_false (by omega)); (obtain ⟨h1a, h1b, f1a, f1b⟩ := z2 B1)))
  go_wp2_with (first | (go_at_call 8; (have hC8 : Kd.C k31 w4 A1 ys.length ys := hlen ▸ (Kd.S_reads' hM).2.2); (have hD8 : ys.length ≤ c1 := Nat.le_trans (Nat.le_of_eq hlen) (Kd.S_reads' hM).2.1); (have hc8 := laws_heldTree.calls k A1 c1 ys 2 1 m w4 hC8 hD8 hh); (rw [hlen] at hc8); refine hc8.mono ?_; rintro e w5 ⟨rfl, hb5⟩; clear h1a h1b f1a f1b; (replace hBW := below_step hBW hb5); (replace B0 := blk_below B0 hb5); (replace B1 := blk_below B1 hb5); (replace hS0 := Kd.S_below hS0 hb5); (replace hM := Kd.S_below hM hb5)))
  go_wp2_with (first | (go_at_call 5; refine (impl_TreeNew.calls T0 2 _ rfl).mono ?_; rintro e w6 ⟨v2, rfl, hS2, hb6⟩; obtain ⟨A2, c2, rfl⟩ := Kd.S_slice hS2; (replace hBW := below_alloc (below_step hBW hb6) (Obj.cells #[Value.slice A2 T0.length c2, Value.int IntKind.i64 2] 24)); (replace B0 := blk_alloc (blk_below B0 hb6) (Obj.cells #[Value.slice A2 T0.length c2, Value.int IntKind.i64 2] 24)); (replace B1 := blk_alloc (blk_below B1 hb6) (Obj.cells #[Value.slice A2 T0.length c2, Value.int IntKind.i64 2] 24)); (replace hS0 := Kd.S_alloc (Kd.S_below hS0 hb6) (Obj.cells #[Value.slice A2 T0.length c2, Value.int IntKind.i64 2] 24)); (replace hM := Kd.S_alloc (Kd.S_below hM hb6) (Obj.cells #[Value.slice A2 T0.length c2, Value.int IntKind.i64 2] 24)); (obtain ⟨h0a, h0b, f0a, f0b⟩ := z2 B0)))
  go_wp2_with (first | (go_at_call 6; refine (laws_eqTree.calls k A2 c2 T0 2 A0 c0 T0 2 true _ ?sa ?sb ?sc ?sd he).mono ?_; (case sa => exact (Kd.S_reads' (Kd.S_alloc hS2 _)).2.2); (case sb => exact (Kd.S_reads' hS2).2.1); (case sc => exact (Kd.S_reads' hS0).2.2); (case sd => exact (Kd.S_reads' hS0).2.1); rintro e w7 ⟨rfl, hb7⟩; clear h0a h0b f0a f0b; (replace hBW := below_step hBW hb7); (replace B1 := blk_below B1 hb7); (replace hM := Kd.S_below hM hb7); (obtain ⟨h1a, h1b, f1a, f1b⟩ := z2 B1)))
  go_wp2_with (first | (go_at_call 8; (have hC8 : Kd.C k31 w7 A1 ys.length ys := hlen ▸ (Kd.S_reads' hM).2.2); (have hD8 : ys.length ≤ c1 := Nat.le_trans (Nat.le_of_eq hlen) (Kd.S_reads' hM).2.1); (have hc8 := laws_heldTree.calls k A1 c1 ys 2 1 m w7 hC8 hD8 hh); (rw [hlen] at hc8); refine hc8.mono ?_; rintro e w8 ⟨rfl, hb8⟩; (replace hBW := below_step hBW hb8)))
  go_ret
  exact ⟨rfl, hBW⟩
def mk0 : Int × List S31 := (laws_markInodeS.f 40 T0 1).getD (0, [])
theorem eq0 : laws_eqTree.f 40 T0 2 T0 2 = some true := by kernel_rfl
theorem mark0 : laws_markInodeS.f 40 T0 1 = some (mk0.1, mk0.2) := by kernel_rfl
theorem held0 : laws_heldTree.f 40 mk0.2 2 1 = some mk0.1 := by kernel_rfl
theorem pos0 : 0 ≤ mk0.1 := of_decide_eq_true (by kernel_rfl)
def laws_FnExactTreeNew.f (_ : Nat) : Option Bool := some true
theorem laws_FnExactTreeNew.calls (k : Nat) (r : Bool) (w : World) (h : laws_FnExactTreeNew.f k = some r) : Calls Try.prog 3 #[] w fun e w' => e = .returned (.bool r) ∧ Below w.heap.size w w' := by
  obtain rfl : true = r := Option.some.inj h
  exact law 40 mk0.1 mk0.2 w eq0 mark0 pos0 held0
end Go.Proofs.Ytfckmpfanaknpaa.QTN
