/- Marks of a tree: what markTree writes. -/
import Derived.Test.YtfckmpfanaknpaaQTN2
namespace Go.Proofs.Ytfckmpfanaknpaa.QTN
open Go.Proofs.YtfckmpfanaknpaaW Go.Proofs.YtfckmpfanaknpaaW.Zip
open Go.RowKit Go.Proofs.YtfckmpfanaknpaaW.PrintWords Go.Proofs.YtfckmpfanaknpaaW.PrintLast Go.Proofs.YtfckmpfanaknpaaW.PrintMore
set_option maxHeartbeats 1000000 in
set_option maxRecDepth 100000 in
theorem laws_markTree.calls (k : Nat) (P0_ : Nat → Prop) (u9000_ : Value) (l0_0 : List (S31)) (a0_1 : Int) (a1 : Int) (r1 : Int) (r2 : List (S31)) (w0 w : World) (hB : Below w0.heap.size w0 w) (ho0_0 : Kd.S k31 31 w w0.heap.size P0_ u9000_ l0_0) (h : laws_markInodeS.f k l0_0 a1 = some (r1, r2)) :
    Calls Try.prog 7 #[.agg #[u9000_, .int .i64 a0_1], .int .i64 a1] w fun e w' => e = .returned (.int .i64 r1) ∧ Kd.S k31 31 w' w0.heap.size (fun k_ => (P0_ k_ ∨ w.heap.size ≤ k_)) u9000_ r2 ∧ Below w0.heap.size w0 w' ∧ Kept w w' (fun k_ => P0_ k_) := by
  have hu24 := Try.underlying24
  obtain ⟨A0, c0, rfl⟩ := Kd.S_slice ho0_0
  go_enter Try.func7, Try.ntmps7
  go_wp2_with (first | (go_at_call 10; refine (laws_markInodeS.calls k (fun k_ => P0_ k_) _ l0_0 a1 r1 r2 w0 _ ?hb ?ho h).mono ?_; (case hb => exact below_alloc hB _); (case ho => exact Kd.S_alloc ho0_0 _); rintro e w' ⟨rfl, h1, h2, h3⟩))
  go_ret
  have hsz : w.heap.size ≤ (w.alloc (Obj.cells #[Value.slice A0 l0_0.length c0, Value.int IntKind.i64 a0_1] 24)).heap.size := (Below.refl w.heap.size w |> fun hb => (below_alloc hb _).size)
  exact ⟨rfl, Kd.S_mono h1 (fun k_ hk => hk.elim .inl (fun hh => .inr (Nat.le_trans hsz hh))), h2, ((Kept.refl w _).alloc _).then_ h3 (fun _ hk => .inl hk)⟩
end Go.Proofs.Ytfckmpfanaknpaa.QTN
