/- How trees, nodes and pieces stand in cells; small contracts. -/
import Derived.Test.YtbhbkaonlillhaaGreatDoorCTy
import Derived.Test.YtbhbkaonlillhaaGreatDoorTm
import Derived.Test.YtbhbkaonlillhaaGreatDoorAbc
namespace Go.Proofs.YtbhbkaonlillhaaGreatDoor
open Go Go.Abs Go.Proofs Go.Tm
variable {Z : TypeId → Nat} {G : World → Prop} {B0 : Nat}

abbrev iC (x : Int) : Cell := .sc (.int .i64 x)
abbrev sC (x : ByteArray) : Cell := .sc (.string x)
abbrev bC (x : Bool) : Cell := .sc (.bool x)
abbrev iA (x : Int) : AV := .c (iC x)
abbrev sA (x : ByteArray) : AV := .c (sC x)
abbrev bA (x : Bool) : AV := .c (bC x)
def pcE (p : Pc) : List Cell := [iC p.group, iC p.len]
def pcsE (own : Bool) (l : List Pc) : Cell := .row own 121 (l.map pcE)
def pcsL (l : List Pc) : Cell := .row false 242 (l.map pcE)
def ndE (own : Bool) (n : Nod) : List Cell := [iC n.id, iC n.parent, sC n.name, bC n.dir, iC n.schema, iC n.quota, iC n.len, pcsE own n.pieces, iC n.writer]
def ndL (n : Nod) : List Cell := [iC n.id, iC n.parent, sC n.name, bC n.dir, iC n.schema, iC n.quota, iC n.len, pcsL n.pieces, iC n.writer]
def ndsE (own : Bool) (l : List Nod) : Cell := .row own 57 (l.map (ndE own))
def ndsL (l : List Nod) : Cell := .row false 178 (l.map ndL)
def pcA (p : Pc) : AV := .agg ((pcE p).map .c)
def ndA (own : Bool) (n : Nod) : AV := .agg ((ndE own n).map .c)
def ndLA (n : Nod) : AV := .agg ((ndL n).map .c)
def trA (own : Bool) (t : Tree) : AV := .agg [.c (ndsE own t.nodes), iA t.next]
def trL (t : Tree) : AV := .agg [.c (ndsL t.nodes), iA t.next]
def intsE (own : Bool) (l : List Int) : Cell := .row own 3 (l.map fun x => [iC x])
def strsE (own : Bool) (l : List ByteArray) : Cell := .row own 9 (l.map fun x => [sC x])

@[simp] theorem share_pcs (l : List Pc) : shareLL (l.map pcE) = l.map pcE := by simp [shareLL_eq, pcE, share]
@[simp] theorem share_nds (own : Bool) (l : List Nod) : shareLL (l.map (ndE own)) = l.map (ndE false) := by simp [shareLL_eq, ndE, pcsE, pcE, share]
@[simp] theorem share_ints (l : List Int) : shareLL (l.map fun x => [iC x]) = l.map fun x => [iC x] := by simp [shareLL_eq, share]
@[simp] theorem share_strs (l : List ByteArray) : shareLL (l.map fun x => [sC x]) = l.map fun x => [sC x] := by simp [shareLL_eq, share]
theorem w_one : IntKind.i64.wrap 1 = 1 := rfl
theorem w_inc {i n : Nat} (h : i < n) (hn : n ≤ 9223372036854775807) : IntKind.i64.wrap ((i : Int) + 1) = ((i + 1 : Nat) : Int) := wrap_i64 (by omega)
theorem w_dec {i n : Nat} (h : i < n) (hn : n ≤ 9223372036854775807) (h0 : 0 < i) : IntKind.i64.wrap ((i : Int) - 1) = ((i - 1 : Nat) : Int) := by
  rw [wrap_i64 (by omega)]; omega

theorem l01In_spec (hZ : ZOk Tryz.prog Z) (x lo hi : Int) : Does Z Tryz.prog G B0 86 [iA x, iA lo, iA hi] [] [] (fun y _ => y = bA (inB x lo hi)) := by
  refine Does.body hZ Tryz.func86 rfl rfl (Nat.le_of_ble_eq_true rfl) ?_
  simp [Tryz.f86, inB]
  refine Br.dec (fun h => ?_) (fun h => ?_) <;> simp [h]
theorem within_spec (hZ : ZOk Tryz.prog Z) (x lo hi : Int) : Does Z Tryz.prog G B0 115 [iA x, iA lo, iA hi] [] [] (fun y _ => y = bA (inB x lo hi)) := by
  refine Does.body hZ Tryz.func115 rfl rfl (Nat.le_of_ble_eq_true rfl) ?_
  simp [Tryz.f115, inB]
  refine Br.dec (fun h => ?_) (fun h => ?_) <;> simp [h]

theorem eqPiece_spec (hZ : ZOk Tryz.prog Z) (p q : Pc) : Does Z Tryz.prog G B0 247 [pcA p, pcA q] [] [] (fun y _ => y = bA (decide (p = q))) := by
  refine Does.body hZ Tryz.func247 rfl rfl (Nat.le_of_ble_eq_true rfl) ?_
  obtain ⟨a, b⟩ := p
  obtain ⟨c, d⟩ := q
  simp [Tryz.f247, pcA, pcE]
  refine Br.dec (fun h => ?_) (fun h => ?_)
  · simp [h]
    refine Br.dec (fun h2 => ?_) (fun h2 => ?_) <;> simp [h2]
  · simp [h]

theorem eqPieceS_spec (hZ : ZOk Tryz.prog Z) (p q : List Pc) : Does Z Tryz.prog G B0 218 [.c (pcsE false p), .c (pcsE false q)] [] [] (fun y _ => y = bA (decide (p = q))) := by
  refine Does.bodyF hZ Tryz.func218 rfl rfl (Nat.le_of_ble_eq_true rfl) fun hf => ?_
  simp [pcsE] at hf
  simp [Tryz.f218, pcsE]
  refine Br.dec (fun h => ?_) (fun h => ?_)
  · have hl : p.length = q.length := by omega
    simp
    refine LoopA.intro hZ (ι := { i : Nat // i ≤ p.length ∧ p.take i = q.take i }) (fun i => ⟨27, [(0, .c (.row false 121 (p.map pcE))), (1, .c (.row false 121 (q.map pcE))), (4, bA false), (5, iA i.1)], [], []⟩) (fun i => p.length - i.1) ⟨0, by simp⟩ (Sub.by [] (by simp)) fun ⟨i, hi, he⟩ => ?_
    simp
    refine Br.dec (fun h => ?_) (fun h => ?_)
    · have hw := w_inc h hf.1.1
      have hx : p[i]? = some p[i] := List.getElem?_eq_getElem h
      have hy : q[i]? = some q[i] := List.getElem?_eq_getElem (by omega)
      refine W_draw hZ hmo 0 8 [(0, []), (0, []), (0, []), (0, []), (0, []), (0, []), (0, []), (0, [])] (by kernel_rfl) ?_
      simp [hx, hy, pcE]
      refine CallA.snapE (eqPiece_spec hZ p[i] q[i]) (by simp [pcA, pcE]) (by simp) ?_
      simp
      refine Br.dec (fun h2 => ?_) (fun h2 => ?_)
      · simp
        exact ⟨i + 1, by omega, ⟨by omega, by rw [List.take_add_one, List.take_add_one, he, hx, hy, h2]⟩, Sub.by [] (by simp [hw])⟩
      · have hne : p ≠ q := by rintro rfl; simp at h2
        simp [hne]
    · simp
      rwa [List.take_of_length_le (by omega), List.take_of_length_le (by omega)] at he
  · have hl : p ≠ q := fun e => h (by rw [e])
    simp [hl]
end Go.Proofs.YtbhbkaonlillhaaGreatDoor
