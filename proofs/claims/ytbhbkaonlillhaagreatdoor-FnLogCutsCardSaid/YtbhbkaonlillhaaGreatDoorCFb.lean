/- Contracts: paths joined, parents, by the program. -/
import Derived.Test.YtbhbkaonlillhaaGreatDoorCFa
namespace Go.Proofs.YtbhbkaonlillhaaGreatDoor
open Go Go.Abs Go.Proofs Go.Tm
set_option linter.unusedSimpArgs false
set_option linter.unusedVariables false
set_option maxRecDepth 10000
variable {Z : TypeId → Nat} {G : World → Prop} {B0 : Nat}
def joinB (l : List ByteArray) : ByteArray := ⟨(Lib.join (l.map (·.data.toList)) [47]).toArray⟩
theorem join_step (g : ByteArray → List UInt8) : ∀ (l : List ByteArray), l ≠ [] → 47 :: Lib.join (l.map g) [47] = l.flatMap fun x => 47 :: g x
  | [], h => absurd rfl h
  | [x], _ => by simp [Lib.join, List.intercalate, List.intersperse]
  | x :: y :: l, _ => by
    have ih := join_step g (y :: l) (by simp)
    rw [List.flatMap_cons, ← ih]
    simp [Lib.join, List.intercalate, List.intersperse]
theorem joinF_list : ∀ (l : List ByteArray) (s : ByteArray), (joinF s l).data.toList = s.data.toList ++ l.flatMap fun x => 47 :: x.data.toList
  | [], s => by simp [joinF]
  | x :: l, s => by
    have := joinF_list l (s ++ slash ++ x)
    unfold joinF at this ⊢
    rw [List.foldl_cons, this]
    simp [slash, ByteArray.data_append]
theorem ba_ext {a b : ByteArray} (h : a.data.toList = b.data.toList) : a = b := by
  cases a; cases b
  simp only [ByteArray.mk.injEq]
  exact Array.toList_inj.1 h
theorem join_eq (l : List ByteArray) : slash ++ joinB l = joinP l := by
  unfold joinP
  by_cases h : l = []
  · subst h; rfl
  · rw [if_neg (by simpa using h)]
    apply ba_ext
    rw [joinF_list, ByteArray.data_append, Array.toList_append, ← join_step (fun x => x.data.toList) l h]
    rfl
theorem joinB_size {l : List ByteArray} (hb : l.length ≤ 1000 ∧ ∀ x ∈ l, x.size ≤ 1000) : (joinB l).size ≤ 1001000 := by
  have h1 := congrArg ByteArray.size (join_eq l)
  rw [ByteArray.size_append] at h1
  unfold joinP at h1
  split at h1
  · have : slash.size = 1 := rfl
    omega
  · have := joinF_size 1000 l ⟨#[]⟩ hb.2
    have h2 : (⟨#[]⟩ : ByteArray).size = 0 := rfl
    have h3 : l.length * 1001 ≤ 1000 * 1001 := Nat.mul_le_mul_right _ hb.1
    omega
theorem fr_below {w w' : World} (h : Go.RowKit.Below w.heap.size w w') : Fr (fun _ => False) w w' := ⟨h.os, h.tape, h.output, h.size, fun k hk _ => h.block k hk⟩
theorem join_spec (hZ : ZOk Tryz.prog Z) (l : List ByteArray) (hb : l.length ≤ 1000 ∧ ∀ x ∈ l, x.size ≤ 1000) : Does Z Tryz.prog G B0 177 [.c (strsE false l), sA slash] [] [] (fun y _ => y = sA (joinB l)) := by
  have hs := joinB_size hb
  have h := Does.rd (Z := Z) (P := Tryz.prog) (G := G) (B0 := B0) (f := 177) (e := 9) (enc := Value.string) (ys := l) (xs := [.string slash]) (y := sA (joinB l)) (v := .string (joinB l)) (by kernel_rfl) (hZ.sz (ag := false) (by kernel_rfl)) rfl (fun w S => .c (.sc (decide_eq_true (show (joinB l).size ≤ maxLen by unfold maxLen; omega))))
    (fun w u hu => by
      rcases hu with ⟨a, cap, rfl, rfl⟩ | ⟨b, off, cap, rfl, hbk, hcap, hc⟩
      · refine (Tryz.strings_Join_none a cap slash w).mono fun en w' ⟨h1, h2⟩ => ?_
        subst h2
        exact ⟨h1, fr_self _⟩
      · have hl : (Lib.join (l.map (·.data.toList)) slash.data.toList).length = (joinB l).size := rfl
        exact (Tryz.strings_Join b off cap l slash w hc hbk (by have := hb.1; omega) hcap (by rw [hl]; omega)).mono fun en w' ⟨h1, h2⟩ => ⟨h1, fr_below h2⟩)
  simpa [strsE, scs, scA] using h
theorem iJoinPath_spec (hZ : ZOk Tryz.prog Z) (l : List ByteArray) (hb : l.length ≤ 1000 ∧ ∀ x ∈ l, x.size ≤ 1000) : Does Z Tryz.prog G B0 122 [.c (strsE false l)] [] [] (fun y _ => y = sA (joinP l)) := by
  have hs := joinB_size hb
  refine Does.bodyF hZ Tryz.func122 rfl rfl (Nat.le_of_ble_eq_true rfl) fun hf => ?_
  simp [Tryz.f122]
  refine CallA.snapE (join_spec hZ l hb) (by simp [slash]) (by simp) ?_
  simp
  refine Need.mk (by omega) ?_
  simp [← join_eq, slash]
theorem iParentPath_spec (hZ : ZOk Tryz.prog Z) (hG : ∀ w, G w → MG w) (p : ByteArray) (hp : p.size ≤ 1048576) : Does Z Tryz.prog G B0 176 [sA p] [] [] (fun y _ => y = .tup [sA (upOf p).1, sA (upOf p).2, bA (namedP p)]) := by
  show Does Z Tryz.prog G B0 176 [sA p] [] [] (fun y _ => y = .tup [sA ((parentP p).getD (⟨#[]⟩, ⟨#[]⟩)).1, sA ((parentP p).getD (⟨#[]⟩, ⟨#[]⟩)).2, bA (parentP p).isSome])
  generalize hr : parentP p = r
  refine Does.bodyF hZ Tryz.func176 rfl rfl (Nat.le_of_ble_eq_true rfl) fun hf => ?_
  simp [Tryz.f176]
  refine CallA.snapE (iSplitPath_spec2 hZ hG p hp) (by simp) (by simp [strsE, noShrLL_mem]) ?_
  unfold parentP at hr
  cases hs : splitP p with
  | none =>
    rw [hs] at hr
    dsimp only at hr
    subst hr
    simp [strsE]
  | some l =>
    rw [hs] at hr
    dsimp only at hr
    simp [strsE]
    have hl := splitP_ok hs
    rcases List.eq_nil_or_concat l with rfl | ⟨q, x, rfl⟩
    · simp at hr
      subst hr
      simp
    · rw [List.concat_eq_append] at hr hl ⊢
      simp at hr
      subst hr
      have hw : IntKind.i64.wrap (q.length : Int) = q.length := wrap_i64 (by have := hl.1; simp at this; omega)
      simp [hw]
      refine W_drawB hZ hmo 1 rfl 1 9 [(1, []), (1, []), (1, []), (1, []), (2, []), (2, []), (2, []), (2, []), (2, [1])] (by kernel_rfl) ?_
      simp [hw, show (q.length : Int) ≤ (q.length : Int) + 1 by omega]
      refine CallD.snapE (iJoinPath_spec hZ q ⟨by have := hl.1; simp at this; omega, fun y hy => by have := nmB_size (hl.2 y (by simp [hy])); omega⟩) (by simp [strsE]) (by simp) ?_
      simp [hw]
      refine Need.mk (by omega) ?_
      simp
theorem inamed_spec (hZ : ZOk Tryz.prog Z) (hG : ∀ w, G w → MG w) (p : ByteArray) (hp : p.size ≤ 1048576) : Does Z Tryz.prog G B0 121 [sA p] [] [] (fun y _ => y = bA (namedP p)) := by
  refine Does.bodyF hZ Tryz.func121 rfl rfl (Nat.le_of_ble_eq_true rfl) fun hf => ?_
  simp [Tryz.f121]
  refine CallA.snapE (iParentPath_spec hZ hG p hp) (by simp) (by simp) ?_
  simp
def under (p q : ByteArray) : Bool := decide (p = q) || Lib.hasPrefix p.data.toList (q ++ slash).data.toList
theorem str_eq (a b : ByteArray) : (a.toList == b.toList) = decide (a = b) := by
  rw [ByteArray.toList_eq, ByteArray.toList_eq]
  by_cases h : a = b
  · subst h; simp
  · have : a.data.toList ≠ b.data.toList := fun c => h (ba_ext c)
    rw [beq_eq_false_iff_ne.2 this]
    simp [h]
theorem underPath_spec (hZ : ZOk Tryz.prog Z) (p q : ByteArray) (hq : q.size ≤ 1048576) : Does Z Tryz.prog G B0 209 [sA p, sA q] [] [] (fun y _ => y = bA (under p q)) := by
  refine Does.bodyF hZ Tryz.func209 rfl rfl (Nat.le_of_ble_eq_true rfl) fun hf => ?_
  simp [Tryz.f209, under]
  refine Br.dec (fun h => ?_) (fun h => ?_) <;> simp [h]
  refine Need.mk (by omega) ?_
  simp
  refine CallA.snapE (hasPrefix_spec hZ p (q ++ slash)) (by simp [slash]) (by simp) ?_
  simp
end Go.Proofs.YtbhbkaonlillhaaGreatDoor
