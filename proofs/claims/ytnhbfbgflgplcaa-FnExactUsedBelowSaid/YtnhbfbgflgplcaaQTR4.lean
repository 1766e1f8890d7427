/- Walks, as the kit's print writes them, run with stubs of my own and mended: TR. -/
import Derived.Test.YtnhbfbgflgplcaaQTR0
namespace Go.Proofs.Ytnhbfbgflgplcaa.QTR
open Go.Proofs.YtnhbfbgflgplcaaW Go.Proofs.YtnhbfbgflgplcaaW.Zip
open Go.RowKit Go.Proofs.YtnhbfbgflgplcaaW.PrintWords Go.Proofs.YtnhbfbgflgplcaaW.PrintLast Go.Proofs.YtnhbfbgflgplcaaW.PrintMore
attribute [local go_sem] max2_int min2_int max_two min_two max_three min_three max_four min_four   -- for this text's walks alone
set_option linter.unusedVariables false
set_option linter.unusedSimpArgs false

/-! ### impl_Inode_64: function 64 -/
instance instInh_inode : Inhabited S52 := ⟨z52⟩
/-- A node with the header of its row. -/
abbrev NodeH := S52 × Option Addr × Nat
def encI (z : NodeH) : List Value := [.int .i64 z.1.f0, .int .i64 z.1.f1, .string z.1.f2, .bool z.1.f3, .int .i64 z.1.f4, .int .i64 z.1.f5, .int .i64 z.1.f6, .slice z.2.1 z.1.f7.length z.2.2, .int .i64 z.1.f8]
theorem idxBy_fst {β : Type} (p : S52 → Bool) (d : S52 × β) (d' : S52) : ∀ (zs : List (S52 × β)) (i : Nat), Lib.idxByFrom (fun _ y => p y.1) d zs i = Lib.idxByFrom (fun _ y => p y) d' (zs.map (·.1)) i
  | [], _ => rfl
  | z :: zs, i => by
    simp only [Lib.idxByFrom, List.map_cons]
    rw [idxBy_fst p d d' zs (i + 1)]
/-- The nodes of a row, each with its header. -/
theorem rowI {w : World} {b o : Nat} {l : List S52} (hc : ∀ (j : Nat) x, l[j]? = some x → ∃ c : List Value, c.length = 9 ∧ k52.K w x c ∧ ∀ i v, c[i]? = some v → w.cell? ((⟨b, o, none⟩ : Addr).add (j * 9 + i)) = some v) :
    ∃ zs : List NodeH, zs.map (·.1) = l ∧ ∀ j, j < zs.length → ∀ i v, (encI zs[j]!)[i]? = some v → w.cell? ⟨b, o + j * 9 + i, none⟩ = some v := by
  have ha : ∀ j, (⟨b, o, none⟩ : Addr).add j = ⟨b, o + j, none⟩ := fun j => by
    unfold Addr.add
    by_cases hj : j = 0
    · subst hj; rfl
    · rw [if_neg hj]
  have hz : ∀ j : Fin l.length, ∃ q : Option Addr × Nat, ∀ i v, (encI (l[j], q))[i]? = some v → w.cell? ⟨b, o + j.1 * 9 + i, none⟩ = some v := fun j => by
    obtain ⟨c, _, hk, h⟩ := hc j.1 l[j] (List.getElem?_eq_getElem j.2)
    obtain ⟨A7, c7, rfl, _, _⟩ := k52_open hk
    refine ⟨(A7, c7), fun i v hi => ?_⟩
    have := h i v hi
    rw [ha, ← Nat.add_assoc] at this
    exact this
  obtain ⟨f, hf⟩ := Classical.axiomOfChoice hz
  refine ⟨List.ofFn (fun j : Fin l.length => (l[j], f j)), ?_, fun j hj i v hi => ?_⟩
  · apply List.ext_getElem
    · simp
    · intro i h1 h2
      simp
  · have hj' : j < l.length := by simpa using hj
    have e : (List.ofFn (fun j : Fin l.length => (l[j], f j)))[j]! = (l[j], f ⟨j, hj'⟩) := by
      rw [List.getElem!_eq_getElem?_getD, List.getElem?_eq_getElem hj]
      simp
    rw [e] at hi
    exact hf ⟨j, hj'⟩ i v hi
/-- slices.IndexFunc at nodes lies here. -/
def idxI_ren : Go.Shelf.Ren := ⟨fun | 6 => 64 | n => n, fun | 22 => 27 | 23 => 52 | 25 => 53 | 0 => 0 | 3 => 3 | 4 => 4 | n => n, fun n => n⟩
theorem idxI_lays : SlLaysH0.n6 Try.prog idxI_ren where
  mixed := by kernel_rfl
  f6 := ⟨Try.f64.name, by kernel_rfl, Try.func64.trans (congrArg some (by kernel_rfl))⟩
  t0 := Try.underlying0
  a0 := Try.isAgg0
  z0 := Try.sizeOf0
  v0 := Try.zeroValue0
  t3 := Try.underlying3
  a3 := Try.isAgg3
  z3 := Try.sizeOf3
  v3 := Try.zeroValue3
  t4 := Try.underlying4
  a4 := Try.isAgg4
  z4 := Try.sizeOf4
  v4 := Try.zeroValue4
  t22 := Try.underlying27
  a22 := Try.isAgg27
  z22 := Try.sizeOf27
  v22 := Try.zeroValue27
  t25 := Try.underlying53
  a25 := Try.isAgg53
  z25 := Try.sizeOf53
  v25 := Try.zeroValue53
/-- slices.IndexFunc at a list of nodes that is told by its cells, nil too. -/
theorem idxI_calls (A0 : Option Addr) (c0 : Nat) (l0 : List S52) (w : World) (hr0 : Kd.C k52 w A0 l0.length l0) (p : S52 → Bool) (g : Nat) (lb : Array Value)
    (eg : ∀ args w, (callFunc g args).run Try.prog w = .ok (.enter g args) w) (hp : PredBelow Try.prog g lb (fun x : NodeH => .agg (encI x).toArray) (fun x => p x.1) w) :
    Calls Try.prog 64 #[.slice A0 l0.length c0, .func (.func g) #[] lb] w fun e w' => e = .returned (.int .i64 (Lib.idxBy (fun _ y => p y) l0 default)) ∧ Below w.heap.size w w' := by
  cases l0 with
  | nil =>
    go_enter Try.func64, Try.ntmps64
    go_wp2
    go_loopg [5, 8] 0 (fun gg _ s8 wr => s8 = .int .i64 0 ∧ Aside0 (Below w.heap.size w wr))
    case atStart => exact ⟨rfl, ⟨Below.refl _ w⟩⟩
    case round =>
      obtain ⟨rfl, BW⟩ := hrel
      have hlt : ¬ (0 : Int) < ((([] : List S52).length : Nat) : Int) := by simp
      go_wp2
      go_ret
      exact ⟨rfl, BW.out⟩
  | cons x l =>
    obtain ⟨ad, rfl, hc⟩ := hr0.2.2 (by simp)
    obtain ⟨b, o, s⟩ := ad
    have c0_ : ∃ v, w.cell? ((⟨b, o, s⟩ : Addr).add (0 * 9 + 0)) = some v := by
      obtain ⟨c, h1, h2, h3⟩ := hc 0 x rfl
      obtain ⟨A7, c7, rfl, _, _⟩ := k52_open h2
      exact ⟨_, h3 0 _ rfl⟩
    obtain ⟨v0, c0_⟩ := c0_
    have hs : s = none := by
      unfold World.cell? Addr.add at c0_
      cases s with
      | none => rfl
      | some v =>
        exfalso
        simp only [Nat.zero_mul, Nat.add_zero, if_true] at c0_
        split at c0_
        · simp at c0_
        · simp at c0_
    subst hs
    have hb : b < w.heap.size := by
      unfold World.cell? Addr.add at c0_
      simp only [Nat.zero_mul, Nat.add_zero, if_true] at c0_
      refine Nat.lt_of_not_le fun hle => ?_
      rw [Array.getElem?_eq_none hle] at c0_
      simp at c0_
    have hN : (x :: l).length ≤ 9223372036854775807 := hr0.2.1
    obtain ⟨zs, hz1, hz2⟩ := rowI hc
    have hlen : zs.length = (x :: l).length := by rw [← hz1]; simp
    have h := AnyQ.slices_IndexFunc idxI_lays 9 Try.isAgg52 Try.sizeOf52 encI (fun _ => rfl) (fun x => p x.1) g lb eg b o (x :: l).length c0 zs w hp (Nat.le_of_eq hlen.symm) hN hb hz2
    rw [← hlen, List.take_length, hlen] at h
    have e : Lib.idxBy (fun _ (y : NodeH) => p y.1) zs default = Lib.idxBy (fun _ y => p y) (x :: l) default := by
      unfold Lib.idxBy
      rw [idxBy_fst p default default zs 0, hz1]
    rw [e] at h
    exact h


/-! ### impl_nodeAt: function 49 -/
def impl_nodeAt.f (k : Nat) (l0_0 : List S52) (a0_1 : Int) (a1 : Int) : Option (Int) := some (Lib.idxBy (fun _ y => decide (y.f0 = a1)) l0_0 default)
theorem impl_nodeAt.mono : ∀ a0 a1 a2 k, LeO (impl_nodeAt.f k a0 a1 a2) (impl_nodeAt.f (k + 1) a0 a1 a2) := fun _ _ _ _ => LeO.refl _
/-- The closure of nodeAt. -/
theorem impl_nodeAt.pred (i : Int) (C : Nat) (w : World) (hC : C < w.heap.size) (cC : w.cell? ⟨C, 0, none⟩ = some (.int .i64 i)) :
    PredBelow Try.prog 66 #[.pointer (some ⟨C, 0, none⟩)] (fun x : NodeH => .agg (encI x).toArray) (fun x => decide (x.1.f0 = i)) w := fun W x hb => by
  have dC : W.cell? ⟨C, 0, none⟩ = some (.int .i64 i) := (hb.cell (p := ⟨C, 0, none⟩) hC).trans cC
  have hCW : C < W.heap.size := Nat.lt_of_lt_of_le hC hb.size
  clear cC hC hCW
  obtain ⟨⟨f0, f1, f2, f3, f4, f5, f6, f7, f8⟩, A7, c7⟩ := x
  obtain ⟨n7, hn7⟩ : ∃ n7, n7 = f7.length := ⟨_, rfl⟩
  show Calls Try.prog 66 #[.agg #[.int .i64 f0, .int .i64 f1, .string f2, .bool f3, .int .i64 f4, .int .i64 f5, .int .i64 f6, .slice A7 f7.length c7, .int .i64 f8], .pointer (some ⟨C, 0, none⟩)] W _
  rw [← hn7]
  clear hn7
  have dC' := Lib.cell?_alloc_some (Obj.cells #[Value.int IntKind.i64 f0, Value.int IntKind.i64 f1, Value.string f2, Value.bool f3, Value.int IntKind.i64 f4, Value.int IntKind.i64 f5, Value.int IntKind.i64 f6, Value.slice A7 n7 c7, Value.int IntKind.i64 f8] 52) dC
  clear dC
  have hr : decide (f0 = i) = (f0 == i) := by by_cases e : f0 = i <;> simp [e]
  show Calls _ _ _ _ fun e w' => e = .returned (.bool (decide (f0 = i))) ∧ _
  rw [hr]
  clear hr
  go_enter Try.func66, Try.ntmps66
  go_wp2
  all_goals (go_ret; exact ⟨rfl, hb.alloc hb.size _⟩)
set_option maxHeartbeats 8000000 in
set_option maxRecDepth 100000 in
theorem impl_nodeAt.calls (k : Nat) (A0_0 : Option Addr) (c0_0 : Nat) (l0_0 : List (S52)) (a0_1 : Int) (a1 : Int) (r : Int) (w : World) (hr0_0 : Kd.C k52 w A0_0 l0_0.length l0_0) (hc0_0 : l0_0.length ≤ c0_0) (h : impl_nodeAt.f k l0_0 a0_1 a1 = some r) :
    Calls Try.prog 49 #[.agg #[.slice A0_0 l0_0.length c0_0, .int .i64 a0_1], .int .i64 a1] w fun e w' => e = .returned (.int .i64 r) ∧ Below w.heap.size w w' := by
  obtain rfl := Option.some.inj h
  clear h
  have eg : ∀ args w, (callFunc 66 args).run Try.prog w = .ok (.enter 66 args) w := enters_of Try.func66 (by kernel_rfl) rfl
  let w1 := w.alloc (.cells #[.slice A0_0 l0_0.length c0_0, .int .i64 a0_1] 29)
  let w2 := w1.alloc (.cells #[.int .i64 a1] 3)
  have b1 : Below w.heap.size w w1 := (Below.refl _ w).alloc (Nat.le_refl _) _
  have b2 : Below w.heap.size w w2 := b1.alloc b1.size _
  have hcon := idxI_calls A0_0 c0_0 l0_0 w2 (Kd.C_below hr0_0 b2) (fun y => decide (y.f0 = a1)) 66 #[.pointer (some ⟨w1.heap.size, 0, none⟩)] eg
    (impl_nodeAt.pred a1 w1.heap.size w2 (by simp [w2]) (by simp [w2]))
  have hcon' : Calls Try.prog 64 #[.slice A0_0 l0_0.length c0_0, .func (.func 66) #[] #[.pointer (some ⟨w.heap.size + 1, 0, none⟩)]] ((w.alloc (.cells #[.slice A0_0 l0_0.length c0_0, .int .i64 a0_1] 29)).alloc (.cells #[.int .i64 a1] 3)) fun e w' => e = .returned (.int .i64 (Lib.idxBy (fun _ y => decide (y.f0 = a1)) l0_0 default)) ∧ Below w2.heap.size w2 w' := by
    have z1 : w1.heap.size = w.heap.size + 1 := by simp [w1]
    rw [z1] at hcon
    exact hcon
  clear hcon
  generalize Lib.idxBy (fun _ y => decide (y.f0 = a1)) l0_0 default = r at hcon' ⊢
  have HC := Aside0.mk hcon'
  clear hcon'
  have HB3 := Aside0.mk b2
  clear b1 b2
  clear_value w2 w1
  go_enter Try.func49, Try.ntmps49
  go_wp2_with (go_at_call 64; refine HC.out.mono ?_; rintro e w' ⟨rfl, hb'⟩)
  go_ret
  exact ⟨rfl, HB3.out.trans (hb'.mono HB3.out.size)⟩


/-! ### impl_reaches: function 44 -/
mutual
def impl_reaches.l0 : Nat → Int → List (S52) → Int → Int → Int → ByteArray → Bool → Int → Int → Int → List (S64) → Int → Option (Bool)
  | 0, _, _, _, _, _, _, _, _, _, _, _, _ => none
  | k + 1, x5, x196000, x196001, x197000, x197001, x197002, x197003, x197004, x197005, x197006, x197007, x197008 => if x5 < 4 then ((impl_nodeAt.f k x196000 x196001 x197001).bind fun t197 => (if t197 < 0 then (impl_reaches.j1 k x5 t197 true x196000 x196001) else (if 0 ≤ t197 then (if t197 < (x196000.length : Int) then (impl_reaches.j1 k x5 t197 (!((rd_T52 x196000 t197).f3)) x196000 x196001) else (none)) else (none)))) else (some false)
def impl_reaches.j1 : Nat → Int → Int → Bool → List (S52) → Int → Option (Bool)
  | 0, _, _, _, _, _ => none
  | k + 1, x5, x6, x25, x196000, x196001 => if x25 = true then (some false) else (if 0 ≤ x6 then (if x6 < (x196000.length : Int) then (if ((rd_T52 x196000 x6).f0) = 1 then (some true) else (impl_reaches.l0 k (wrap64 (x5 + 1)) x196000 x196001 ((rd_T52 x196000 x6).f0) ((rd_T52 x196000 x6).f1) ((rd_T52 x196000 x6).f2) ((rd_T52 x196000 x6).f3) ((rd_T52 x196000 x6).f4) ((rd_T52 x196000 x6).f5) ((rd_T52 x196000 x6).f6) ((rd_T52 x196000 x6).f7) ((rd_T52 x196000 x6).f8))) else (none)) else (none))
end
def impl_reaches.f (k : Nat) (l0_0 : List (S52)) (a0_1 : Int) (a1_0 : Int) (a1_1 : Int) (a1_2 : ByteArray) (a1_3 : Bool) (a1_4 : Int) (a1_5 : Int) (a1_6 : Int) (l1_7 : List (S64)) (a1_8 : Int) : Option (Bool) := impl_reaches.l0 k 0 l0_0 a0_1 a1_0 a1_1 a1_2 a1_3 a1_4 a1_5 a1_6 l1_7 a1_8
theorem impl_reaches.mono_l : ∀ k, (∀ y0 y1 y2 y3 y4 y5 y6 y7 y8 y9 y10 y11, LeO (impl_reaches.l0 k y0 y1 y2 y3 y4 y5 y6 y7 y8 y9 y10 y11) (impl_reaches.l0 (k + 1) y0 y1 y2 y3 y4 y5 y6 y7 y8 y9 y10 y11)) ∧ (∀ y0 y1 y2 y3 y4, LeO (impl_reaches.j1 k y0 y1 y2 y3 y4) (impl_reaches.j1 (k + 1) y0 y1 y2 y3 y4))
  | 0 => ⟨fun _ _ _ _ _ _ _ _ _ _ _ _ r h => by simp [impl_reaches.l0] at h, fun _ _ _ _ _ r h => by simp [impl_reaches.j1] at h⟩
  | k + 1 => by
    obtain ⟨ih0, ih1⟩ := impl_reaches.mono_l k
    refine ⟨?_, ?_⟩
    · intro y0 y1 y2 y3 y4 y5 y6 y7 y8 y9 y10 y11
      unfold impl_reaches.l0
      repeat' first
      | (with_reducible exact ih0 _ _ _ _ _ _ _ _ _ _ _ _)
      | (with_reducible exact ih1 _ _ _ _ _)
      | (with_reducible exact impl_nodeAt.mono _ _ _ _)
      | (with_reducible exact LeO.refl _)
      | (with_reducible exact LeO.none _)
      | (with_reducible refine LeO.ite ?_ ?_)
      | (with_reducible refine LeO.bind ?_ (fun _ => ?_))
      | exact ih0 _ _ _ _ _ _ _ _ _ _ _ _
      | exact ih1 _ _ _ _ _
      | exact impl_nodeAt.mono _ _ _ _
      | exact LeO.none _
      | refine LeO.ite ?_ ?_
      | refine LeO.bind ?_ (fun _ => ?_)
    · intro y0 y1 y2 y3 y4
      unfold impl_reaches.j1
      repeat' first
      | (with_reducible exact ih0 _ _ _ _ _ _ _ _ _ _ _ _)
      | (with_reducible exact ih1 _ _ _ _ _)
      | (with_reducible exact impl_nodeAt.mono _ _ _ _)
      | (with_reducible exact LeO.refl _)
      | (with_reducible exact LeO.none _)
      | (with_reducible refine LeO.ite ?_ ?_)
      | (with_reducible refine LeO.bind ?_ (fun _ => ?_))
      | exact ih0 _ _ _ _ _ _ _ _ _ _ _ _
      | exact ih1 _ _ _ _ _
      | exact impl_nodeAt.mono _ _ _ _
      | exact LeO.none _
      | refine LeO.ite ?_ ?_
      | refine LeO.bind ?_ (fun _ => ?_)
theorem impl_reaches.mono : ∀ a0 a1 a2 a3 a4 a5 a6 a7 a8 a9 a10 k, LeO (impl_reaches.f k a0 a1 a2 a3 a4 a5 a6 a7 a8 a9 a10) (impl_reaches.f (k + 1) a0 a1 a2 a3 a4 a5 a6 a7 a8 a9 a10) := by
  intro a0 a1 a2 a3 a4 a5 a6 a7 a8 a9 a10 k
  obtain ⟨ih0, ih1⟩ := impl_reaches.mono_l k
  unfold impl_reaches.f
  repeat' first
      | (with_reducible exact ih0 _ _ _ _ _ _ _ _ _ _ _ _)
      | (with_reducible exact ih1 _ _ _ _ _)
      | (with_reducible exact impl_nodeAt.mono _ _ _ _)
      | (with_reducible exact LeO.refl _)
      | (with_reducible exact LeO.none _)
      | (with_reducible refine LeO.ite ?_ ?_)
      | (with_reducible refine LeO.bind ?_ (fun _ => ?_))
      | exact ih0 _ _ _ _ _ _ _ _ _ _ _ _
      | exact ih1 _ _ _ _ _
      | exact impl_nodeAt.mono _ _ _ _
      | exact LeO.none _
      | refine LeO.ite ?_ ?_
      | refine LeO.bind ?_ (fun _ => ?_)
set_option maxHeartbeats 8000000 in
set_option maxRecDepth 100000 in
theorem impl_reaches.calls (k : Nat) (P0_0_ : Nat → Prop) (A0_0 : Option Addr) (c0_0 : Nat) (l0_0 : List (S52)) (a0_1 : Int) (a1_0 : Int) (a1_1 : Int) (a1_2 : ByteArray) (a1_3 : Bool) (a1_4 : Int) (a1_5 : Int) (a1_6 : Int) (P1_7_ : Nat → Prop) (A1_7 : Option Addr) (c1_7 : Nat) (l1_7 : List (S64)) (a1_8 : Int) (r : Bool) (w : World) (hs0_0 : Kd.V k52 52 w w.heap.size (fun k_ => P0_0_ k_) (.slice A0_0 l0_0.length c0_0) l0_0) (hs1_7 : Kd.V k64 64 w w.heap.size (fun k_ => P1_7_ k_) (.slice A1_7 l1_7.length c1_7) l1_7) (h : impl_reaches.f k l0_0 a0_1 a1_0 a1_1 a1_2 a1_3 a1_4 a1_5 a1_6 l1_7 a1_8 = some r) :
    Calls Try.prog 44 #[.agg #[.slice A0_0 l0_0.length c0_0, .int .i64 a0_1], .agg #[.int .i64 a1_0, .int .i64 a1_1, .string a1_2, .bool a1_3, .int .i64 a1_4, .int .i64 a1_5, .int .i64 a1_6, .slice A1_7 l1_7.length c1_7, .int .i64 a1_8]] w fun e w' => e = .returned (.bool r) ∧ Below w.heap.size w w' := by
  have hu29 := Try.underlying29
  have hu52 := Try.underlying52
  have HO0_0 := Aside0.mk (show Kd.V k52 52 w w.heap.size (fun k_ => ((P0_0_ k_ ∨ P1_7_ k_) ∨ w.heap.size ≤ k_)) (.slice A0_0 l0_0.length c0_0) l0_0 from Kd.V_mono hs0_0 (fun k_ hk => .inl (.inl hk)))
  have HO1_7 := Aside0.mk (show Kd.V k64 64 w w.heap.size (fun k_ => ((P0_0_ k_ ∨ P1_7_ k_) ∨ w.heap.size ≤ k_)) (.slice A1_7 l1_7.length c1_7) l1_7 from Kd.V_mono hs1_7 (fun k_ hk => .inl (.inr hk)))
  have HB := Aside0.mk (Below.refl w.heap.size w)
  have H : (impl_reaches.l0 k 0 l0_0 a0_1 a1_0 a1_1 a1_2 a1_3 a1_4 a1_5 a1_6 l1_7 a1_8) = some r := h
  clear h
  have H' := Aside0.mk H
  clear H
  go_enter Try.func44, Try.ntmps44
  go_wp2_with (first | ((with_reducible refine gate_dst (N := 2) rfl ?_); refine box_event ?hg (N := 2) ?hd (cs := #[.slice A0_0 l0_0.length c0_0, .int .i64 a0_1]) (t := 29) ?hr ?_; (case hd => rfl); (case hg => rfl); (case hr => first | (go_simp; done) | (go_simp; rfl)); intro gb195 hg w3 hbox hb; have n0_ := Aside0.mk (Kd.V_below (Kd.V_elderB (by (with_reducible repeat (first | apply Kd.V_alloc | apply Kd.V_drewN | apply Kd.V_drew)); exact HO0_0.out) gb195 (Nat.le_of_eq hg.symm)) hb); have n1_ := Aside0.mk (Kd.V_below (Kd.V_elderB (by (with_reducible repeat (first | apply Kd.V_alloc | apply Kd.V_drewN | apply Kd.V_drew)); exact HO1_7.out) gb195 (Nat.le_of_eq hg.symm)) hb); have n2_ := Aside0.mk (below_step (pl0 HB.out) hb); have n3_ := Aside0.mk (hbox); have n4_ := Aside0.mk ((by rw [hg]; exact (below_size (pl0 HB.out)) : w.heap.size ≤ gb195)); have n5_ := Aside0.mk ((by rw [hg]; exact (below_size (pl0 HB.out)) : w.heap.size ≤ gb195)); clear HO0_0; clear HO1_7; clear HB; have HO0_0 := n0_; have HO1_7 := n1_; have HB := n2_; have BK195 := n3_; have GW195 := n4_; have GE195 := n5_; clear n0_ n1_ n2_ n3_ n4_ n5_; clear hb hbox hg) | ((with_reducible refine gate_dst (N := 3) rfl ?_); refine box_event ?hg (N := 3) ?hd (cs := #[.int .i64 a1_0, .int .i64 a1_1, .string a1_2, .bool a1_3, .int .i64 a1_4, .int .i64 a1_5, .int .i64 a1_6, .slice A1_7 l1_7.length c1_7, .int .i64 a1_8]) (t := 52) ?hr ?_; (case hd => rfl); (case hg => rfl); (case hr => first | (go_simp; done) | (go_simp; rfl)); intro gb196 hg w4 hbox hb; have n0_ := Aside0.mk (Kd.V_below (Kd.V_elderB (by (with_reducible repeat (first | apply Kd.V_alloc | apply Kd.V_drewN | apply Kd.V_drew)); exact HO0_0.out) gb196 (Nat.le_of_eq hg.symm)) hb); have n1_ := Aside0.mk (Kd.V_below (Kd.V_elderB (by (with_reducible repeat (first | apply Kd.V_alloc | apply Kd.V_drewN | apply Kd.V_drew)); exact HO1_7.out) gb196 (Nat.le_of_eq hg.symm)) hb); have n2_ := Aside0.mk (blk_below (g := gb195) (pk BK195.out) hb); have n3_ := Aside0.mk (below_step (pl1 HB.out GE195.out) hb); have n4_ := Aside0.mk (hbox); have n5_ := Aside0.mk ((by rw [hg]; exact (below_size (pl1 HB.out GE195.out)) : w.heap.size ≤ gb196)); have n6_ := Aside0.mk ((by rw [hg]; exact (below_size (pl1 HB.out GE195.out)) : w.heap.size ≤ gb196)); have n7_ := Aside0.mk ((by rw [hg]; exact Nat.ne_of_lt (blk_lt (g := gb195) (o := .cells #[.slice A0_0 l0_0.length c0_0, .int .i64 a0_1] 29 (0, 0)) (pk BK195.out)) : gb195 ≠ gb196)); have n8_ := Aside0.mk ((by rw [hg]; exact Nat.ne_of_gt (blk_lt (g := gb195) (o := .cells #[.slice A0_0 l0_0.length c0_0, .int .i64 a0_1] 29 (0, 0)) (pk BK195.out)) : gb196 ≠ gb195)); clear HO0_0; clear HO1_7; clear BK195; clear HB; have HO0_0 := n0_; have HO1_7 := n1_; have BK195 := n2_; have HB := n3_; have BK196 := n4_; have GW196 := n5_; have GE196 := n6_; have NB195_196 := n7_; have NB196_195 := n8_; clear n0_ n1_ n2_ n3_ n4_ n5_ n6_ n7_ n8_; clear hb hbox hg))
  go_loopg [5] k (fun kq v5 w' => ∃ (x5_1 : Int) (x197000_1 : Int) (x197001_1 : Int) (x197002_1 : ByteArray) (x197003_1 : Bool) (x197004_1 : Int) (x197005_1 : Int) (x197006_1 : Int) (x197007_1 : List (S64)) (x197008_1 : Int) (u197007 : Value), v5 = .int .i64 x5_1 ∧ Aside0 (impl_reaches.l0 kq x5_1 l0_0 a0_1 x197000_1 x197001_1 x197002_1 x197003_1 x197004_1 x197005_1 x197006_1 x197007_1 x197008_1 = some r) ∧ Aside0 (kq ≤ k) ∧ Aside0 (Kd.V k52 52 w' w.heap.size (fun k_ => ((P0_0_ k_ ∨ P1_7_ k_) ∨ w.heap.size ≤ k_) ∧ k_ ≠ gb195 ∧ k_ ≠ gb196) (.slice A0_0 l0_0.length c0_0) l0_0) ∧ Aside0 (Kd.V k64 64 w' w.heap.size (fun k_ => ((P0_0_ k_ ∨ P1_7_ k_) ∨ w.heap.size ≤ k_) ∧ k_ ≠ gb195 ∧ k_ ≠ gb196) u197007 x197007_1) ∧ Aside0 (w'.heap[gb195]? = some (.cells #[(.slice A0_0 l0_0.length c0_0), .int .i64 a0_1] 29 (0, 0))) ∧ Aside0 (w'.heap[gb196]? = some (.cells #[.int .i64 x197000_1, .int .i64 x197001_1, .string x197002_1, .bool x197003_1, .int .i64 x197004_1, .int .i64 x197005_1, .int .i64 x197006_1, u197007, .int .i64 x197008_1] 52 (0, 0))) ∧ Aside0 (Below w.heap.size w w'))
  case atStart => exact ⟨(0), (a1_0), (a1_1), (a1_2), (a1_3), (a1_4), (a1_5), (a1_6), (l1_7), (a1_8), (.slice A1_7 l1_7.length c1_7), eqa, H', ⟨Nat.le_refl _⟩, ⟨by (with_reducible repeat (first | apply Kd.V_alloc | apply Kd.V_drewN | apply Kd.V_drew)); exact Kd.V_mono HO0_0.out (fun _ hk => ⟨hk.1.1, ⟨hk.1.2, hk.2⟩⟩)⟩, ⟨by (with_reducible repeat (first | apply Kd.V_alloc | apply Kd.V_drewN | apply Kd.V_drew)); exact Kd.V_mono HO1_7.out (fun _ hk => ⟨hk.1.1, ⟨hk.1.2, hk.2⟩⟩)⟩, ⟨pk BK195.out⟩, ⟨pk BK196.out⟩, ⟨pl2 HB.out GE195.out GE196.out⟩⟩
  case round =>
   clear H'
   obtain ⟨x5_1, x197000_1, x197001_1, x197002_1, x197003_1, x197004_1, x197005_1, x197006_1, x197007_1, x197008_1, u197007, rfl, HA, HK1, HO_196000, HO_197007, BK195, BK196, HB⟩ := hrel
   cases gk with
   | zero => exact absurd HA.out (by simp [impl_reaches.l0])
   | succ k1 =>
    have H := HA.out
    clear HA
    simp only [impl_reaches.l0] at H
    by_cases c5 : x5_1 < 4
    ·rw [if_pos c5] at H
     have c5b0 : decide (x5_1 < 4) = true := decide_eq_true c5
     clear c5
     replace H := Option.bind_eq_some_iff.mp H
     obtain ⟨t197, A60, H⟩ := H
     replace H : (if t197 < 0 then (impl_reaches.j1 k1 x5_1 t197 true l0_0 a0_1) else (if 0 ≤ t197 then (if t197 < (l0_0.length : Int) then (impl_reaches.j1 k1 x5_1 t197 (!((rd_T52 l0_0 t197).f3)) l0_0 a0_1) else (none)) else (none))) = some r := H
     have A6 := Aside0.mk A60
     clear A60
     have HC7 := Aside0.mk H
     clear H
     have hnb8 := NB195_196.out
     have hnc8 := NB196_195.out
     obtain ⟨hcz9_0, hcz9_1, hfz9_0, hfz9_1⟩ := z2 BK195.out
     obtain ⟨hcz10_0, hcz10_1, hcz10_2, hcz10_3, hcz10_4, hcz10_5, hcz10_6, hcz10_7, hcz10_8, hfz10_0, hfz10_1, hfz10_2, hfz10_3, hfz10_4, hfz10_5, hfz10_6, hfz10_7, hfz10_8⟩ := z9 BK196.out
     go_upto_region 5 with (first | ((with_reducible refine gate_callee (f := 49) rfl ?_); refine goesL_ (some 14) rfl rfl Try.func49 (by kernel_rfl) rfl #[.agg #[.slice A0_0 l0_0.length c0_0, .int .i64 a0_1], .int .i64 x197001_1] rfl (by (try simp only [List.map_toArray, List.map_cons, List.map_nil]); first | done | rfl | (simp only [List.length_drop, List.length_take]; rfl)) ?_; (with_reducible refine (impl_nodeAt.calls k1 _ _ l0_0 a0_1 x197001_1 t197 _ ?side1 ?side2 A6.out).mono ?_); (case side1 => repeat (first | exact (Kd.V_reads' HO_196000.out).2.2 | (with_reducible refine Kd.C_alloc ?_ _) | (with_reducible refine Kd.C_drewN ?_ _) | (with_reducible refine Kd.C_drew ?_))); (case side2 => exact (Kd.V_reads' HO_196000.out).2.1); rintro e w11 ⟨rfl, hb⟩; refine ⟨_, rfl, ?_⟩; have n0_ := Aside0.mk (Kd.V_below (by (with_reducible repeat (first | apply Kd.V_alloc | apply Kd.V_drewN | apply Kd.V_drew)); exact HO_196000.out) hb); have n1_ := Aside0.mk (Kd.V_below (by (with_reducible repeat (first | apply Kd.V_alloc | apply Kd.V_drewN | apply Kd.V_drew)); exact HO_197007.out) hb); have n2_ := Aside0.mk (blk_below (g := gb195) (pk BK195.out) hb); have n3_ := Aside0.mk (blk_below (g := gb196) (pk BK196.out) hb); have n4_ := Aside0.mk (below_step (pl2 HB.out GE195.out GE196.out) hb); clear HO_196000; clear HO_197007; clear BK195; clear BK196; clear HB; have HO_196000 := n0_; have HO_197007 := n1_; have BK195 := n2_; have BK196 := n3_; have HB := n4_; clear n0_ n1_ n2_ n3_ n4_; (try clear hb); (try clear hb2); (try clear hk); (try clear hi)))
     (try simp only [Act.put, List.setIfInBounds_toArray, List.set_cons_zero, List.set_cons_succ])
     go_cut [25] (fun v25 wc => ∃ (kq : Nat) (x25_6 : Bool), v25 = .bool x25_6 ∧ Aside0 (impl_reaches.j1 kq x5_1 t197 x25_6 l0_0 a0_1 = some r) ∧ Aside0 (kq ≤ k1) ∧ Aside0 (Kd.V k52 52 wc w.heap.size (fun k_ => ((P0_0_ k_ ∨ P1_7_ k_) ∨ w.heap.size ≤ k_) ∧ k_ ≠ gb195 ∧ k_ ≠ gb196) (.slice A0_0 l0_0.length c0_0) l0_0) ∧ Aside0 (Kd.V k64 64 wc w.heap.size (fun k_ => ((P0_0_ k_ ∨ P1_7_ k_) ∨ w.heap.size ≤ k_) ∧ k_ ≠ gb195 ∧ k_ ≠ gb196) u197007 x197007_1) ∧ Aside0 (wc.heap[gb195]? = some (.cells #[(.slice A0_0 l0_0.length c0_0), .int .i64 a0_1] 29 (0, 0))) ∧ Aside0 (wc.heap[gb196]? = some (.cells #[.int .i64 x197000_1, .int .i64 x197001_1, .string x197002_1, .bool x197003_1, .int .i64 x197004_1, .int .i64 x197005_1, .int .i64 x197006_1, u197007, .int .i64 x197008_1] 52 (0, 0))) ∧ Aside0 (Below w.heap.size w wc))
     case first =>
      have H := HC7.out
      clear HC7
      by_cases c12 : t197 < 0
      ·rw [if_pos c12] at H
       have c12b0 : decide (t197 < 0) = true := decide_eq_true c12
       clear c12
       (first | rw [c12b0] | (simp only [i64_w, i32_w]; rw [c12b0]) | skip)
       have H' := Aside0.mk H
       clear H
       go_wp2
       go_meet
       case rel => exact ⟨_, (true), eqa, H', ⟨by have := HK1.out; first | omega | exact Nat.le_refl _⟩, ⟨by (with_reducible repeat (first | apply Kd.V_alloc | apply Kd.V_drewN | apply Kd.V_drew)); exact HO_196000.out⟩, ⟨by (with_reducible repeat (first | apply Kd.V_alloc | apply Kd.V_drewN | apply Kd.V_drew)); exact HO_197007.out⟩, ⟨pk BK195.out⟩, ⟨pk BK196.out⟩, ⟨pl2 HB.out GE195.out GE196.out⟩⟩
      ·rw [if_neg c12] at H
       have c12b0 : decide (t197 < 0) = false := decide_eq_false c12
       clear c12
       (first | rw [c12b0] | (simp only [i64_w, i32_w]; rw [c12b0]) | skip)
       by_cases c13 : 0 ≤ t197
       ·rw [if_pos c13] at H
        have c13b0 : decide (0 ≤ t197) = true := decide_eq_true c13
        clear c13
        by_cases c14 : t197 < (l0_0.length : Int)
        ·rw [if_pos c14] at H
         have c14b0 : decide (t197 < (l0_0.length : Int)) = true := decide_eq_true c14
         clear c14
         have H' := Aside0.mk H
         clear H
         have hnb15 := NB195_196.out
         have hnc15 := NB196_195.out
         obtain ⟨hcz16_0, hcz16_1, hfz16_0, hfz16_1⟩ := z2 BK195.out
         have p198 : 0 ≤ (t197 : Int) := oda
         have q198 : t197 < (l0_0.length : Int) := oda
         obtain ⟨ad198, A198_7, c198_7, e198, hx198_0, hx198_1, hx198_2, hx198_3, hx198_4, hx198_5, hx198_6, hx198_7, hx198_8, hl198_7, hi198_7⟩ := at_T52 (Kd.V_reads' HO_196000.out).2.2 t197 p198 q198
         cases e198
         obtain ⟨ce198, hce198, hMe198, hcc198⟩ := Kd.V_get HO_196000.out z52 t197 p198 (by first | exact q198 | exact of_decide_eq_true (by first | (with_reducible assumption) | assumption) | (have e_ := (Kd.V_reads' HO_196000.out).1; omega))
         obtain ⟨ua198_7, uc198_7, rfl, ul198_7, ge198_7⟩ := k52_openF hMe198
         have hv198_7 := hcc198 7 _ rfl
         rw [add_field _ _ 7 (by omega)] at hv198_7
         replace hv198_7 := Option.some.inj (hv198_7.symm.trans hx198_7)
         injection hv198_7 with hva_ hvn_ hvc_
         rw [hva_] at ge198_7
         rw [hvc_] at ul198_7
         have HL198_7 := Aside0.mk (show Kd.V k64 64 _ w.heap.size _ _ ((rd_T52 l0_0 t197).f7) from Kd.V_mk ul198_7 ge198_7)
         clear hva_ hvn_ hvc_ ge198_7 ul198_7
         clear hcc198 hce198
         have HR198_7 := Aside0.mk hi198_7
         have HC198_7 := Aside0.mk hl198_7
         clear hi198_7 hl198_7
         replace p198 := eq_true p198
         replace q198 := eq_true q198
         go_wp2
         go_meet
         case rel => exact ⟨_, (!((rd_T52 l0_0 t197).f3)), eqa, H', ⟨by have := HK1.out; first | omega | exact Nat.le_refl _⟩, ⟨by (with_reducible repeat (first | apply Kd.V_alloc | apply Kd.V_drewN | apply Kd.V_drew)); exact HO_196000.out⟩, ⟨by (with_reducible repeat (first | apply Kd.V_alloc | apply Kd.V_drewN | apply Kd.V_drew)); exact HO_197007.out⟩, ⟨pk BK195.out⟩, ⟨pk BK196.out⟩, ⟨pl2 HB.out GE195.out GE196.out⟩⟩
        ·rw [if_neg c14] at H
         exact absurd H (by simp)
       ·rw [if_neg c13] at H
        exact absurd H (by simp)
     case rest =>
      clear HC7
      try clear c5; try clear c5b0; try clear hcz10_0; try clear hcz10_1; try clear hcz10_2; try clear hcz10_3; try clear hcz10_4; try clear hcz10_5; try clear hcz10_6; try clear hcz10_7; try clear hcz10_8; try clear hcz9_0; try clear hcz9_1; try clear hfz10_0; try clear hfz10_1; try clear hfz10_2; try clear hfz10_3; try clear hfz10_4; try clear hfz10_5; try clear hfz10_6; try clear hfz10_7; try clear hfz10_8; try clear hfz9_0; try clear hfz9_1
      obtain ⟨kq, x25_6, rfl, HA, HJ6, HO_196000, HO_197007, BK195, BK196, HB⟩ := hcut
      cases kq with
      | zero => exact absurd HA.out (by simp [impl_reaches.j1])
      | succ kj6 =>
       have H := HA.out
       clear HA
       simp only [impl_reaches.j1] at H
       by_cases c17 : x25_6 = true
       ·subst c17
        have H1 : (some false) = some r := by rw [if_pos rfl] at H; exact H
        clear H
        have H := H1
        clear H1
        obtain rfl := Option.some.inj H
        go_wp2
        go_ret
        exact ⟨by first | rfl | (simp [errW_none, errW_some] <;> rfl) | (simp [*, errW_none, errW_some] <;> rfl), by repeat (first | (with_reducible first | exact HB.out | apply below_alloc | apply pw_below_drewN | apply below_drew1 | refine below_set ?_ GE195.out | refine below_set ?_ GE196.out) | exact HB.out)⟩
       ·replace c17 := Bool.eq_false_iff.mpr c17
        subst c17
        have H1 : (if 0 ≤ t197 then (if t197 < (l0_0.length : Int) then (if ((rd_T52 l0_0 t197).f0) = 1 then (some true) else (impl_reaches.l0 kj6 (wrap64 (x5_1 + 1)) l0_0 a0_1 ((rd_T52 l0_0 t197).f0) ((rd_T52 l0_0 t197).f1) ((rd_T52 l0_0 t197).f2) ((rd_T52 l0_0 t197).f3) ((rd_T52 l0_0 t197).f4) ((rd_T52 l0_0 t197).f5) ((rd_T52 l0_0 t197).f6) ((rd_T52 l0_0 t197).f7) ((rd_T52 l0_0 t197).f8))) else (none)) else (none)) = some r := by rw [if_neg (show ¬ (false = true) by decide)] at H; exact H
        clear H
        have H := H1
        clear H1
        by_cases c18 : 0 ≤ t197
        ·rw [if_pos c18] at H
         have c18b0 : decide (0 ≤ t197) = true := decide_eq_true c18
         clear c18
         by_cases c19 : t197 < (l0_0.length : Int)
         ·rw [if_pos c19] at H
          have c19b0 : decide (t197 < (l0_0.length : Int)) = true := decide_eq_true c19
          clear c19
          by_cases c20 : ((rd_T52 l0_0 t197).f0) = 1
          ·rw [if_pos c20] at H
           have c20b0 : (((rd_T52 l0_0 t197).f0) == 1) = true := beq_iff_eq.mpr c20
           have c20b1 : (((rd_T52 l0_0 t197).f0) != 1) = false := bne_eq_false_iff_eq.mpr c20
           clear c20
           obtain rfl := Option.some.inj H
           have hnb21 := NB195_196.out
           have hnc21 := NB196_195.out
           obtain ⟨hcz22_0, hcz22_1, hfz22_0, hfz22_1⟩ := z2 BK195.out
           have p199 : 0 ≤ (t197 : Int) := oda
           have q199 : t197 < (l0_0.length : Int) := oda
           obtain ⟨ad199, A199_7, c199_7, e199, hx199_0, hx199_1, hx199_2, hx199_3, hx199_4, hx199_5, hx199_6, hx199_7, hx199_8, hl199_7, hi199_7⟩ := at_T52 (Kd.V_reads' HO_196000.out).2.2 t197 p199 q199
           cases e199
           obtain ⟨ce199, hce199, hMe199, hcc199⟩ := Kd.V_get HO_196000.out z52 t197 p199 (by first | exact q199 | exact of_decide_eq_true (by first | (with_reducible assumption) | assumption) | (have e_ := (Kd.V_reads' HO_196000.out).1; omega))
           obtain ⟨ua199_7, uc199_7, rfl, ul199_7, ge199_7⟩ := k52_openF hMe199
           have hv199_7 := hcc199 7 _ rfl
           rw [add_field _ _ 7 (by omega)] at hv199_7
           replace hv199_7 := Option.some.inj (hv199_7.symm.trans hx199_7)
           injection hv199_7 with hva_ hvn_ hvc_
           rw [hva_] at ge199_7
           rw [hvc_] at ul199_7
           have HL199_7 := Aside0.mk (show Kd.V k64 64 _ w.heap.size _ _ ((rd_T52 l0_0 t197).f7) from Kd.V_mk ul199_7 ge199_7)
           clear hva_ hvn_ hvc_ ge199_7 ul199_7
           clear hcc199 hce199
           have HR199_7 := Aside0.mk hi199_7
           have HC199_7 := Aside0.mk hl199_7
           clear hi199_7 hl199_7
           replace p199 := eq_true p199
           replace q199 := eq_true q199
           obtain ⟨hcz23_0, hcz23_1, hcz23_2, hcz23_3, hcz23_4, hcz23_5, hcz23_6, hcz23_7, hcz23_8, hfz23_0, hfz23_1, hfz23_2, hfz23_3, hfz23_4, hfz23_5, hfz23_6, hfz23_7, hfz23_8⟩ := z9 BK196.out
           go_wp2
           go_ret
           exact ⟨by first | rfl | (simp [errW_none, errW_some] <;> rfl) | (simp [*, errW_none, errW_some] <;> rfl), by repeat (first | (with_reducible first | exact HB.out | apply below_alloc | apply pw_below_drewN | apply below_drew1 | refine below_set ?_ GE195.out | refine below_set ?_ GE196.out) | exact HB.out)⟩
          ·rw [if_neg c20] at H
           have c20b0 : (((rd_T52 l0_0 t197).f0) == 1) = false := beq_eq_false_iff_ne.mpr c20
           have c20b1 : (((rd_T52 l0_0 t197).f0) != 1) = true := bne_iff_ne.mpr c20
           have H' := Aside0.mk H
           clear H
           have hnb24 := NB195_196.out
           have hnc24 := NB196_195.out
           obtain ⟨hcz25_0, hcz25_1, hfz25_0, hfz25_1⟩ := z2 BK195.out
           have p199 : 0 ≤ (t197 : Int) := oda
           have q199 : t197 < (l0_0.length : Int) := oda
           obtain ⟨ad199, A199_7, c199_7, e199, hx199_0, hx199_1, hx199_2, hx199_3, hx199_4, hx199_5, hx199_6, hx199_7, hx199_8, hl199_7, hi199_7⟩ := at_T52 (Kd.V_reads' HO_196000.out).2.2 t197 p199 q199
           cases e199
           obtain ⟨ce199, hce199, hMe199, hcc199⟩ := Kd.V_get HO_196000.out z52 t197 p199 (by first | exact q199 | exact of_decide_eq_true (by first | (with_reducible assumption) | assumption) | (have e_ := (Kd.V_reads' HO_196000.out).1; omega))
           obtain ⟨ua199_7, uc199_7, rfl, ul199_7, ge199_7⟩ := k52_openF hMe199
           have hv199_7 := hcc199 7 _ rfl
           rw [add_field _ _ 7 (by omega)] at hv199_7
           replace hv199_7 := Option.some.inj (hv199_7.symm.trans hx199_7)
           injection hv199_7 with hva_ hvn_ hvc_
           rw [hva_] at ge199_7
           rw [hvc_] at ul199_7
           have HL199_7 := Aside0.mk (show Kd.V k64 64 _ w.heap.size _ _ ((rd_T52 l0_0 t197).f7) from Kd.V_mk ul199_7 ge199_7)
           clear hva_ hvn_ hvc_ ge199_7 ul199_7
           clear hcc199 hce199
           have HR199_7 := Aside0.mk hi199_7
           have HC199_7 := Aside0.mk hl199_7
           clear hi199_7 hl199_7
           replace p199 := eq_true p199
           replace q199 := eq_true q199
           obtain ⟨hcz26_0, hcz26_1, hcz26_2, hcz26_3, hcz26_4, hcz26_5, hcz26_6, hcz26_7, hcz26_8, hfz26_0, hfz26_1, hfz26_2, hfz26_3, hfz26_4, hfz26_5, hfz26_6, hfz26_7, hfz26_8⟩ := z9 BK196.out
           go_wp2
           go_roundg kj6
           case measure => have := HK1.out; have := HJ6.out; omega
           case rel => exact ⟨(wrap64 (x5_1 + 1)), ((rd_T52 l0_0 t197).f0), ((rd_T52 l0_0 t197).f1), ((rd_T52 l0_0 t197).f2), ((rd_T52 l0_0 t197).f3), ((rd_T52 l0_0 t197).f4), ((rd_T52 l0_0 t197).f5), ((rd_T52 l0_0 t197).f6), ((rd_T52 l0_0 t197).f7), ((rd_T52 l0_0 t197).f8), (.slice A199_7 ((rd_T52 l0_0 t197).f7).length c199_7), eqa, H', ⟨by have := HK1.out; have := HJ6.out; omega⟩, ⟨by (with_reducible repeat (first | apply Kd.V_alloc | apply Kd.V_drewN | apply Kd.V_drew)); exact Kd.V_mono (Kd.V_far (p := ⟨gb196, 8, none⟩) (Kd.V_far (p := ⟨gb196, 7, none⟩) (Kd.V_far (p := ⟨gb196, 6, none⟩) (Kd.V_far (p := ⟨gb196, 5, none⟩) (Kd.V_far (p := ⟨gb196, 4, none⟩) (Kd.V_far (p := ⟨gb196, 3, none⟩) (Kd.V_far (p := ⟨gb196, 2, none⟩) (Kd.V_far (p := ⟨gb196, 1, none⟩) (Kd.V_far (p := ⟨gb196, 0, none⟩) (Kd.V_mono HO_196000.out (fun k_ hk => (⟨hk, hk.2.2⟩ : _ ∧ k_ ≠ gb196))) (fun _ hk => hk.2) (.int .i64 ((rd_T52 l0_0 t197).f0))) (fun _ hk => hk.2) (.int .i64 ((rd_T52 l0_0 t197).f1))) (fun _ hk => hk.2) (.string ((rd_T52 l0_0 t197).f2))) (fun _ hk => hk.2) (.bool ((rd_T52 l0_0 t197).f3))) (fun _ hk => hk.2) (.int .i64 ((rd_T52 l0_0 t197).f4))) (fun _ hk => hk.2) (.int .i64 ((rd_T52 l0_0 t197).f5))) (fun _ hk => hk.2) (.int .i64 ((rd_T52 l0_0 t197).f6))) (fun _ hk => hk.2) (.slice A199_7 ((rd_T52 l0_0 t197).f7).length c199_7)) (fun _ hk => hk.2) (.int .i64 ((rd_T52 l0_0 t197).f8))) (fun _ hk => ⟨hk.1.1, ⟨hk.1.2.1, hk.1.2.2⟩⟩)⟩, ⟨by (with_reducible repeat (first | apply Kd.V_alloc | apply Kd.V_drewN | apply Kd.V_drew)); exact Kd.V_mono (Kd.V_far (p := ⟨gb196, 8, none⟩) (Kd.V_far (p := ⟨gb196, 7, none⟩) (Kd.V_far (p := ⟨gb196, 6, none⟩) (Kd.V_far (p := ⟨gb196, 5, none⟩) (Kd.V_far (p := ⟨gb196, 4, none⟩) (Kd.V_far (p := ⟨gb196, 3, none⟩) (Kd.V_far (p := ⟨gb196, 2, none⟩) (Kd.V_far (p := ⟨gb196, 1, none⟩) (Kd.V_far (p := ⟨gb196, 0, none⟩) (Kd.V_mono HL199_7.out (fun k_ hk => (⟨hk, hk.2.2⟩ : _ ∧ k_ ≠ gb196))) (fun _ hk => hk.2) (.int .i64 ((rd_T52 l0_0 t197).f0))) (fun _ hk => hk.2) (.int .i64 ((rd_T52 l0_0 t197).f1))) (fun _ hk => hk.2) (.string ((rd_T52 l0_0 t197).f2))) (fun _ hk => hk.2) (.bool ((rd_T52 l0_0 t197).f3))) (fun _ hk => hk.2) (.int .i64 ((rd_T52 l0_0 t197).f4))) (fun _ hk => hk.2) (.int .i64 ((rd_T52 l0_0 t197).f5))) (fun _ hk => hk.2) (.int .i64 ((rd_T52 l0_0 t197).f6))) (fun _ hk => hk.2) (.slice A199_7 ((rd_T52 l0_0 t197).f7).length c199_7)) (fun _ hk => hk.2) (.int .i64 ((rd_T52 l0_0 t197).f8))) (fun _ hk => ⟨hk.1.1, ⟨hk.1.2.1, hk.1.2.2⟩⟩)⟩, ⟨by (with_reducible repeat (first | refine blk_drewN ?_ _ | refine blk_drew ?_ | refine blk_alloc ?_ _)); refine blk_far ?_ NB195_196.out _; (with_reducible repeat (first | refine blk_drewN ?_ _ | refine blk_drew ?_ | refine blk_alloc ?_ _)); refine blk_far ?_ NB195_196.out _; (with_reducible repeat (first | refine blk_drewN ?_ _ | refine blk_drew ?_ | refine blk_alloc ?_ _)); refine blk_far ?_ NB195_196.out _; (with_reducible repeat (first | refine blk_drewN ?_ _ | refine blk_drew ?_ | refine blk_alloc ?_ _)); refine blk_far ?_ NB195_196.out _; (with_reducible repeat (first | refine blk_drewN ?_ _ | refine blk_drew ?_ | refine blk_alloc ?_ _)); refine blk_far ?_ NB195_196.out _; (with_reducible repeat (first | refine blk_drewN ?_ _ | refine blk_drew ?_ | refine blk_alloc ?_ _)); refine blk_far ?_ NB195_196.out _; (with_reducible repeat (first | refine blk_drewN ?_ _ | refine blk_drew ?_ | refine blk_alloc ?_ _)); refine blk_far ?_ NB195_196.out _; (with_reducible repeat (first | refine blk_drewN ?_ _ | refine blk_drew ?_ | refine blk_alloc ?_ _)); refine blk_far ?_ NB195_196.out _; (with_reducible repeat (first | refine blk_drewN ?_ _ | refine blk_drew ?_ | refine blk_alloc ?_ _)); refine blk_far ?_ NB195_196.out _; (with_reducible repeat (first | refine blk_drewN ?_ _ | refine blk_drew ?_ | refine blk_alloc ?_ _)); exact BK195.out⟩, ⟨by (with_reducible repeat (first | refine blk_drewN ?_ _ | refine blk_drew ?_ | refine blk_alloc ?_ _)); refine blk_put (cs := #[.int .i64 ((rd_T52 l0_0 t197).f0), .int .i64 ((rd_T52 l0_0 t197).f1), .string ((rd_T52 l0_0 t197).f2), .bool ((rd_T52 l0_0 t197).f3), .int .i64 ((rd_T52 l0_0 t197).f4), .int .i64 ((rd_T52 l0_0 t197).f5), .int .i64 ((rd_T52 l0_0 t197).f6), .slice A199_7 ((rd_T52 l0_0 t197).f7).length c199_7, .int .i64 x197008_1]) ?_ 8 _ rfl; (with_reducible repeat (first | refine blk_drewN ?_ _ | refine blk_drew ?_ | refine blk_alloc ?_ _)); refine blk_put (cs := #[.int .i64 ((rd_T52 l0_0 t197).f0), .int .i64 ((rd_T52 l0_0 t197).f1), .string ((rd_T52 l0_0 t197).f2), .bool ((rd_T52 l0_0 t197).f3), .int .i64 ((rd_T52 l0_0 t197).f4), .int .i64 ((rd_T52 l0_0 t197).f5), .int .i64 ((rd_T52 l0_0 t197).f6), u197007, .int .i64 x197008_1]) ?_ 7 _ rfl; (with_reducible repeat (first | refine blk_drewN ?_ _ | refine blk_drew ?_ | refine blk_alloc ?_ _)); refine blk_put (cs := #[.int .i64 ((rd_T52 l0_0 t197).f0), .int .i64 ((rd_T52 l0_0 t197).f1), .string ((rd_T52 l0_0 t197).f2), .bool ((rd_T52 l0_0 t197).f3), .int .i64 ((rd_T52 l0_0 t197).f4), .int .i64 ((rd_T52 l0_0 t197).f5), .int .i64 x197006_1, u197007, .int .i64 x197008_1]) ?_ 6 _ rfl; (with_reducible repeat (first | refine blk_drewN ?_ _ | refine blk_drew ?_ | refine blk_alloc ?_ _)); refine blk_put (cs := #[.int .i64 ((rd_T52 l0_0 t197).f0), .int .i64 ((rd_T52 l0_0 t197).f1), .string ((rd_T52 l0_0 t197).f2), .bool ((rd_T52 l0_0 t197).f3), .int .i64 ((rd_T52 l0_0 t197).f4), .int .i64 x197005_1, .int .i64 x197006_1, u197007, .int .i64 x197008_1]) ?_ 5 _ rfl; (with_reducible repeat (first | refine blk_drewN ?_ _ | refine blk_drew ?_ | refine blk_alloc ?_ _)); refine blk_put (cs := #[.int .i64 ((rd_T52 l0_0 t197).f0), .int .i64 ((rd_T52 l0_0 t197).f1), .string ((rd_T52 l0_0 t197).f2), .bool ((rd_T52 l0_0 t197).f3), .int .i64 x197004_1, .int .i64 x197005_1, .int .i64 x197006_1, u197007, .int .i64 x197008_1]) ?_ 4 _ rfl; (with_reducible repeat (first | refine blk_drewN ?_ _ | refine blk_drew ?_ | refine blk_alloc ?_ _)); refine blk_put (cs := #[.int .i64 ((rd_T52 l0_0 t197).f0), .int .i64 ((rd_T52 l0_0 t197).f1), .string ((rd_T52 l0_0 t197).f2), .bool x197003_1, .int .i64 x197004_1, .int .i64 x197005_1, .int .i64 x197006_1, u197007, .int .i64 x197008_1]) ?_ 3 _ rfl; (with_reducible repeat (first | refine blk_drewN ?_ _ | refine blk_drew ?_ | refine blk_alloc ?_ _)); refine blk_put (cs := #[.int .i64 ((rd_T52 l0_0 t197).f0), .int .i64 ((rd_T52 l0_0 t197).f1), .string x197002_1, .bool x197003_1, .int .i64 x197004_1, .int .i64 x197005_1, .int .i64 x197006_1, u197007, .int .i64 x197008_1]) ?_ 2 _ rfl; (with_reducible repeat (first | refine blk_drewN ?_ _ | refine blk_drew ?_ | refine blk_alloc ?_ _)); refine blk_put (cs := #[.int .i64 ((rd_T52 l0_0 t197).f0), .int .i64 x197001_1, .string x197002_1, .bool x197003_1, .int .i64 x197004_1, .int .i64 x197005_1, .int .i64 x197006_1, u197007, .int .i64 x197008_1]) ?_ 1 _ rfl; (with_reducible repeat (first | refine blk_drewN ?_ _ | refine blk_drew ?_ | refine blk_alloc ?_ _)); refine blk_put (cs := #[.int .i64 x197000_1, .int .i64 x197001_1, .string x197002_1, .bool x197003_1, .int .i64 x197004_1, .int .i64 x197005_1, .int .i64 x197006_1, u197007, .int .i64 x197008_1]) ?_ 0 _ rfl; (with_reducible repeat (first | refine blk_drewN ?_ _ | refine blk_drew ?_ | refine blk_alloc ?_ _)); exact BK196.out⟩, ⟨pl2 HB.out GE195.out GE196.out⟩⟩
         ·rw [if_neg c19] at H
          exact absurd H (by simp)
        ·rw [if_neg c18] at H
         exact absurd H (by simp)
    ·rw [if_neg c5] at H
     have c5b0 : decide (x5_1 < 4) = false := decide_eq_false c5
     clear c5
     obtain rfl := Option.some.inj H
     go_wp2
     go_ret
     exact ⟨by first | rfl | (simp [errW_none, errW_some] <;> rfl) | (simp [*, errW_none, errW_some] <;> rfl), by repeat (first | (with_reducible first | exact HB.out | apply below_alloc | apply pw_below_drewN | apply below_drew1 | refine below_set ?_ GE195.out | refine below_set ?_ GE196.out) | exact HB.out)⟩

/-! ### impl_Inode_45: function 45 -/
def impl_dupI.p (a1 : Int) (a2 : ByteArray) (y : S52) : Bool := decide (y.f1 = a1) && decide (y.f2.toList = a2.toList)
def impl_dupI.f (l0 : List S52) (a1 : Int) (a2 : ByteArray) : Option (Bool) := some (l0.any (impl_dupI.p a1 a2))
/-- The closure of TreeOk. -/
theorem impl_dupI.pred (a1 : Int) (a2 : ByteArray) (C : Nat) (w : World) (hC : C < w.heap.size) (c1 : w.cell? ⟨C, 1, none⟩ = some (.int .i64 a1)) (c2 : w.cell? ⟨C, 2, none⟩ = some (.string a2)) :
    PredBelow Try.prog 46 #[.pointer (some ⟨C, 0, none⟩)] (fun x : NodeH => .agg (encI x).toArray) (fun x => impl_dupI.p a1 a2 x.1) w := fun W x hb => by
  have d1 : W.cell? ⟨C, 1, none⟩ = some (.int .i64 a1) := (hb.cell (p := ⟨C, 1, none⟩) hC).trans c1
  have d2 : W.cell? ⟨C, 2, none⟩ = some (.string a2) := (hb.cell (p := ⟨C, 2, none⟩) hC).trans c2
  clear c1 c2 hC
  obtain ⟨⟨f0, f1, f2, f3, f4, f5, f6, f7, f8⟩, A7, c7⟩ := x
  obtain ⟨n7, hn7⟩ : ∃ n7, n7 = f7.length := ⟨_, rfl⟩
  show Calls Try.prog 46 #[.agg #[.int .i64 f0, .int .i64 f1, .string f2, .bool f3, .int .i64 f4, .int .i64 f5, .int .i64 f6, .slice A7 f7.length c7, .int .i64 f8], .pointer (some ⟨C, 0, none⟩)] W _
  rw [← hn7]
  have hp : impl_dupI.p a1 a2 ⟨f0, f1, f2, f3, f4, f5, f6, f7, f8⟩ = (decide (f1 = a1) && decide (f2.toList = a2.toList)) := rfl
  show Calls _ _ _ _ fun e w' => e = .returned (.bool (impl_dupI.p a1 a2 ⟨f0, f1, f2, f3, f4, f5, f6, f7, f8⟩)) ∧ _
  rw [hp]
  clear hn7 hp
  have d1' := Lib.cell?_alloc_some (Obj.cells #[Value.int IntKind.i64 f0, Value.int IntKind.i64 f1, Value.string f2, Value.bool f3, Value.int IntKind.i64 f4, Value.int IntKind.i64 f5, Value.int IntKind.i64 f6, Value.slice A7 n7 c7, Value.int IntKind.i64 f8] 52) d1
  have d2' := Lib.cell?_alloc_some (Obj.cells #[Value.int IntKind.i64 f0, Value.int IntKind.i64 f1, Value.string f2, Value.bool f3, Value.int IntKind.i64 f4, Value.int IntKind.i64 f5, Value.int IntKind.i64 f6, Value.slice A7 n7 c7, Value.int IntKind.i64 f8] 52) d2
  clear d1 d2
  by_cases e0 : f1 = a1
  · subst e0
    by_cases e1 : f2.toList = a2.toList
    · have e1b : (f2.toList == a2.toList) = true := beq_iff_eq.mpr e1
      go_enter Try.func46, Try.ntmps46
      go_wp2
      all_goals (go_ret; exact ⟨by simp [e1], hb.alloc hb.size _⟩)
    · have e1b : (f2.toList == a2.toList) = false := beq_eq_false_iff_ne.mpr e1
      go_enter Try.func46, Try.ntmps46
      go_wp2
      all_goals (go_ret; exact ⟨by simp [e1], hb.alloc hb.size _⟩)
  · have e0b : (f1 == a1) = false := beq_eq_false_iff_ne.mpr e0
    go_enter Try.func46, Try.ntmps46
    go_wp2
    all_goals (go_ret; exact ⟨by simp [e0], hb.alloc hb.size _⟩)
/-- slices.ContainsFunc at nodes, with TreeOk's closure. -/
theorem impl_dupI.calls (A0 : Option Addr) (c0 : Nat) (l0 : List S52) (a1 : Int) (a2 : ByteArray) (r : Bool) (w : World) {C : Nat} (hr0 : Kd.C k52 w A0 l0.length l0) (_ : l0.length ≤ c0) (c1 : w.cell? ⟨C, 1, none⟩ = some (.int .i64 a1)) (c2 : w.cell? ⟨C, 2, none⟩ = some (.string a2)) (h : impl_dupI.f l0 a1 a2 = some r) :
    Calls Try.prog 45 #[.slice A0 l0.length c0, .func (.func 46) #[] #[.pointer (some ⟨C, 0, none⟩)]] w fun e w' => e = .returned (.bool r) ∧ Below w.heap.size w w' := by
  obtain rfl := Option.some.inj h
  clear h
  have hC : C < w.heap.size := World.block_lt_of_cell? _ _ c1
  have eg : ∀ args w, (callFunc 46 args).run Try.prog w = .ok (.enter 46 args) w := enters_of Try.func46 (by kernel_rfl) rfl
  have hcon := Aside0.mk (idxI_calls A0 c0 l0 w hr0 (impl_dupI.p a1 a2) 46 #[.pointer (some ⟨C, 0, none⟩)] eg (impl_dupI.pred a1 a2 C w hC c1 c2))
  rw [show l0.any (impl_dupI.p a1 a2) = decide (0 ≤ Lib.idxBy (fun _ y => impl_dupI.p a1 a2 y) l0 default) from (Lib.idxBy_nonneg_iff (fun _ y => impl_dupI.p a1 a2 y) l0 default).symm]
  generalize Lib.idxBy (fun _ y => impl_dupI.p a1 a2 y) l0 default = q at hcon ⊢
  clear c1 c2 hC eg hr0
  go_enter Try.func45, Try.ntmps45
  go_wp2_with (go_at_call 64; refine hcon.out.mono ?_; rintro e w' ⟨rfl, hb'⟩)
  go_ret
  exact ⟨rfl, hb'⟩


end Go.Proofs.Ytnhbfbgflgplcaa.QTR
