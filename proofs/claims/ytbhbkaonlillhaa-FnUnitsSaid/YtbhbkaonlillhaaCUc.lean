/- Contracts: a unit inserted, a unit deleted, by the library. -/
import Derived.Test.YtbhbkaonlillhaaCUd
import Derived.Test.YtbhbkaonlillhaaAbc
import Derived.Shelf.RegionOpenPlain
import Derived.WalkKit
import Derived.Deep.RegionLaw
import Derived.Lib.Walk
import Derived.Lib.SliceRun
import Derived.Lib.JoinLaws
import Derived.Lib.AppendZeros
import Derived.Laws.Externs
import Derived.Laws.NewBlocks
namespace Go.Proofs.Ytbhbkaonlillhaa
open Go Go.Abs Go.Proofs Go.Tm Go.RowKit
set_option linter.unusedSimpArgs false
set_option linter.unusedVariables false
variable {Z : TypeId → Nat} {G : World → Prop} {B0 : Nat}
theorem unInfo (w : World) : ∃ i0 z, Try.prog.info? 39 = some i0 ∧ i0.zero = some z ∧ i0.size = 4 ∧ z.cells.size = 4 ∧ i0.bytes = 40 := by
  obtain ⟨i, v, vs, h1, h2, h3, h4, _, h5, h6, h7, _⟩ := einfo_spec (Z := fun _ => 0) (w := w) (S := fun _ => False) (vals := fun _ _ => undef) (show einfo Try.prog 39 = some (4, 40, [iA 0, iA 0, sA ⟨#[]⟩, iA 0]) by kernel_rfl) [] (fun _ _ => none)
  have := h7.1
  exact ⟨i, v, h1, h2, h3, by rw [h5]; simp only [List.size_toArray]; omega, h4⟩
set_option maxHeartbeats 4000000 in
set_option maxRecDepth 100000 in
/-- At the end, with room. -/
theorem insU_end (g n cap vb voff vc : Nat) (xs us : List Value) (w : World) (ho : w.ownsRow 0 39 4 (.slice (some ⟨g, 0, none⟩) n cap) n xs) (hr : n + 1 ≤ cap) (hu4 : us.length = 4) (hvs : ∀ j v, us[j]? = some v → w.cell? ⟨vb, voff + j, none⟩ = some v) (h1v : ∀ v ∈ us, v.oneCell' = true) :
    Calls Try.prog 66 #[.slice (some ⟨g, 0, none⟩) n cap, .int .i64 n, .slice (some ⟨vb, voff, none⟩) 1 vc] w fun e w' => e = .returned (.slice (some ⟨g, 0, none⟩) (n + 1) cap) ∧ w' = w.setCells g (n * 4) us := by
  obtain ⟨cur, hb, hnc, hcm, hcs, hx, hv⟩ := row_at ho
  obtain ⟨i0, z, hi0, hz0, hzs, hzc, hzb⟩ := unInfo w
  rw [maxLen_eq] at hcm
  have hn1 : (n + 1) * 4 ≤ cap * 4 := Nat.mul_le_mul_right 4 hr
  have hsrc : Src Try.prog 4 26 (.slice (some ⟨vb, voff, none⟩) 1 vc) 1 us w := Src.ofSlice w Try.underlying26 ⟨vb, voff, none⟩ 1 vc us (by omega) (fun j u hj => by rw [Addr.add_lit]; exact hvs j u hj) h1v
  have hc : ∀ j, j < us.length → (w.cell? ⟨g, 0 + n * 4 + j, none⟩).isSome = true := fun j hj => by
    rw [cell_of_row w g _ cur _ _ hb, Array.getElem?_eq_getElem (by omega)]; rfl
  have hf : ∀ j, j < us.length → w.frozen? ⟨g, 0 + n * 4 + j, none⟩ = false := fun j hj => by
    unfold World.frozen?; rw [hb]; simp
  have hnn : (n : Int) ≤ 9223372036854775807 := by omega
  clear ho hb hcs hx hv hvs
  go_enter Try.func66, Try.ntmps66
  go_wp2_with (at_builtin; refine wpList_append_room_src _ rfl _ _ 26 26 rfl 39 i0 Try.underlying26 hi0 g 0 n cap rfl _ rfl 1 us (by rw [hzs]; exact hsrc) hr (by rw [hzs]; exact hc) (by rw [hzs]; exact hf) ?_)
  go_ret
  exact ⟨rfl, by first | rfl | simp⟩
set_option maxHeartbeats 4000000 in
set_option maxRecDepth 100000 in
/-- At the end, without room: a new row. -/
theorem insU_grow (base : Option Addr) (n cap vb voff vc : Nat) (xs us : List Value) (w : World) (hx : xs.length = n * 4) (hcs : ∀ a, base = some a → ∀ j v, xs[j]? = some v → w.cell? (a.add j) = some v) (hnil : base = none → n = 0) (hspot : ∀ a, base = some a → a.spot = none) (hnc : n ≤ cap) (hr : cap < n + 1) (hbig : n ≤ 1000000000)
    (hu4 : us.length = 4) (hvs : ∀ j v, us[j]? = some v → w.cell? ⟨vb, voff + j, none⟩ = some v) (h1v : ∀ v ∈ us, v.oneCell' = true) :
    Calls Try.prog 66 #[.slice base n cap, .int .i64 n, .slice (some ⟨vb, voff, none⟩) 1 vc] w fun e w' => ∃ u, e = .returned u ∧ w'.ownsRow 0 39 4 u (n + 1) (xs ++ us) ∧ Fr (fun _ => False) w w' ∧ ∀ g, u.ownBlock = some g → w.heap.size ≤ g := by
  obtain ⟨i0, z, hi0, hz0, hzs, hzc, hzb⟩ := unInfo w
  have hsrc : Src Try.prog i0.size 26 (.slice (some ⟨vb, voff, none⟩) 1 vc) 1 us w := by
    rw [hzs]
    exact Src.ofSlice w Try.underlying26 ⟨vb, voff, none⟩ 1 vc us (by omega) (fun j u hj => by rw [Addr.add_lit]; exact hvs j u hj) h1v
  have hold : (Builtin.firstCells i0.size n (.slice base n cap)).run Try.prog w.drew = .ok xs.toArray w.drew := by
    rw [hzs]
    cases base with
    | none =>
      have h0 := hnil rfl
      subst h0
      rw [List.length_eq_zero_iff.1 hx]
      exact run_firstCells_none w.drew 4 0 0 cap
    | some a => exact run_firstCells_some w.drew 4 n a n cap xs hx (fun j v hj => hcs a rfl j v hj)
  have hrun : ∀ ty, (Builtin.append_ #[26, 26] ty #[.slice base n cap, .slice (some ⟨vb, voff, none⟩) 1 vc]).run Try.prog w = _ := fun ty =>
    run_append_grow_src w 26 26 ty 39 i0 z Try.underlying26 hi0 hz0 base n cap xs hold _ 1 us hsrc hr (by omega) (by rw [hzb]; exact growslice_fits hr (by omega))
  obtain ⟨G, hG⟩ : ∃ G, G = grownCap w (n + 1) cap 39 := ⟨_, rfl⟩
  have hGn : n + 1 ≤ G := by rw [hG]; exact grownCap_ge w _ _ _
  have hGm : G ≤ maxLen := by rw [hG]; exact grownCap_le_maxLen w _ _ _ (by rw [maxLen_eq]; omega)
  obtain ⟨W1, hW1⟩ : ∃ W1, W1 = w.drew.alloc (.cells ((xs ++ us).toArray ++ Builtin.zeroCells z.cells (G - (n + 1))) 39) := ⟨_, rfl⟩
  have hown : W1.ownsRow 0 39 4 (.slice (some ⟨w.heap.size, 0, none⟩) (n + 1) G) (n + 1) (xs ++ us) ∧ Fr (fun _ => False) w W1 := by
    rw [hW1]
    refine ⟨row_of (_root_.Go.heap_alloc_new w.drew _) hGn hGm ?_ (by simp [hx, hu4]; omega) fun j hj => ?_, ⟨rfl, rfl, rfl, by simp, fun k hk _ => _root_.Go.heap_alloc_old w.drew _ hk⟩⟩
    · simp only [Array.size_append, List.size_toArray, size_zeroCells, hzc, List.length_append, hx, hu4]
      omega
    · rw [Array.getElem?_append_left (by simpa using hj)]
      simp
  rw [← hG] at hrun
  rw [← hW1] at hrun
  have hgb : ∀ g, (Value.slice (some ⟨w.heap.size, 0, none⟩) (n + 1) G).ownBlock = some g → w.heap.size ≤ g := fun g hg => by
    simp only [Value.ownBlock, Option.some.injEq] at hg; omega
  have hnn : (n : Int) ≤ 9223372036854775807 := by omega
  clear hW1 hG hold hsrc hcs hvs hx hu4
  cases base with
  | none =>
    have h0 := hnil rfl
    subst h0
    go_enter Try.func66, Try.ntmps66
    go_wp2_with (at_builtin; refine Lib.wpList_append_run _ rfl _ _ _ _ rfl _ _ rfl rfl _ _ (hrun _) ?_)
    go_ret
    exact ⟨_, rfl, hown.1, hown.2, hgb⟩
  | some a =>
    obtain ⟨ab, ao, asp⟩ := a
    have hs := hspot _ rfl
    dsimp only at hs
    subst hs
    go_enter Try.func66, Try.ntmps66
    go_wp2_with (at_builtin; refine Lib.wpList_append_run _ rfl _ _ _ _ rfl _ _ rfl rfl _ _ (hrun _) ?_)
    all_goals (go_ret; exact ⟨_, rfl, hown.1, hown.2, hgb⟩)
set_option maxHeartbeats 4000000 in
set_option maxRecDepth 100000 in
/-- In the middle, with room: in place. -/
theorem insU_shift (g n cap i vb voff vc : Nat) (xs us : List Value) (w : World) (ho : w.ownsRow 0 39 4 (.slice (some ⟨g, 0, none⟩) n cap) n xs) (hi : i < n) (hr : n + 1 ≤ cap) (hu4 : us.length = 4) (hvs : ∀ j v, us[j]? = some v → w.cell? ⟨vb, voff + j, none⟩ = some v) (h1x : ∀ v ∈ xs, v.oneCell' = true) (h1v : ∀ v ∈ us, v.oneCell' = true) (hvb : vb ≠ g)
    (tA : TypeId) (kA : Nat) (hsa : w.shape? vb = some (tA, kA)) (hkA : kA ≠ 0) :
    Calls Try.prog 66 #[.slice (some ⟨g, 0, none⟩) n cap, .int .i64 i, .slice (some ⟨vb, voff, none⟩) 1 vc] w fun e w' => ∃ u, e = .returned u ∧ w'.ownsRow 0 39 4 u (n + 1) (xs.take (i * 4) ++ us ++ xs.drop (i * 4)) ∧ Fr (fun k => k = g) w w' ∧ u.ownBlock = some g := by
  obtain ⟨cur, hb, hnc, hcm, hcs, hx, hv⟩ := row_at ho
  obtain ⟨i0, z, hi0, hz0, hzs, hzc, hzb⟩ := unInfo w
  rw [maxLen_eq] at hcm
  have hn1 : (n + 1) * 4 ≤ cap * 4 := Nat.mul_le_mul_right 4 hr
  have hsz : (Try.prog.info? 39).map (·.size) = some 4 := by rw [hi0]; simp [hzs]
  have hzz : ∀ w, (Go.sizeOf 39).run Try.prog w = .ok 4 w := fun w => by simp [sizeOf, typeInfo, hi0, hzs]
  have hcell : ∀ j, j < cap * 4 → (w.cell? ⟨g, j, none⟩).isSome = true := fun j hj => by
    rw [cell_of_row w g _ cur _ _ hb, Array.getElem?_eq_getElem (by omega)]; rfl
  have hxc : ∀ j v, xs[j]? = some v → w.cell? ⟨g, j, none⟩ = some v := fun j v hj => by
    have hjl := (List.getElem?_eq_some_iff.1 hj).1
    rw [cell_of_row w g _ cur _ _ hb, hv j hjl, hj]
  have hfz : ∀ j, w.frozen? ⟨g, j, none⟩ = false := fun j => by unfold World.frozen?; rw [hb]; simp
  have hsb : w.shape? g = some (39, cap * 4) := by unfold World.shape?; rw [hb]; simp [hcs]
  have hdl : (xs.drop (i * 4)).length = (n - i) * 4 := by rw [List.length_drop, hx]; omega
  have hov : ∀ lb cb, (callFunc 95 #[.slice (some ⟨vb, voff, none⟩) 1 vc, .slice (some ⟨g, (i + 1) * 4, none⟩) lb cb]).run Try.prog w = .ok (.value (.bool false)) w := fun lb cb => by
    rw [run_callFunc_extern Try.func95 (by kernel_rfl) (by kernel_rfl) (by kernel_rfl) (e := Extern.SlicesOverlaps.overlaps #[26, 26] #[4]) (by kernel_rfl),
      run_overlaps_b w 26 4 39 Try.underlying26 4 hzz ⟨vb, voff, none⟩ ⟨g, (i + 1) * 4, none⟩ 1 vc lb cb hvb tA 39 kA (cap * 4) hsa hsb hkA (fun o => hfz o) rfl]
    rfl
  have hcp1 : ∀ ty dc sc, (Builtin.copy_ #[26, 26] ty #[.slice (some ⟨g, (i + 1) * 4, none⟩) (n - i) dc, .slice (some ⟨g, i * 4, none⟩) (n + 1 - i) sc]).run Try.prog w.drew = .ok (goInt (Nat.min (n + 1 - i) (n - i))) (w.drew.setCells g ((i + 1) * 4) (xs.drop (i * 4))) := fun ty dc sc =>
    run_copy_cellsN w.drew _ _ ty 39 4 g ((i + 1) * 4) (n - i) dc ⟨g, i * 4, none⟩ (n + 1 - i) sc (xs.drop (i * 4)) Try.underlying26 hsz (by rw [hdl]; simp only [Nat.min_def]; split <;> omega)
      (fun j v hj => by rw [Addr.add_lit]; exact hxc (i * 4 + j) v (by rwa [List.getElem?_drop] at hj))
      (fun j hj => hcell _ (by omega)) (fun j hj => hfz _) (fun v hv => h1x v (List.mem_of_mem_drop hv))
  obtain ⟨W1, hW1⟩ : ∃ W1, W1 = w.drew.setCells g ((i + 1) * 4) (xs.drop (i * 4)) := ⟨_, rfl⟩
  have hcell1 : ∀ j, j < cap * 4 → (W1.cell? ⟨g, j, none⟩).isSome = true := fun j hj => by
    rw [hW1]
    by_cases c : (i + 1) * 4 ≤ j ∧ j < (i + 1) * 4 + (xs.drop (i * 4)).length
    · have h3 := World.cell?_setCells_in g (xs.drop (i * 4)) ((i + 1) * 4) w.drew (fun t ht => hcell _ (by omega)) (j - (i + 1) * 4) (by omega)
      rw [show (i + 1) * 4 + (j - (i + 1) * 4) = j by omega] at h3
      rw [h3]; rfl
    · rw [World.cell?_setCells_out g _ _ _ ⟨g, j, none⟩ (fun _ _ => by show j < (i + 1) * 4 ∨ (i + 1) * 4 + (xs.drop (i * 4)).length ≤ j; omega)]
      exact hcell j hj
  have hcp2 : ∀ (W : World), (∀ x, W.cell? x = W1.cell? x) → (∀ x, W.frozen? x = W1.frozen? x) → ∀ ty dc, (Builtin.copy_ #[26, 26] ty #[.slice (some ⟨g, i * 4, none⟩) (n + 1 - i) dc, .slice (some ⟨vb, voff, none⟩) 1 vc]).run Try.prog W = .ok (goInt (Nat.min 1 (n + 1 - i))) (W.setCells g (i * 4) us) := fun W hWc hWf ty dc =>
    run_copy_cellsN W _ _ ty 39 4 g (i * 4) (n + 1 - i) dc ⟨vb, voff, none⟩ 1 vc us Try.underlying26 hsz (by rw [hu4]; simp only [Nat.min_def]; split <;> omega)
      (fun j v hj => by
        rw [Addr.add_lit, hWc, hW1, World.cell?_setCells_out g _ _ _ _ (fun h _ => absurd h hvb)]
        exact hvs j v hj)
      (fun j hj => by rw [hWc]; exact hcell1 _ (by omega)) (fun j hj => by rw [hWf, hW1, World.frozen?_setCells]; exact hfz _) h1v
  have hres : ∀ b, Same W1 b → (b.setCells g (i * 4) us).ownsRow 0 39 4 (.slice (some ⟨g, 0, none⟩) (n + 1) cap) (n + 1) (xs.take (i * 4) ++ us ++ xs.drop (i * 4)) ∧ Fr (fun k => k = g) w (b.setCells g (i * 4) us) := fun b hb => by
    rw [hW1] at hb
    exact own_shift ho hi hr hu4 (Same.drew w) hb
  rw [← hW1] at hcp1
  have hz2 : ¬ ((i : Int) = (n : Int)) := by omega
  have hnn : (n : Int) ≤ 9223372036854775806 := by omega
  have hw1 : IntKind.i64.wrap ((i : Int) + 1) = (i : Int) + 1 := by rw [IntKind.wrap_i64]; omega
  have hw2 : IntKind.i64.wrap ((n : Int) + 1) = (n : Int) + 1 := by rw [IntKind.wrap_i64]; omega
  have hb1 : (0 : Int) ≤ (i : Int) + 1 := by omega
  have hin : i ≤ n := by omega
  have hb2 : ¬ (cap = i + 1) := by omega
  have hb3 : (i : Int) ≤ (n : Int) + 1 := by omega
  have hb4 : ¬ (cap = i) := by omega
  clear ho hb hcs hx hv hvs hxc hcell hcell1 hdl hsb hsa hn1 hW1 hsz hzz hi0 hz0 hzs hzc hzb hu4
  go_enter Try.func66, Try.ntmps66
  go_wp2_with (simp only [hov])
  go_region_law (refine step_copyN rfl _ _ 26 26 rfl _ _ (by simp [Act.eval, Act.put]) (by simp [Act.eval, Act.put]) (hcp1 _ _ _) ?_)
  go_wp2_with (at_builtin; refine wpList_copyN _ rfl _ _ 26 26 rfl _ _ rfl rfl (hcp2 _ (fun _ => rfl) (fun _ => rfl) _ _) ?_)
  go_ret
  exact ⟨_, rfl, (hres _ ⟨rfl, rfl, rfl, rfl⟩).1, (hres _ ⟨rfl, rfl, rfl, rfl⟩).2, rfl⟩
set_option maxHeartbeats 4000000 in
set_option maxRecDepth 100000 in
/-- In the middle, without room: a new row. -/
theorem insU_new (g n cap i vb voff vc : Nat) (xs us : List Value) (w : World) (ho : w.ownsRow 0 39 4 (.slice (some ⟨g, 0, none⟩) n cap) n xs) (hi : i < n) (hr : cap < n + 1) (hbig : n ≤ 1000000000) (hu4 : us.length = 4) (hvs : ∀ j v, us[j]? = some v → w.cell? ⟨vb, voff + j, none⟩ = some v) (h1x : ∀ v ∈ xs, v.oneCell' = true) (h1v : ∀ v ∈ us, v.oneCell' = true) :
    Calls Try.prog 66 #[.slice (some ⟨g, 0, none⟩) n cap, .int .i64 i, .slice (some ⟨vb, voff, none⟩) 1 vc] w fun e w' => ∃ u, e = .returned u ∧ w'.ownsRow 0 39 4 u (n + 1) (xs.take (i * 4) ++ us ++ xs.drop (i * 4)) ∧ Fr (fun _ => False) w w' ∧ ∀ b, u.ownBlock = some b → w.heap.size ≤ b := by
  obtain ⟨cur, hb, hnc, hcm, hcs, hx, hv⟩ := row_at ho
  obtain ⟨i0, z, hi0, hz0, hzs, hzc, hzb⟩ := unInfo w
  rw [maxLen_eq] at hcm
  have hsz : (Try.prog.info? 39).map (·.size) = some 4 := by rw [hi0]; simp [hzs]
  have hxc : ∀ j v, xs[j]? = some v → w.cell? ⟨g, j, none⟩ = some v := fun j v hj => by
    have hjl := (List.getElem?_eq_some_iff.1 hj).1
    rw [cell_of_row w g _ cur _ _ hb, hv j hjl, hj]
  have hgw : g < w.heap.size := (Array.getElem?_eq_some_iff.1 hb).1
  have hvw : vb < w.heap.size := block_lt_of_cell (hvs 0 _ (List.getElem?_eq_getElem (by omega)))
  have hdl : (xs.drop (i * 4)).length = (n - i) * 4 := by rw [List.length_drop, hx]; omega
  have htl : (xs.take (i * 4)).length = i * 4 := by rw [List.length_take, hx]; omega
  have hold : (Builtin.firstCells i0.size i (.slice (some ⟨g, 0, none⟩) i cap)).run Try.prog w.drew = .ok (xs.take (i * 4)).toArray w.drew := by
    rw [hzs]
    exact run_firstCells_some w.drew 4 i ⟨g, 0, none⟩ i cap (xs.take (i * 4)) htl (fun j v hj => by
      rw [Addr.add_lit, Nat.zero_add]
      rw [List.getElem?_take] at hj
      split at hj
      · exact hxc j v hj
      · cases hj)
  have hik : i + (n + 1 - i) = n + 1 := by omega
  obtain ⟨G, hG⟩ : ∃ G, G = grownCap w (n + 1) cap 39 := ⟨_, rfl⟩
  have hGn : n + 1 ≤ G := by rw [hG]; exact grownCap_ge w _ _ _
  have hGm : G ≤ maxLen := by rw [hG]; exact grownCap_le_maxLen w _ _ _ (by rw [maxLen_eq]; omega)
  have hG63 : G ≤ 9223372036854775807 := by rw [maxLen_eq] at hGm; exact hGm
  obtain ⟨ROW, hROW⟩ : ∃ ROW : Array Value, ROW = (xs.take (i * 4)).toArray ++ Builtin.zeroCells z.cells (n + 1 - i) ++ Builtin.zeroCells z.cells (G - (n + 1)) := ⟨_, rfl⟩
  have hRs : ROW.size = G * 4 := by
    rw [hROW]
    simp only [Array.size_append, List.size_toArray, size_zeroCells, hzc, htl]
    omega
  obtain ⟨W1, hW1⟩ : ∃ W1, W1 = w.drew.alloc (.cells ROW 39) := ⟨_, rfl⟩
  have hrz : ∀ ty, (Builtin.append_ #[26, 3] ty #[.slice (some ⟨g, 0, none⟩) i cap, .int .i64 ((n : Int) + 1 - (i : Int))]).run Try.prog w = .ok (.slice (some ⟨w.heap.size, 0, none⟩) (n + 1) G) W1 := fun ty => by
    have h := Lib.run_append_grow_zeros w 26 3 ty 39 i0 z .i64 .i64 Try.underlying26 Try.underlying3 hi0 hz0 (some ⟨g, 0, none⟩) i cap (xs.take (i * 4)) hold (n + 1 - i) (by omega) (by omega) (by omega) (by omega) (by rw [hzb]; omega) (by rw [hzb, hik]; exact growslice_fits hr (by omega))
    rw [hik, ← hG, ← hROW, ← hW1] at h
    rw [show (n : Int) + 1 - (i : Int) = ((n + 1 - i : Nat) : Int) by omega]
    exact h
  have hN : ∀ j, j < G * 4 → (W1.cell? ⟨w.heap.size, j, none⟩).isSome = true := fun j hj => by
    rw [hW1, World.cell?_alloc_at (w := w.drew) ROW _ w.heap.size j rfl, Array.getElem?_eq_getElem (by omega)]; rfl
  have hNf : ∀ j, W1.frozen? ⟨w.heap.size, j, none⟩ = false := fun j => by rw [hW1]; exact World.frozen?_alloc_at (w := w.drew) ROW _ w.heap.size j rfl
  have hOb : ∀ j v, w.cell? ⟨g, j, none⟩ = some v → W1.cell? ⟨g, j, none⟩ = some v := fun j v h => by rw [hW1, World.cell?_alloc_past (w := w.drew) _ g j hgw]; exact h
  have hOv : ∀ j v, w.cell? ⟨vb, j, none⟩ = some v → W1.cell? ⟨vb, j, none⟩ = some v := fun j v h => by rw [hW1, World.cell?_alloc_past (w := w.drew) _ vb j hvw]; exact h
  have hbN : g ≠ w.heap.size := by omega
  obtain ⟨W2, hW2⟩ : ∃ W2, W2 = W1.setCells w.heap.size (i * 4) us := ⟨_, rfl⟩
  have hcpA : ∀ ty dc, (Builtin.copy_ #[26, 26] ty #[.slice (some ⟨w.heap.size, i * 4, none⟩) (n + 1 - i) dc, .slice (some ⟨vb, voff, none⟩) 1 vc]).run Try.prog W1 = .ok (goInt (Nat.min 1 (n + 1 - i))) W2 := fun ty dc => by
    rw [hW2]
    exact run_copy_cellsN W1 _ _ ty 39 4 w.heap.size (i * 4) (n + 1 - i) dc ⟨vb, voff, none⟩ 1 vc us Try.underlying26 hsz (by rw [hu4]; simp only [Nat.min_def]; split <;> omega)
      (fun j v hj => by rw [Addr.add_lit]; exact hOv _ v (hvs j v hj))
      (fun j hj => hN _ (by omega)) (fun j hj => hNf _) h1v
  have hcell2 : ∀ j, j < G * 4 → (W2.cell? ⟨w.heap.size, j, none⟩).isSome = true := fun j hj => by
    rw [hW2]
    by_cases c : i * 4 ≤ j ∧ j < i * 4 + us.length
    · have h3 := World.cell?_setCells_in w.heap.size us (i * 4) W1 (fun t ht => hN _ (by omega)) (j - i * 4) (by omega)
      rw [show i * 4 + (j - i * 4) = j by omega] at h3
      rw [h3]; rfl
    · rw [World.cell?_setCells_out w.heap.size _ _ _ ⟨w.heap.size, j, none⟩ (fun _ _ => by show j < i * 4 ∨ i * 4 + us.length ≤ j; omega)]
      exact hN j hj
  have hcpB : ∀ ty dc sc, (Builtin.copy_ #[26, 26] ty #[.slice (some ⟨w.heap.size, (i + 1) * 4, none⟩) (n - i) dc, .slice (some ⟨g, i * 4, none⟩) (n - i) sc]).run Try.prog W2.drew = .ok (goInt (Nat.min (n - i) (n - i))) (W2.drew.setCells w.heap.size ((i + 1) * 4) (xs.drop (i * 4))) := fun ty dc sc =>
    run_copy_cellsN W2.drew _ _ ty 39 4 w.heap.size ((i + 1) * 4) (n - i) dc ⟨g, i * 4, none⟩ (n - i) sc (xs.drop (i * 4)) Try.underlying26 hsz (by rw [hdl]; simp only [Nat.min_def]; split <;> omega)
      (fun j v hj => by
        show W2.cell? _ = _
        rw [Addr.add_lit, hW2, World.cell?_setCells_out _ _ _ _ _ (fun h _ => absurd h hbN)]
        exact hOb _ v (hxc (i * 4 + j) v (by rwa [List.getElem?_drop] at hj)))
      (fun j hj => hcell2 _ (by omega)) (fun j hj => by show W2.frozen? _ = false; rw [hW2, World.frozen?_setCells]; exact hNf _) (fun v hv => h1x v (List.mem_of_mem_drop hv))
  have hres : (W2.drew.setCells w.heap.size ((i + 1) * 4) (xs.drop (i * 4))).ownsRow 0 39 4 (.slice (some ⟨w.heap.size, 0, none⟩) (n + 1) G) (n + 1) (xs.take (i * 4) ++ us ++ xs.drop (i * 4)) ∧ Fr (fun _ => False) w (W2.drew.setCells w.heap.size ((i + 1) * 4) (xs.drop (i * 4))) := by
    have ha : Same (w.alloc (.cells ((xs.take (i * 4)).toArray ++ Builtin.zeroCells z.cells (n + 1 - i) ++ Builtin.zeroCells z.cells (G - (n + 1))) 39)) W1 := by
      rw [hW1, hROW]; exact ⟨rfl, rfl, rfl, rfl⟩
    refine own_new (c := cap) (d := w) hx hi hu4 hzc hGn hGm ha ?_
    rw [← hW2]; exact ⟨rfl, rfl, rfl, rfl⟩
  have hgb : ∀ b, (Value.slice (some ⟨w.heap.size, 0, none⟩) (n + 1) G).ownBlock = some b → w.heap.size ≤ b := fun b hb => by
    simp only [Value.ownBlock, Option.some.injEq] at hb; omega
  have hz2 : ¬ ((i : Int) = (n : Int)) := by omega
  have hnn : (n : Int) ≤ 9223372036854775806 := by omega
  have hw1 : IntKind.i64.wrap ((i : Int) + 1) = (i : Int) + 1 := by rw [IntKind.wrap_i64]; omega
  have hw2 : IntKind.i64.wrap ((n : Int) + 1) = (n : Int) + 1 := by rw [IntKind.wrap_i64]; omega
  have hw3 : IntKind.i64.wrap ((n : Int) + 1 - (i : Int)) = (n : Int) + 1 - (i : Int) := by rw [IntKind.wrap_i64]; omega
  have hb1 : (0 : Int) ≤ (i : Int) + 1 := by omega
  have hin : i ≤ n := by omega
  have hb3 : (i : Int) ≤ (n : Int) + 1 := by omega
  have hz3 : (cap : Int) < (n : Int) + 1 := by omega
  have hGi : ¬ (G = i) := by omega
  have hGim : ¬ (G = i + 1) := by omega
  have hci : ¬ (cap = i) := by omega
  clear ho hb hcs hx hv hvs hxc hdl htl hold hik hG hROW hRs hN hNf hOb hOv hcell2 hsz hi0 hz0 hzs hzc hzb hu4 hW1 hW2
  go_enter Try.func66, Try.ntmps66
  go_wp2_with (first
    | (at_builtin; refine Lib.wpList_append_run _ rfl _ _ _ _ rfl _ _ rfl rfl _ _ (hrz _) ?_)
    | (at_builtin; refine wpList_copyN _ rfl _ _ 26 26 rfl _ _ rfl rfl (hcpA _ _) ?_))
  go_region_law (refine step_copyN rfl _ _ 26 26 rfl _ _ (by simp [Act.eval, Act.put]) (by simp [Act.eval, Act.put]) (hcpB _ _ _) ?_)
  go_wp2
  go_ret
  exact ⟨_, rfl, hres.1, hres.2, hgb⟩
set_option maxHeartbeats 4000000 in
set_option maxRecDepth 100000 in
/-- One unit is deleted: in place. -/
theorem delU (g m cap i : Nat) (xs : List Value) (w : World) (ho : w.ownsRow 0 39 4 (.slice (some ⟨g, 0, none⟩) (m + 1) cap) (m + 1) xs) (hi : i ≤ m) (h1x : ∀ v ∈ xs, v.oneCell' = true) :
    Calls Try.prog 72 #[.slice (some ⟨g, 0, none⟩) (m + 1) cap, .int .i64 i, .int .i64 ((i : Int) + 1)] w fun e w' => e = .returned (.slice (some ⟨g, 0, none⟩) m cap) ∧ w'.ownsRow 0 39 4 (.slice (some ⟨g, 0, none⟩) m cap) m (xs.take (i * 4) ++ xs.drop ((i + 1) * 4)) ∧ Fr (fun k => k = g) w w' := by
  obtain ⟨cur, hb, hnc, hcm, hcs, hx, hv⟩ := row_at ho
  obtain ⟨i0, z, hi0, hz0, hzs, hzc, hzb⟩ := unInfo w
  rw [maxLen_eq] at hcm
  obtain ⟨news, hnews⟩ : ∃ news, news = xs.drop ((i + 1) * 4) := ⟨_, rfl⟩
  have hnl : news.length = (m + 1 - (i + 1)) * 4 := by rw [hnews, List.length_drop, hx]; omega
  have hxc : ∀ j v, xs[j]? = some v → w.cell? ⟨g, j, none⟩ = some v := fun j v hj => by
    have hjl := (List.getElem?_eq_some_iff.1 hj).1
    rw [cell_of_row w g _ cur _ _ hb, hv j hjl, hj]
  have hcell : ∀ j, j < cap * 4 → (w.cell? ⟨g, j, none⟩).isSome = true := fun j hj => by
    rw [cell_of_row w g _ cur _ _ hb, Array.getElem?_eq_getElem (by omega)]; rfl
  have hfz : ∀ j, w.frozen? ⟨g, j, none⟩ = false := fun j => by unfold World.frozen?; rw [hb]; simp
  obtain ⟨A, hA, hsrc⟩ : ∃ A : Addr, (if cap = i + 1 then some (⟨g, 0, none⟩ : Addr) else some ⟨g, (i + 1) * 4, none⟩) = some A ∧ ∀ t u, news[t]? = some u → w.drew.cell? (A.add t) = some u := by
    by_cases h : cap = i + 1
    · refine ⟨⟨g, 0, none⟩, by simp [h], fun t u hu => ?_⟩
      have h0 : news.length = 0 := by rw [hnl]; omega
      rw [List.length_eq_zero_iff.1 h0] at hu
      simp at hu
    · refine ⟨⟨g, (i + 1) * 4, none⟩, by simp [h], fun t u hu => ?_⟩
      rw [hnews, List.getElem?_drop] at hu
      rw [Addr.add_lit]
      exact hxc _ u hu
  have s1 : news.length = (m - i) * 4 := by rw [hnl]; omega
  have s2 : ∀ u ∈ news, u.oneCell' = true := fun u hu => h1x u (by rw [hnews] at hu; exact List.mem_of_mem_drop hu)
  have s3 : ∀ t, t < news.length → (w.drew.cell? ⟨g, 0 + i * 4 + t, none⟩).isSome = true ∧ w.drew.frozen? ⟨g, 0 + i * 4 + t, none⟩ = false := fun t ht => ⟨hcell _ (by omega), hfz _⟩
  obtain ⟨W1, hW1⟩ : ∃ W1, W1 = w.drew.setCells g (0 + i * 4) news := ⟨_, rfl⟩
  have hcell1 : ∀ j, j < cap * 4 → (W1.cell? ⟨g, j, none⟩).isSome = true := fun j hj => by
    rw [hW1]
    by_cases c : 0 + i * 4 ≤ j ∧ j < 0 + i * 4 + news.length
    · have h3 := World.cell?_setCells_in g news (0 + i * 4) w.drew (fun t ht => hcell _ (by omega)) (j - (0 + i * 4)) (by omega)
      rw [show 0 + i * 4 + (j - (0 + i * 4)) = j by omega] at h3
      rw [h3]; rfl
    · rw [World.cell?_setCells_out g _ _ _ ⟨g, j, none⟩ (fun _ _ => by show j < 0 + i * 4 ∨ 0 + i * 4 + news.length ≤ j; omega)]
      exact hcell j hj
  have hcl : ∀ ty, (Builtin.clear_ #[26] ty #[.slice (some ⟨g, m * 4, none⟩) 1 (cap - m)]).run Try.prog W1 = .ok (.tuple #[]) (W1.setCells g (m * 4) [.int .i64 0, .int .i64 0, .string ⟨#[]⟩, .int .i64 0]) := fun ty => by
    refine run_clearN W1 26 39 ty _ _ Try.underlying26 Try.zeroValue39 rfl (by simp) (by simp [Value.oneCell']) g (m * 4) _ (fun j hj => hcell1 _ ?_) (fun j _ => ?_)
    · simp only [List.length_cons, List.length_nil] at hj; omega
    · rw [hW1, World.frozen?_setCells]; exact hfz _
  have hres : (W1.setCells g (m * 4) [.int .i64 0, .int .i64 0, .string ⟨#[]⟩, .int .i64 0]).ownsRow 0 39 4 (.slice (some ⟨g, 0, none⟩) m cap) m (xs.take (i * 4) ++ xs.drop ((i + 1) * 4)) ∧ Fr (fun k => k = g) w (W1.setCells g (m * 4) [.int .i64 0, .int .i64 0, .string ⟨#[]⟩, .int .i64 0]) := by
    refine own_del ho hi rfl (Same.drew w) ?_
    rw [hW1, hnews, Nat.zero_add]
    exact Same.refl _
  obtain ⟨W2, hW2⟩ : ∃ W2, W2 = W1.setCells g (m * 4) [.int .i64 0, .int .i64 0, .string ⟨#[]⟩, .int .i64 0] := ⟨_, rfl⟩
  rw [← hW2] at hcl hres
  have p0 : 0 ≤ (i : Int) := by omega
  have p1 : (i : Int) ≤ (i : Int) + 1 := by omega
  have p2 : (i : Int) + 1 ≤ (m : Int) + 1 := by omega
  have q0 : 0 ≤ (i : Int) + 1 := by omega
  have p3 : (m : Int) + 1 ≤ (cap : Int) := by omega
  have p4 : (i : Int) ≤ (cap : Int) := by omega
  have p6 : (m : Int) ≤ (m : Int) + 1 := by omega
  have e5 : ((i : Int) == (i : Int) + 1) = false := beq_eq_false_iff_ne.mpr (by omega)
  have e6 : (cap = m) = False := eq_false (by omega)
  have r1 : i + 1 ≤ m + 1 := by omega
  have hsum : i + (m - i) = m := by omega
  have S1 : Hid _ := s1
  have S2 : Hid _ := hsrc
  have S3 : Hid _ := s2
  have S4 : Hid _ := s3
  have S5 : Hid _ := hW1
  clear ho hb hcs hx hv hxc hcell hcell1 hfz hW2 s1 s2 s3 hsrc hnews hnl hW1
  go_enter Try.func72, Try.ntmps72
  go_wp2_with fail
  go_region_law (refine step_append_room rfl (.tmp 22) (.tmp 25) 26 rfl 39 i0 4 Try.underlying26 hi0 hzs g 0 i cap (by simp [Act.eval, Act.put]) A (m - i) (cap - (i + 1)) news (by simp [Act.eval, Act.put, hA]) S1.out S2.out S3.out (by omega) S4.out ?_; rw [← S5.out, hsum])
  go_wp2
  all_goals (go_ret; exact ⟨rfl, hres.1, hres.2⟩)
/-! ### The contracts -/
def unV (u : Un) : List Value := [.int .i64 u.group, .int .i64 u.index, .string u.text, .int .i64 u.sum]
theorem unV_len (l : List Un) : ∀ x ∈ l.map unV, x.length = 4 := by
  intro x hx
  obtain ⟨u, _, rfl⟩ := List.mem_map.1 hx
  rfl
theorem unV_scR (l : List Un) : scR (l.map unV) = l.map unE := by simp [scR, unV, unE]
theorem unV_flat (l : List Un) (i : Nat) (u : Un) : (l.map unV).flatten.take (i * 4) ++ unV u ++ (l.map unV).flatten.drop (i * 4) = ((l.take i ++ u :: l.drop i).map unV).flatten := by
  rw [flat_take _ _ (unV_len l), flat_drop _ _ (unV_len l)]
  simp
theorem unV_del (l : List Un) (i : Nat) : (l.map unV).flatten.take (i * 4) ++ (l.map unV).flatten.drop ((i + 1) * 4) = ((l.eraseIdx i).map unV).flatten := by
  rw [flat_take _ _ (unV_len l), flat_drop _ _ (unV_len l), List.eraseIdx_eq_take_drop_succ]
  simp
theorem insUn_spec (hZ : ZOk Try.prog Z) (l : List Un) (i : Nat) (hi : i ≤ l.length) (hl : l.length ≤ 1048577) (u : Un) (hut : u.text.size ≤ 9223372036854775807) :
    Does Z Try.prog G B0 66 [.bor [(0, 0)] 0 l.length, iA i, .c (unsE false [u])] [[unsE true l]] [false] (fun y r => y = .c (unsE true (l.take i ++ u :: l.drop i)) ∧ r = [[.hole]]) := by
  have hz : Z 39 = 4 := hZ.sz (ag := true) (by kernel_rfl)
  have hd := Does.turnResR (Z := Z) (P := Try.prog) (G := G) (B0 := B0) (f := 66) (e := 39) (sz := 4) (ls := l.map unV) (ms := (l.take i ++ u :: l.drop i).map unV) (by kernel_rfl) hz (unV_len l) (unV_len _) (fun h x hx a ha => by
      obtain ⟨v, hv, rfl⟩ := List.mem_map.1 hx
      rcases List.mem_append.1 hv with hv | hv
      · exact h _ (List.mem_map.2 ⟨v, List.mem_of_mem_take hv, rfl⟩) a ha
      · rcases List.mem_cons.1 hv with rfl | hv
        · simp only [unV, List.mem_cons, List.not_mem_nil, or_false] at ha
          rcases ha with rfl | rfl | rfl | rfl <;> simp [isSc, hut]
        · exact h _ (List.mem_map.2 ⟨v, List.mem_of_mem_drop hv, rfl⟩) a ha) (ex := [iA i, .c (unsE false [u])])
    (fun w S us => ∃ b off cap cur ty fz, us = [.int .i64 i, .slice (some ⟨b, off, none⟩) 1 cap] ∧ S b ∧ w.heap[b]? = some (.cells cur ty fz) ∧ (cur.toList.drop off).take 4 = unV u)
    (fun w S rts vals ad us hS hA => by
      obtain ⟨u0, u1, rfl, h0, h1⟩ := hA.two
      obtain rfl := h0.int_inv
      cases h1 with
      | c h1 =>
        have h1' : RC Z w S (.row false 39 (scR [unV u])) u1 (fun _ => False) := by simpa [unsE, scR, unV, unE] using h1
        obtain ⟨b, off, cap, cur, ty, fz, rfl, h2, h3, _, _, h4, _⟩ := shr_read hz (by simp [unV]) (by simp) h1'
        exact ⟨b, off, cap, cur, ty, fz, rfl, h2, h3, by simpa using h4⟩)
    (fun w S v us ho hS hsc ⟨b, off, cap, cur, ty, fz, hus, hSb, hb, hcur⟩ => by
      subst hus
      have h1x : ∀ a ∈ (l.map unV).flatten, a.oneCell' = true := fun a ha => by
        obtain ⟨x, hx, hax⟩ := List.mem_flatten.1 ha
        exact isSc_one (hsc x hx a hax)
      have h1v : ∀ a ∈ unV u, a.oneCell' = true := fun a ha => by
        simp only [unV, List.mem_cons, List.not_mem_nil, or_false] at ha
        rcases ha with rfl | rfl | rfl | rfl <;> rfl
      have hcl : off + 4 ≤ cur.size := by
        have := congrArg List.length hcur
        simp only [List.length_take, List.length_drop, unV, List.length_cons, List.length_nil, Array.length_toList] at this
        omega
      have hvs : ∀ j a, (unV u)[j]? = some a → w.cell? ⟨b, off + j, none⟩ = some a := fun j a hj => by
        rw [← hcur, List.getElem?_take] at hj
        split at hj
        · rw [List.getElem?_drop, Array.getElem?_toList] at hj
          rw [cell_of_row w b _ cur _ _ hb]; exact hj
        · cases hj
      have hsa : w.shape? b = some (ty, cur.size) := by unfold World.shape?; rw [hb]
      rw [← unV_flat]
      have e1 : (l.map unV).length = l.length := by simp
      have e2 : ((l.take i ++ u :: l.drop i).map unV).length = l.length + 1 := by simp; omega
      have hxl : (l.map unV).flatten.length = l.length * 4 := by rw [flat_len _ (unV_len l), e1]
      rw [e1] at ho
      rw [e2]
      rcases ho.2 with ⟨rfl, h0⟩ | ⟨g, cp, cu, rfl, _, hg, hnc, hcm, hcs, htk⟩
      · have hl0 : l = [] := List.eq_nil_of_length_eq_zero h0
        subst hl0
        obtain rfl : i = 0 := by simpa using hi
        refine (insU_grow none 0 0 b off cap [] (unV u) w rfl (fun a h => by cases h) (fun _ => rfl) (fun a h => by cases h) (Nat.le_refl _) (by omega) (by omega) rfl hvs h1v).mono ?_
        rintro en w' ⟨x, h1, h2, h3, h4⟩
        exact ⟨x, h1, by simpa using h2, h3.mono fun _ h => h.elim, fun g hg => .inr (h4 g hg)⟩
      · have hgS : ¬ S g := hS g rfl
        have hbg : b ≠ g := fun e => hgS (e ▸ hSb)
        by_cases hin : i = l.length
        · subst hin
          have et : (l.map unV).flatten.take (l.length * 4) = (l.map unV).flatten := List.take_of_length_le (by omega)
          have ed : (l.map unV).flatten.drop (l.length * 4) = [] := List.drop_eq_nil_of_le (by omega)
          rw [et, ed, List.append_nil]
          by_cases hr : l.length + 1 ≤ cp
          · refine (insU_end g l.length cp b off cap _ (unV u) w ho hr rfl hvs h1v).mono ?_
            rintro en w' ⟨h1, rfl⟩
            exact ⟨_, h1, own_end ho hr rfl, (fr_set (Same.refl w)).mono fun k h => by rw [h]; rfl, fun x hx => .inl hx⟩
          · have hcc : ∀ a, some (⟨g, 0, none⟩ : Addr) = some a → ∀ j v, (l.map unV).flatten[j]? = some v → w.cell? (a.add j) = some v := fun a ha j v hj => by
              cases ha
              rw [Addr.add_lit, Nat.zero_add, cell_of_row w g _ cu _ _ hg, ← Array.getElem?_toList]
              rw [← htk, List.getElem?_take] at hj
              split at hj
              · exact hj
              · cases hj
            refine (insU_grow (some ⟨g, 0, none⟩) l.length cp b off cap (l.map unV).flatten (unV u) w hxl hcc (fun h => by cases h) (fun a h => by cases h; rfl) hnc (by omega) (by omega) rfl hvs h1v).mono ?_
            rintro en w' ⟨x, h1, h2, h3, h4⟩
            exact ⟨x, h1, h2, h3.mono fun _ h => h.elim, fun g hg => .inr (h4 g hg)⟩
        · by_cases hr : l.length + 1 ≤ cp
          · refine (insU_shift g l.length cp i b off cap _ (unV u) w ho (by omega) hr rfl hvs h1x h1v hbg ty cur.size hsa (by omega)).mono ?_
            rintro en w' ⟨x, h1, h2, h3, h4⟩
            exact ⟨x, h1, h2, h3.mono fun k h => by rw [h]; rfl, fun y hy => .inl (by rw [h4] at hy; rw [← hy]; rfl)⟩
          · refine (insU_new g l.length cp i b off cap _ (unV u) w ho (by omega) (by omega) (by omega) rfl hvs h1x h1v).mono ?_
            rintro en w' ⟨x, h1, h2, h3, h4⟩
            exact ⟨x, h1, h2, h3.mono fun _ h => h.elim, fun g hg => .inr (h4 g hg)⟩)
  rw [unV_scR, unV_scR, List.length_map] at hd
  exact hd
theorem delUn_spec (hZ : ZOk Try.prog Z) (l : List Un) (i : Nat) (hi : i < l.length) :
    Does Z Try.prog G B0 72 [.bor [(0, 0)] 0 l.length, iA i, iA ((i : Int) + 1)] [[unsE true l]] [false] (fun y r => y = .c (unsE true (l.eraseIdx i)) ∧ r = [[.hole]]) := by
  have hz : Z 39 = 4 := hZ.sz (ag := true) (by kernel_rfl)
  have hd := Does.turnResR (Z := Z) (P := Try.prog) (G := G) (B0 := B0) (f := 72) (e := 39) (sz := 4) (ls := l.map unV) (ms := (l.eraseIdx i).map unV) (by kernel_rfl) hz (unV_len l) (unV_len _) (fun h x hx a ha => by
      obtain ⟨v, hv, rfl⟩ := List.mem_map.1 hx
      exact h _ (List.mem_map.2 ⟨v, List.mem_of_mem_eraseIdx hv, rfl⟩) a ha) (ex := [iA i, iA ((i : Int) + 1)])
    (fun w S us => us = [.int .i64 i, .int .i64 ((i : Int) + 1)])
    (fun w S rts vals ad us hS hA => by
      obtain ⟨u0, u1, rfl, h0, h1⟩ := hA.two
      obtain rfl := h0.int_inv
      obtain rfl := h1.int_inv
      rfl)
    (fun w S v us ho hS hsc hus => by
      subst hus
      have h1x : ∀ a ∈ (l.map unV).flatten, a.oneCell' = true := fun a ha => by
        obtain ⟨x, hx, hax⟩ := List.mem_flatten.1 ha
        exact isSc_one (hsc x hx a hax)
      rw [← unV_del]
      obtain ⟨m, hm⟩ : ∃ m, l.length = m + 1 := ⟨l.length - 1, by omega⟩
      have e1 : (l.map unV).length = m + 1 := by simp [hm]
      have e2 : ((l.eraseIdx i).map unV).length = m := by rw [List.length_map, List.length_eraseIdx, if_pos hi]; omega
      rw [e1] at ho
      rw [e2]
      rcases ho.2 with ⟨rfl, h0⟩ | ⟨g, cp, cu, rfl, _, hg, hnc, hcm, hcs, htk⟩
      · omega
      · refine (delU g m cp i _ w ho (by omega) h1x).mono ?_
        rintro en w' ⟨h1, h2, h3⟩
        exact ⟨_, h1, h2, h3.mono fun k h => by rw [h]; rfl, fun y hy => .inl hy⟩)
  rw [unV_scR, unV_scR, List.length_map] at hd
  exact hd
end Go.Proofs.Ytbhbkaonlillhaa
