/- Walks, as the kit's print writes them, run with stubs of my own and mended: PA. -/
import Derived.Test.YtmgdekfajjdcdaaDoorQPA0
import Derived.Test.YtmgdekfajjdcdaaDoorQPA1
namespace Go.Proofs.YtmgdekfajjdcdaaDoor.QPA
open Go.Proofs.YtmgdekfajjdcdaaDoorW Go.Proofs.YtmgdekfajjdcdaaDoorW.Zip
open Go.RowKit Go.Proofs.YtmgdekfajjdcdaaDoorW.PrintWords Go.Proofs.YtmgdekfajjdcdaaDoorW.PrintLast Go.Proofs.YtmgdekfajjdcdaaDoorW.PrintMore
attribute [local go_sem] max2_int min2_int max_two min_two max_three min_three max_four min_four   -- for this text's walks alone
set_option linter.unusedVariables false
set_option linter.unusedSimpArgs false
def impl_SplitPath.nm (s : ByteArray) : Bool := (impl_NameOk.f (s.size + 1) s).getD false
def impl_SplitPath.rest (a0 : ByteArray) : ByteArray := ⟨(Lib.trimPrefix a0.data.toList [47]).toArray⟩
def impl_SplitPath.ps (a0 : ByteArray) : List ByteArray := Lib.splitB ⟨#[47]⟩ 0 (Lib.countB (impl_SplitPath.rest a0) ⟨#[47]⟩) (impl_SplitPath.rest a0)
def impl_SplitPath.f (k : Nat) (a0 : ByteArray) : Option (List ByteArray × Bool) :=
  if a0.size < 4294967281 then
    (if Lib.hasPrefix a0.data.toList [47] = true then
      (if (impl_SplitPath.rest a0).toList = ([] : List UInt8) then some ([], true)
       else if ((impl_SplitPath.ps a0).length : Int) > 4 then some ([], false)
       else if (impl_SplitPath.ps a0).any (fun s => !impl_SplitPath.nm s) = true then some ([], false) else some (impl_SplitPath.ps a0, true))
     else some ([], false))
  else none
theorem impl_SplitPath.name_loop (s : ByteArray) (hs : s.size ≤ 4294967296) : ∀ (d k : Nat) (i : Int), 0 ≤ i → (s.size : Int) - i = d → d < k → ∃ b, impl_NameOk.l0 k s i = some b := by
  intro d
  induction d with
  | zero =>
    intro k i h0 h1 hk
    obtain ⟨k, rfl⟩ : ∃ m, k = m + 1 := ⟨k - 1, by omega⟩
    have hn : ¬ i < (s.size : Int) := by omega
    simp only [impl_NameOk.l0, if_neg hn, impl_within.f]
    split
    · exact ⟨_, rfl⟩
    · exact ⟨_, rfl⟩
  | succ d ih =>
    intro k i h0 h1 hk
    obtain ⟨k, rfl⟩ : ∃ m, k = m + 1 := ⟨k - 1, by omega⟩
    have hp : i < (s.size : Int) := by omega
    have hw : wrap64 (i + 1) = i + 1 := by unfold wrap64; omega
    obtain ⟨b, hb⟩ := ih k (i + 1) (by omega) (by omega) (by omega)
    simp only [impl_NameOk.l0, if_pos hp, if_pos h0, hw, hb]
    repeat' split
    all_goals exact ⟨_, rfl⟩
theorem impl_SplitPath.name (s : ByteArray) (hs : s.size ≤ 4294967296) : impl_NameOk.f (s.size + 1) s = some (impl_SplitPath.nm s) := by
  obtain ⟨b, hb⟩ := impl_SplitPath.name_loop s hs s.size (s.size + 1) 0 (by omega) (by omega) (by omega)
  unfold impl_SplitPath.nm impl_NameOk.f
  rw [hb]
  rfl
abbrev Txt := {s : ByteArray // s.size ≤ 4294967296}
instance instInh_txt : Inhabited Txt := ⟨⟨ByteArray.empty, by decide⟩⟩
theorem impl_SplitPath.pred (w : World) : PredAt Tryd.prog 25 #[] (fun x : Txt => .string x.1) (fun x => !impl_SplitPath.nm x.1) w := fun W x _ => by
  have hc := Aside0.mk (fun W => impl_NameOk.calls (x.1.size + 1) x.1 (impl_SplitPath.nm x.1) W (impl_SplitPath.name x.1 x.2))
  obtain ⟨s, hs⟩ := x
  show Calls Tryd.prog 25 #[.string s] W _
  show Calls _ _ _ _ fun e w' => e = .returned (.bool (!impl_SplitPath.nm s)) ∧ _
  replace hc : Aside0 (∀ W : World, Calls Tryd.prog 12 #[.string s] W fun e w' => e = .returned (.bool (impl_SplitPath.nm s)) ∧ Drawn0 W w') := ⟨fun W => hc.out W⟩
  generalize impl_SplitPath.nm s = b at hc ⊢
  go_enter Tryd.func25, Tryd.ntmps25
  go_wp2_with (go_at_call 12; refine (hc.out _).mono ?_; rintro e w' ⟨rfl, ⟨nd, rfl⟩⟩)
  go_ret
  exact ⟨rfl, nd, rfl⟩
def MG (w : World) : Prop := ∃ m, w.cell? ⟨0, 0, none⟩ = some (.int .i64 m)
theorem MG.on {w W : World} (h : MG w) (hb : Below w.heap.size w W) : MG W := by
  obtain ⟨m, hm⟩ := h
  exact ⟨m, (hb.cell (World.block_lt_of_cell? w _ hm)).trans hm⟩
def conS_ren : Go.Shelf.Ren := ⟨fun | 6 => 46 | 8 => 24 | n => n, fun | 22 => 25 | 23 => 9 | 25 => 32 | 0 => 0 | 3 => 3 | 4 => 4 | n => n, fun n => n⟩
theorem conS_lays : SlLaysH.n8 Tryd.prog conS_ren where
  mixed := by kernel_rfl
  f6 := ⟨Tryd.f46.name, by kernel_rfl, Tryd.func46.trans (congrArg some (by kernel_rfl))⟩
  f8 := ⟨Tryd.f24.name, by kernel_rfl, Tryd.func24.trans (congrArg some (by kernel_rfl))⟩
  t0 := Tryd.underlying0
  a0 := Tryd.isAgg0
  z0 := Tryd.sizeOf0
  v0 := Tryd.zeroValue0
  t3 := Tryd.underlying3
  a3 := Tryd.isAgg3
  z3 := Tryd.sizeOf3
  v3 := Tryd.zeroValue3
  t4 := Tryd.underlying4
  a4 := Tryd.isAgg4
  z4 := Tryd.sizeOf4
  v4 := Tryd.zeroValue4
  t22 := Tryd.underlying25
  a22 := Tryd.isAgg25
  z22 := Tryd.sizeOf25
  v22 := Tryd.zeroValue25
  a23 := Tryd.isAgg9
  z23 := Tryd.sizeOf9
  t25 := Tryd.underlying32
  a25 := Tryd.isAgg32
  z25 := Tryd.sizeOf32
  v25 := Tryd.zeroValue32
theorem splitB_small (sep : ByteArray) (N : Nat) : ∀ (k : Nat) (s : ByteArray), s.size ≤ N → ∀ p ∈ Lib.splitB sep 0 k s, p.size ≤ N
  | 0, s, h, p, hp => by
    rw [Lib.splitB_zero, List.mem_singleton] at hp
    subst hp
    exact h
  | k + 1, s, h, p, hp => by
    unfold Lib.splitB at hp
    have hx : ∀ a b, (s.extract a b).size ≤ N := fun a b => by rw [ByteArray.size_extract]; omega
    split at hp
    · rw [List.mem_singleton] at hp
      subst hp
      exact h
    · rw [List.mem_cons] at hp
      rcases hp with rfl | hp
      · exact hx _ _
      · exact splitB_small sep N k _ (hx _ _) p hp
theorem impl_SplitPath.rest_le (a0 : ByteArray) : (impl_SplitPath.rest a0).size ≤ a0.size := by
  have h := Lib.trimPrefix_le a0.data.toList [47]
  rw [Array.length_toList] at h
  show (Lib.trimPrefix a0.data.toList [47]).toArray.size ≤ a0.data.size
  rw [List.size_toArray]
  exact h
theorem impl_SplitPath.any_eq (ps : List ByteArray) (hp : ∀ p ∈ ps, p.size ≤ 4294967296) : ∃ zs : List Txt, zs.map Subtype.val = ps ∧ zs.any (fun x => !impl_SplitPath.nm x.1) = ps.any (fun s => !impl_SplitPath.nm s) := by
  refine ⟨ps.attach.map fun x => ⟨x.1, hp x.1 x.2⟩, ?_, ?_⟩
  · rw [List.map_map]
    exact List.attach_map_subtype_val ps
  · rw [List.any_map]
    have e := congrArg (fun l => l.any (fun s => !impl_SplitPath.nm s)) (List.attach_map_subtype_val ps)
    simp only [List.any_map] at e
    exact e
theorem impl_SplitPath.contains (ps : List ByteArray) (hp : ∀ p ∈ ps, p.size ≤ 4294967296) (hn : ps.length ≤ 9223372036854775807) (w W : World) (hw : w = W.alloc (.cells (ps.map Value.string).toArray 9)) :
    Calls Tryd.prog 24 #[.slice (some ⟨W.heap.size, 0, none⟩) ps.length ps.length, .func (.func 25) #[] #[]] w fun e w' => e = .returned (.bool (ps.any fun s => !impl_SplitPath.nm s)) ∧ ∃ q, w' = w.drewN q := by
  subst hw
  obtain ⟨zs, hz, ha⟩ := impl_SplitPath.any_eq ps hp
  have hl : zs.length = ps.length := by rw [← hz, List.length_map]
  have eg : ∀ args w, (callFunc 25 args).run Tryd.prog w = .ok (.enter 25 args) w := enters_of Tryd.func25 (by kernel_rfl) rfl
  have h := AnyE.slices_ContainsFunc conS_lays (fun x : Txt => .string x.1) (fun x => !impl_SplitPath.nm x.1) 25 #[] eg W.heap.size 0 ps.length ps.length zs (W.alloc (.cells (ps.map Value.string).toArray 9)) (impl_SplitPath.pred _) (by omega) hn (fun j hj => by
    rw [World.cell?_alloc_at _ _ _ _ rfl, Nat.zero_add]
    have e : zs[j]? = some zs[j]! := by rw [List.getElem?_eq_getElem hj, List.getElem!_eq_getElem?_getD, List.getElem?_eq_getElem hj]; rfl
    have e2 : (ps.map Value.string)[j]? = some (.string zs[j]!.1) := by rw [← hz, List.map_map, List.getElem?_map, e]; rfl
    rw [List.getElem?_toArray]
    exact e2)
  rw [show (zs.take ps.length) = zs by rw [← hl]; exact List.take_length, ha] at h
  exact h
set_option maxHeartbeats 8000000 in
set_option maxRecDepth 100000 in
theorem impl_SplitPath.calls (k : Nat) (a0 : ByteArray) (r1 : List ByteArray) (r2 : Bool) (w : World) (h : impl_SplitPath.f k a0 = some (r1, r2)) (hg : MG w) :
    Calls Tryd.prog 7 #[.string a0] w fun e w' => ∃ v0_ : Value, e = .returned (.tuple #[v0_, .bool r2]) ∧ Kd.R Kd.string 9 w' w.heap.size (fun _ => True) v0_ r1 ∧ Below w.heap.size w w' := by
  have hbx : Aside0 (MG w) := ⟨hg⟩
  have HB := Aside0.mk (Below.refl w.heap.size w)
  clear hg
  unfold impl_SplitPath.f at h
  by_cases hsz : a0.size < 4294967281
  · rw [if_pos hsz] at h
    by_cases hp : Lib.hasPrefix a0.data.toList [47] = true
    · rw [if_pos hp] at h
      have hcut : Aside0 (∀ w, Calls Tryd.prog 22 #[.string a0, .string ⟨#[47]⟩] w fun e w' => e = .returned (.tuple #[.string (impl_SplitPath.rest a0), .bool true]) ∧ w' = w) := ⟨fun w => by
        have h0 := Tryd.strings_CutPrefix a0 ⟨#[47]⟩ w
        rw [show Lib.hasPrefix a0.data.toList (⟨#[47]⟩ : ByteArray).data.toList = true from hp] at h0
        exact h0⟩
      by_cases he : (impl_SplitPath.rest a0).toList = ([] : List UInt8)
      · rw [if_pos he] at h
        have heb : ((impl_SplitPath.rest a0).toList == ([] : List UInt8)) = true := beq_iff_eq.mpr he
        obtain ⟨rfl, rfl⟩ := Prod.mk.inj (Option.some.inj h)
        clear h he hp
        generalize impl_SplitPath.rest a0 = R at hcut heb
        go_enter Tryd.func7, Tryd.ntmps7
        go_wp2_with (go_at_call 22; refine (hcut.out _).mono ?_; rintro e w' ⟨rfl, rfl⟩)
        repeat (go_quiet (fail); try go_wp2)
        go_ret2
        exact ⟨_, rfl, Kd.R_nil _ _ _ _ _, pl0 HB.out⟩
      · rw [if_neg he] at h
        have heb : ((impl_SplitPath.rest a0).toList == ([] : List UInt8)) = false := beq_eq_false_iff_ne.mpr he
        have hR : (impl_SplitPath.rest a0).size < 4294967281 := Nat.lt_of_le_of_lt (impl_SplitPath.rest_le a0) hsz
        have hsplit : Aside0 (∀ W : World, MG W → Calls Tryd.prog 23 #[.string (impl_SplitPath.rest a0), .string ⟨#[47]⟩] W fun e w' => e = .returned (.slice (some ⟨W.heap.size, 0, none⟩) (impl_SplitPath.ps a0).length (impl_SplitPath.ps a0).length) ∧ w' = W.alloc (.cells ((impl_SplitPath.ps a0).map Value.string).toArray 9)) := ⟨fun W hW => by
          obtain ⟨m, hm⟩ := hW
          have h0 := Tryd.strings_Split (impl_SplitPath.rest a0) ⟨#[47]⟩ m W hR hm (by decide)
          have hl : (impl_SplitPath.ps a0).length = Lib.countB (impl_SplitPath.rest a0) ⟨#[47]⟩ + 1 := Lib.splitB_all ⟨#[47]⟩ (by decide) 0 _ _ rfl
          rw [hl]
          exact h0⟩
        have hcon : Aside0 (∀ W : World, Calls Tryd.prog 24 #[.slice (some ⟨W.heap.size, 0, none⟩) (impl_SplitPath.ps a0).length (impl_SplitPath.ps a0).length, .func (.func 25) #[] #[]] (W.alloc (.cells ((impl_SplitPath.ps a0).map Value.string).toArray 9)) fun e w' => e = .returned (.bool ((impl_SplitPath.ps a0).any fun s => !impl_SplitPath.nm s)) ∧ ∃ q, w' = (W.alloc (.cells ((impl_SplitPath.ps a0).map Value.string).toArray 9)).drewN q) := ⟨fun W => by
          have hl := Lib.splitB_length_le ⟨#[47]⟩ 0 (Lib.countB (impl_SplitPath.rest a0) ⟨#[47]⟩) (impl_SplitPath.rest a0)
          have hc := Lib.countB_le ⟨#[47]⟩ (by decide) _ (impl_SplitPath.rest a0) (Nat.le_refl _)
          refine impl_SplitPath.contains (impl_SplitPath.ps a0) (splitB_small _ _ _ _ (by omega)) ?_ _ W rfl
          show (Lib.splitB ⟨#[47]⟩ 0 (Lib.countB (impl_SplitPath.rest a0) ⟨#[47]⟩) (impl_SplitPath.rest a0)).length ≤ _
          omega⟩
        have hrow : Aside0 (∀ W : World, w.heap.size ≤ W.heap.size → Kd.R Kd.string 9 (W.alloc (.cells ((impl_SplitPath.ps a0).map Value.string).toArray 9)) w.heap.size (fun _ => True) (.slice (some ⟨W.heap.size, 0, none⟩) (impl_SplitPath.ps a0).length (impl_SplitPath.ps a0).length) (impl_SplitPath.ps a0)) := ⟨fun W hW => by
          have hl := Lib.splitB_length_le ⟨#[47]⟩ 0 (Lib.countB (impl_SplitPath.rest a0) ⟨#[47]⟩) (impl_SplitPath.rest a0)
          have hc := Lib.countB_le ⟨#[47]⟩ (by decide) _ (impl_SplitPath.rest a0) (Nat.le_refl _)
          refine ⟨fun _ _ => trivial, OwnRow.lit W w.heap.size (Kd.reps_scalar (enc := Value.string) (impl_SplitPath.ps a0)) hW ?_⟩
          show (Lib.splitB ⟨#[47]⟩ 0 (Lib.countB (impl_SplitPath.rest a0) ⟨#[47]⟩) (impl_SplitPath.rest a0)).length ≤ _
          omega⟩
        clear hp he hR hsz
        generalize impl_SplitPath.rest a0 = R at hcut heb hsplit h
        generalize impl_SplitPath.ps a0 = ps at hsplit hcon hrow h
        by_cases h4 : (ps.length : Int) > 4
        · rw [if_pos h4] at h
          have h4b : decide ((ps.length : Int) > 4) = true := decide_eq_true h4
          obtain ⟨rfl, rfl⟩ := Prod.mk.inj (Option.some.inj h)
          clear h h4
          go_enter Tryd.func7, Tryd.ntmps7
          go_wp2_with (first | (go_at_call 22; refine (hcut.out _).mono ?_; rintro e w' ⟨rfl, rfl⟩) | (go_at_call 23; refine (hsplit.out _ (hbx.out.on (pl0 HB.out))).mono ?_; rintro e w' ⟨rfl, rfl⟩))
          repeat (go_quiet (fail); try go_wp2)
          go_ret2
          exact ⟨_, rfl, Kd.R_nil _ _ _ _ _, pl0 HB.out⟩
        · rw [if_neg h4] at h
          have h4b : decide ((ps.length : Int) > 4) = false := decide_eq_false h4
          clear h4
          cases hc : (ps.any fun s => !impl_SplitPath.nm s) with
          | true =>
            rw [if_pos hc] at h
            simp only [hc] at hcon
            obtain ⟨rfl, rfl⟩ := Prod.mk.inj (Option.some.inj h)
            clear h hc
            go_enter Tryd.func7, Tryd.ntmps7
            go_wp2_with (first | (go_at_call 22; refine (hcut.out _).mono ?_; rintro e w' ⟨rfl, rfl⟩) | (go_at_call 23; refine (hsplit.out _ (hbx.out.on (pl0 HB.out))).mono ?_; rintro e w' ⟨rfl, rfl⟩) | (go_at_call 24; refine (hcon.out _).mono ?_; rintro e w' ⟨rfl, ⟨nd, rfl⟩⟩))
            repeat (go_quiet (fail); try go_wp2)
            go_ret2
            exact ⟨_, rfl, Kd.R_nil _ _ _ _ _, pl0 HB.out⟩
          | false =>
            rw [if_neg (by rw [hc]; decide)] at h
            simp only [hc] at hcon
            obtain ⟨rfl, rfl⟩ := Prod.mk.inj (Option.some.inj h)
            clear h hc
            go_enter Tryd.func7, Tryd.ntmps7
            go_wp2_with (first | (go_at_call 22; refine (hcut.out _).mono ?_; rintro e w' ⟨rfl, rfl⟩) | (go_at_call 23; refine (hsplit.out _ (hbx.out.on (pl0 HB.out))).mono ?_; rintro e w' ⟨rfl, rfl⟩) | (go_at_call 24; refine (hcon.out _).mono ?_; rintro e w' ⟨rfl, ⟨nd, rfl⟩⟩))
            repeat (go_quiet (fail); try go_wp2)
            go_ret2
            refine ⟨_, rfl, ?_, pl0 HB.out⟩
            (with_reducible repeat (first | apply Kd.R_drewN | apply Kd.R_drew))
            exact hrow.out _ (below_size (pl0 HB.out))
    · rw [if_neg hp] at h
      have hcut : Aside0 (∀ w, Calls Tryd.prog 22 #[.string a0, .string ⟨#[47]⟩] w fun e w' => e = .returned (.tuple #[.string (impl_SplitPath.rest a0), .bool false]) ∧ w' = w) := ⟨fun w => by
        have h0 := Tryd.strings_CutPrefix a0 ⟨#[47]⟩ w
        rw [show Lib.hasPrefix a0.data.toList (⟨#[47]⟩ : ByteArray).data.toList = false from Bool.eq_false_iff.mpr hp] at h0
        exact h0⟩
      obtain ⟨rfl, rfl⟩ := Prod.mk.inj (Option.some.inj h)
      clear h hp
      generalize impl_SplitPath.rest a0 = R at hcut
      go_enter Tryd.func7, Tryd.ntmps7
      go_wp2_with (go_at_call 22; refine (hcut.out _).mono ?_; rintro e w' ⟨rfl, rfl⟩)
      repeat (go_quiet (fail); try go_wp2)
      go_ret2
      exact ⟨_, rfl, Kd.R_nil _ _ _ _ _, pl0 HB.out⟩
  · rw [if_neg hsz] at h
    exact absurd h (by simp)
def spec_JoinPath.l0 : Nat → List ByteArray → ByteArray → Int → Option (ByteArray)
  | 0, _, _, _ => none
  | k + 1, x0, x3, x4 => if x4 < (x0.length : Int) then (if x3.size + 1 ≤ 9223372036854775807 then (if 0 ≤ x4 then (if (x3 ++ (⟨#[47]⟩ : ByteArray)).size + (rdOf ByteArray.empty x0 x4).size ≤ 9223372036854775807 then (spec_JoinPath.l0 k x0 ((x3 ++ (⟨#[47]⟩ : ByteArray)) ++ (rdOf ByteArray.empty x0 x4)) (wrap64 (x4 + 1))) else (none)) else (none)) else (none)) else (some x3)
def spec_JoinPath.f (k : Nat) (l0 : List ByteArray) : Option (ByteArray) := if (l0.length : Int) = 0 then (some (⟨#[47]⟩ : ByteArray)) else (spec_JoinPath.l0 k l0 (⟨#[]⟩ : ByteArray) 0)
set_option maxHeartbeats 8000000 in
set_option maxRecDepth 100000 in
theorem spec_JoinPath.calls (k : Nat) (A0 : Option Addr) (c0 : Nat) (l0 : List ByteArray) (r : ByteArray) (w : World) (hr0 : Kd.C Kd.string w A0 l0.length l0) (hc0 : l0.length ≤ c0) (h : spec_JoinPath.f k l0 = some r) :
    Calls Tryd.prog 63 #[.slice A0 l0.length c0] w fun e w' => e = .returned (.string r) ∧ Drawn0 w w' := by
  have HR0 := Aside0.mk hr0
  have HC0 := Aside0.mk hc0
  clear hr0 hc0
  have H : (if (l0.length : Int) = 0 then (some (⟨#[47]⟩ : ByteArray)) else (spec_JoinPath.l0 k l0 (⟨#[]⟩ : ByteArray) 0)) = some r := h
  clear h
  by_cases c2 : (l0.length : Int) = 0
  ·rw [if_pos c2] at H
   have c2b0 : ((l0.length : Int) == 0) = true := beq_iff_eq.mpr c2
   have c2b1 : ((l0.length : Int) != 0) = false := bne_eq_false_iff_eq.mpr c2
   clear c2
   obtain rfl := Option.some.inj H
   go_enter Tryd.func63, Tryd.ntmps63
   go_wp2
   go_ret
   exact ⟨by first | rfl | (simp; done) | (simp [*]; done), by repeat (first | exact Drawn0.refl _ | apply Drawn0.step)⟩
  ·rw [if_neg c2] at H
   have c2b0 : ((l0.length : Int) == 0) = false := beq_eq_false_iff_ne.mpr c2
   have c2b1 : ((l0.length : Int) != 0) = true := bne_iff_ne.mpr c2
   have c2b2 : ¬ (l0 = []) := fun h_ => c2 (by rw [h_]; rfl)
   have H' := Aside0.mk H
   clear H
   go_enter Tryd.func63, Tryd.ntmps63
   go_wp2
   go_loopg [3, 4] k (fun kq v3 v4 w' => ∃ (x3_1 : ByteArray) (x4_1 : Int), v3 = .string x3_1 ∧ v4 = .int .i64 x4_1 ∧ Aside0 (spec_JoinPath.l0 kq l0 x3_1 x4_1 = some r) ∧ Aside0 (kq ≤ k) ∧ Drawn0 w w')
   case atStart => exact ⟨((⟨#[]⟩ : ByteArray)), (0), eqa, eqa, H', ⟨Nat.le_refl _⟩, by repeat (first | exact Drawn0.refl _ | apply Drawn0.step)⟩
   case round =>
    clear H'
    try clear c2; try clear c2b0; try clear c2b1; try clear c2b2
    obtain ⟨x3_1, x4_1, rfl, rfl, HA, HK1, ⟨m1, rfl⟩⟩ := hrel
    cases gk with
    | zero => exact absurd HA.out (by simp [spec_JoinPath.l0])
    | succ k1 =>
     have H := HA.out
     clear HA
     simp only [spec_JoinPath.l0] at H
     by_cases c3 : x4_1 < (l0.length : Int)
     ·rw [if_pos c3] at H
      have c3b0 : decide (x4_1 < (l0.length : Int)) = true := decide_eq_true c3
      clear c3
      by_cases c4 : x3_1.size + 1 ≤ 9223372036854775807
      ·rw [if_pos c4] at H
       have c4b0 := eq_true c4
       have c4b1 : decide (x3_1.size + 1 ≤ 9223372036854775807) = true := decide_eq_true c4
       try have c4b2 : (9223372036854775807 < x3_1.size + 1) = False := eq_false (Nat.not_lt.2 c4)
       by_cases c5 : 0 ≤ x4_1
       ·rw [if_pos c5] at H
        have c5b0 : decide (0 ≤ x4_1) = true := decide_eq_true c5
        clear c5
        by_cases c6 : (x3_1 ++ (⟨#[47]⟩ : ByteArray)).size + (rdOf ByteArray.empty l0 x4_1).size ≤ 9223372036854775807
        ·rw [if_pos c6] at H
         have c6b0 := eq_true c6
         have c6b1 : decide ((x3_1 ++ (⟨#[47]⟩ : ByteArray)).size + (rdOf ByteArray.empty l0 x4_1).size ≤ 9223372036854775807) = true := decide_eq_true c6
         try have c6b2 : (9223372036854775807 < (x3_1 ++ (⟨#[47]⟩ : ByteArray)).size + (rdOf ByteArray.empty l0 x4_1).size) = False := eq_false (Nat.not_lt.2 c6)
         try have c6b4 := c6b2
         try simp only [ByteArray.size_append, show (⟨#[47]⟩ : ByteArray).size = 1 from rfl] at c6b4
         have H' := Aside0.mk H
         clear H
         have p185 : 0 ≤ (x4_1 : Int) := oda
         have q185 : x4_1 < (l0.length : Int) := oda
         obtain ⟨ad185, e185, hx185_0⟩ := Kd.at_string HR0.out x4_1 p185 q185
         cases e185
         replace p185 := eq_true p185
         replace q185 := eq_true q185
         go_wp2
         go_roundg k1
         case measure => have := HK1.out; omega
         case rel => exact ⟨((x3_1 ++ (⟨#[47]⟩ : ByteArray)) ++ (rdOf ByteArray.empty l0 x4_1)), (wrap64 (x4_1 + 1)), eqa, eqa, H', ⟨by have := HK1.out; omega⟩, by repeat (first | exact Drawn0.refl _ | apply Drawn0.step)⟩
        ·rw [if_neg c6] at H
         exact absurd H (by simp)
       ·rw [if_neg c5] at H
        exact absurd H (by simp)
      ·rw [if_neg c4] at H
       exact absurd H (by simp)
     ·rw [if_neg c3] at H
      have c3b0 : decide (x4_1 < (l0.length : Int)) = false := decide_eq_false c3
      clear c3
      obtain rfl := Option.some.inj H
      go_wp2
      go_ret
      exact ⟨by first | rfl | (simp; done) | (simp [*]; done), by repeat (first | exact Drawn0.refl _ | apply Drawn0.step)⟩
def impl_JoinPath.f (k : Nat) (l0 : List ByteArray) : Option (ByteArray) := if l0.length ≤ 140737488355328 ∧ (Lib.join (l0.map (·.data.toList)) [47]).length ≤ 140737488355328 then some ((⟨#[47]⟩ : ByteArray) ++ ⟨(Lib.join (l0.map (·.data.toList)) [47]).toArray⟩) else none
theorem impl_JoinPath.joins (A0 : Option Addr) (c0 : Nat) (l0 : List ByteArray) (w : World) (hr0 : Kd.C Kd.string w A0 l0.length l0) (hc0 : l0.length ≤ c0) (hN : l0.length ≤ 140737488355328) (hlen : (Lib.join (l0.map (·.data.toList)) [47]).length ≤ 140737488355328) :
    Calls Tryd.prog 27 #[.slice A0 l0.length c0, .string ⟨#[47]⟩] w fun e w' => e = .returned (.string ⟨(Lib.join (l0.map (·.data.toList)) [47]).toArray⟩) ∧ Below w.heap.size w w' := by
  cases l0 with
  | nil =>
    refine (Tryd.strings_Join_none A0 c0 ⟨#[47]⟩ w).mono ?_
    rintro e w' ⟨rfl, rfl⟩
    exact ⟨rfl, Below.refl _ _⟩
  | cons x l =>
    obtain ⟨ad, rfl, hc⟩ := hr0.2.2 (by simp)
    have cell : ∀ (j : Nat) y, (x :: l)[j]? = some y → w.cell? (ad.add j) = some (.string y) := by
      intro j y hy
      obtain ⟨c, h1, h2, h3⟩ := hc j y hy
      obtain rfl : c = [.string y] := h2
      have := h3 0 (.string y) rfl
      simpa [Kd.string, Kd.scalar] using this
    obtain ⟨b, o, s⟩ := ad
    have c0_ := cell 0 x rfl
    have hs : s = none := by
      unfold World.cell? Addr.add at c0_
      cases s with
      | none => rfl
      | some v =>
        exfalso
        simp only [if_true] at c0_
        split at c0_
        · simp at c0_
        · simp at c0_
    subst hs
    have hb : b < w.heap.size := by
      unfold World.cell? Addr.add at c0_
      simp only [if_true] at c0_
      refine Nat.lt_of_not_le fun hle => ?_
      rw [Array.getElem?_eq_none hle] at c0_
      simp at c0_
    have ha : ∀ j, (⟨b, o, none⟩ : Addr).add j = ⟨b, o + j, none⟩ := fun j => by
      unfold Addr.add
      by_cases hj : j = 0
      · subst hj; rfl
      · rw [if_neg hj]
    exact Tryd.strings_Join b o c0 (x :: l) ⟨#[47]⟩ w (fun j y hy => by rw [← ha]; exact cell j y hy) hb hN hc0 hlen
set_option maxHeartbeats 8000000 in
set_option maxRecDepth 100000 in
theorem impl_JoinPath.calls (k : Nat) (A0 : Option Addr) (c0 : Nat) (l0 : List ByteArray) (r : ByteArray) (w : World) (hr0 : Kd.C Kd.string w A0 l0.length l0) (hc0 : l0.length ≤ c0) (h : impl_JoinPath.f k l0 = some r) :
    Calls Tryd.prog 11 #[.slice A0 l0.length c0] w fun e w' => e = .returned (.string r) ∧ Below w.heap.size w w' := by
  unfold impl_JoinPath.f at h
  by_cases hb : l0.length ≤ 140737488355328 ∧ (Lib.join (l0.map (·.data.toList)) [47]).length ≤ 140737488355328
  · rw [if_pos hb] at h
    obtain rfl := Option.some.inj h
    clear h
    have J := impl_JoinPath.joins A0 c0 l0 w hr0 hc0 hb.1 hb.2
    obtain ⟨S, hS, hz⟩ : ∃ S : ByteArray, ByteArray.mk (Lib.join (l0.map (·.data.toList)) [47]).toArray = S ∧ S.size ≤ 140737488355328 := ⟨_, rfl, by simpa [ByteArray.size] using hb.2⟩
    rw [hS] at J ⊢
    clear hS hb
    have z1 : 1 + S.size ≤ 9223372036854775807 := by omega
    have z1b0 := eq_true z1
    have z1b1 : decide (1 + S.size ≤ 9223372036854775807) = true := decide_eq_true z1
    have z1b2 : (9223372036854775807 < 1 + S.size) = False := eq_false (Nat.not_lt.2 z1)
    have HJ := Aside0.mk J
    clear J
    go_enter Tryd.func11, Tryd.ntmps11
    go_wp2_with (first | ((with_reducible refine gate_callee (f := 27) rfl ?_); refine goesL_ (some 4) rfl rfl Tryd.func27 (by kernel_rfl) rfl #[.slice A0 l0.length c0, .string ⟨#[47]⟩] rfl (by (try simp only [List.map_toArray, List.map_cons, List.map_nil]); first | done | rfl | (simp only [List.length_drop, List.length_take]; rfl)) ?_; (with_reducible refine (HJ.out).mono ?_); rintro e w16 ⟨rfl, hb⟩; refine ⟨_, rfl, ?_⟩; have HB := Aside0.mk hb; clear hb))
    go_ret
    exact ⟨by first | rfl | (simp; done) | (simp [*]; done), by repeat (first | (with_reducible first | exact HB.out | apply below_alloc | apply pw_below_drewN | apply below_drew1) | exact HB.out)⟩
  · rw [if_neg hb] at h
    cases h
def impl_ParentPath.f (k : Nat) (a0 : ByteArray) : Option (ByteArray × ByteArray × Bool) := (impl_SplitPath.f k a0).bind fun bt187 => (if bt187.2 = true then (if (bt187.1.length : Int) = 0 then (some ((⟨#[]⟩ : ByteArray), (⟨#[]⟩ : ByteArray), false)) else (if 0 ≤ (wrap64 ((bt187.1.length : Int) - 1)) then (if (wrap64 ((bt187.1.length : Int) - 1)) ≤ (bt187.1.length : Int) then ((impl_JoinPath.f k (bt187.1.take ((wrap64 ((bt187.1.length : Int) - 1)) : Int).toNat)).bind fun t195 => (if (wrap64 ((bt187.1.length : Int) - 1)) < (bt187.1.length : Int) then (some (t195, rdOf ByteArray.empty bt187.1 (wrap64 ((bt187.1.length : Int) - 1)), true)) else (none))) else (none)) else (none))) else (some ((⟨#[]⟩ : ByteArray), (⟨#[]⟩ : ByteArray), false)))
def impl_ParentPath.T5 : Bool × List (List Nat × List Nat) := (true, [([], []), ([], []), ([0, 1], [0, 1]), ([2], [2]), ([], []), ([], []), ([4, 5], [4, 5]), ([6], [6]), ([3, 3, 0, 1, 2, 3], [3]), ([7, 8, 0, 1, 2, 3, 4, 5, 6, 7, 8], [7]), ([9, 0, 1, 2, 3, 4, 5, 6, 7, 8, 9], [])])
def impl_ParentPath.B5 : List Nat := [0, 0, 3, 7, 0, 0, 48, 112, 15, 511, 1023]
theorem impl_ParentPath.tab5 : rtab .any (opsOf Tryd.f10 5) = impl_ParentPath.T5 := by kernel_rfl
theorem impl_ParentPath.bits5 : waitsOk impl_ParentPath.T5.2 impl_ParentPath.B5 = true := by kernel_rfl
set_option maxHeartbeats 8000000 in
set_option maxRecDepth 100000 in
theorem impl_ParentPath.calls (k : Nat) (a0 : ByteArray) (r1 : ByteArray) (r2 : ByteArray) (r3 : Bool) (w : World) (h : impl_ParentPath.f k a0 = some (r1, r2, r3)) (hg : MG w) :
    Calls Tryd.prog 10 #[.string a0] w fun e w' => e = .returned (.tuple #[.string r1, .string r2, .bool r3]) ∧ Below w.heap.size w w' := by
  have HG := Aside0.mk hg
  clear hg
  have HB := Aside0.mk (Below.refl w.heap.size w)
  have H : ((impl_SplitPath.f k a0).bind fun bt187 => (if bt187.2 = true then (if (bt187.1.length : Int) = 0 then (some ((⟨#[]⟩ : ByteArray), (⟨#[]⟩ : ByteArray), false)) else (if 0 ≤ (wrap64 ((bt187.1.length : Int) - 1)) then (if (wrap64 ((bt187.1.length : Int) - 1)) ≤ (bt187.1.length : Int) then ((impl_JoinPath.f k (bt187.1.take ((wrap64 ((bt187.1.length : Int) - 1)) : Int).toNat)).bind fun t195 => (if (wrap64 ((bt187.1.length : Int) - 1)) < (bt187.1.length : Int) then (some (t195, rdOf ByteArray.empty bt187.1 (wrap64 ((bt187.1.length : Int) - 1)), true)) else (none))) else (none)) else (none))) else (some ((⟨#[]⟩ : ByteArray), (⟨#[]⟩ : ByteArray), false)))) = some (r1, r2, r3) := h
  clear h
  replace H := Option.bind_eq_some_iff.mp H
  obtain ⟨⟨t187, t188⟩, A20, H⟩ := H
  replace H : (if t188 = true then (if (t187.length : Int) = 0 then (some ((⟨#[]⟩ : ByteArray), (⟨#[]⟩ : ByteArray), false)) else (if 0 ≤ (wrap64 ((t187.length : Int) - 1)) then (if (wrap64 ((t187.length : Int) - 1)) ≤ (t187.length : Int) then ((impl_JoinPath.f k (t187.take ((wrap64 ((t187.length : Int) - 1)) : Int).toNat)).bind fun t195 => (if (wrap64 ((t187.length : Int) - 1)) < (t187.length : Int) then (some (t195, rdOf ByteArray.empty t187 (wrap64 ((t187.length : Int) - 1)), true)) else (none))) else (none)) else (none))) else (some ((⟨#[]⟩ : ByteArray), (⟨#[]⟩ : ByteArray), false))) = some (r1, r2, r3) := H
  have A2 := Aside0.mk A20
  clear A20
  by_cases c3 : t188 = true
  ·subst c3
   have H1 : (if (t187.length : Int) = 0 then (some ((⟨#[]⟩ : ByteArray), (⟨#[]⟩ : ByteArray), false)) else (if 0 ≤ (wrap64 ((t187.length : Int) - 1)) then (if (wrap64 ((t187.length : Int) - 1)) ≤ (t187.length : Int) then ((impl_JoinPath.f k (t187.take ((wrap64 ((t187.length : Int) - 1)) : Int).toNat)).bind fun t195 => (if (wrap64 ((t187.length : Int) - 1)) < (t187.length : Int) then (some (t195, rdOf ByteArray.empty t187 (wrap64 ((t187.length : Int) - 1)), true)) else (none))) else (none)) else (none))) = some (r1, r2, r3) := by rw [if_pos rfl] at H; exact H
   clear H
   have H := H1
   clear H1
   by_cases c4 : (t187.length : Int) = 0
   ·rw [if_pos c4] at H
    have c4b0 : ((t187.length : Int) == 0) = true := beq_iff_eq.mpr c4
    have c4b1 : ((t187.length : Int) != 0) = false := bne_eq_false_iff_eq.mpr c4
    clear c4
    simp only [Option.some.injEq, Prod.mk.injEq] at H
    obtain ⟨rfl, rfl, rfl⟩ := H
    go_enter Tryd.func10, Tryd.ntmps10
    go_wp2_with (first | ((with_reducible refine gate_callee (f := 7) rfl ?_); refine goesL_ (some 10) rfl rfl Tryd.func7 (by kernel_rfl) rfl #[.string a0] rfl (by (try simp only [List.map_toArray, List.map_cons, List.map_nil]); first | done | rfl | (simp only [List.length_drop, List.length_take]; rfl)) ?_; (with_reducible refine (impl_SplitPath.calls k a0 t187 true _ A2.out ?mg).mono ?_); (case mg => exact HG.out.on (pl0 HB.out)); rintro e w5 ⟨v189, rfl, ho0, hb⟩; refine ⟨_, rfl, ?_⟩; have n0_ := Aside0.mk (Kd.R_lower ho0 (below_size (pl0 HB.out))); have n1_ := Aside0.mk (below_step (pl0 HB.out) hb); clear HB; have HO190 := n0_; have HB := n1_; clear n0_ n1_; (try clear hb); (try clear hb2); (try clear hk); (try clear hi); (try clear ho0); obtain ⟨Ao6, co6, eo6⟩ := Kd.R_slice HO190.out; subst eo6))
    go_ret3
    exact ⟨erq, pl0 HB.out⟩
   ·rw [if_neg c4] at H
    have c4b0 : ((t187.length : Int) == 0) = false := beq_eq_false_iff_ne.mpr c4
    have c4b1 : ((t187.length : Int) != 0) = true := bne_iff_ne.mpr c4
    have c4b2 : ¬ (t187 = []) := fun h_ => c4 (by rw [h_]; rfl)
    obtain ⟨ji7, hji7⟩ : ∃ j_ : Int, (wrap64 ((t187.length : Int) - 1)) = j_ := ⟨_, rfl⟩
    replace H : (if 0 ≤ (ji7) then (if (ji7) ≤ (t187.length : Int) then ((impl_JoinPath.f k (t187.take ((ji7) : Int).toNat)).bind fun t195 => (if (ji7) < (t187.length : Int) then (some (t195, rdOf ByteArray.empty t187 (ji7), true)) else (none))) else (none)) else (none)) = some (r1, r2, r3) := by first | (rw [hji7] at H; exact H) | (simp only [hji7] at H ⊢; exact H)
    (try rw [hji7] at A2)
    have hji7w : (IntKind.i64.wrap ((t187.length : Int) - 1)) = ji7 := (i64_w _).trans hji7
    by_cases c8 : 0 ≤ (ji7)
    ·rw [if_pos c8] at H
     have c8b0 := eq_true c8
     have c8b1 : decide (0 ≤ (ji7)) = true := decide_eq_true c8
     clear c8
     by_cases c9 : (ji7) ≤ (t187.length : Int)
     ·rw [if_pos c9] at H
      have c9b0 := eq_true c9
      have c9b1 : decide ((ji7) ≤ (t187.length : Int)) = true := decide_eq_true c9
      clear c9
      obtain ⟨y191, hy191⟩ : ∃ y_ : List ByteArray, y_ = (t187.take ((ji7) : Int).toNat) := ⟨_, rfl⟩
      replace H : ((impl_JoinPath.f k y191).bind fun t195 => (if (ji7) < (t187.length : Int) then (some (t195, rdOf ByteArray.empty t187 (ji7), true)) else (none))) = some (r1, r2, r3) := by first | (rw [hy191]; with_reducible exact H) | (have H2_ := (Option.bind_some _ _).symm.trans H; rw [hy191]; with_reducible exact H2_) | (have H2_ := (Option.bind_some _ _).symm.trans H; with_reducible exact H2_) | with_reducible exact H | (rw [hy191]; exact H) | exact H
      have Ny191 := Aside0.mk hy191
      clear hy191
      replace H := Option.bind_eq_some_iff.mp H
      obtain ⟨t195, A100, H⟩ := H
      replace H : (if (ji7) < (t187.length : Int) then (some (t195, rdOf ByteArray.empty t187 (ji7), true)) else (none)) = some (r1, r2, r3) := H
      have A10 := Aside0.mk A100
      clear A100
      by_cases c11 : (ji7) < (t187.length : Int)
      ·rw [if_pos c11] at H
       have c11b0 : decide ((ji7) < (t187.length : Int)) = true := decide_eq_true c11
       clear c11
       simp only [Option.some.injEq, Prod.mk.injEq] at H
       obtain ⟨rfl, rfl, rfl⟩ := H
       go_enter Tryd.func10, Tryd.ntmps10
       try go_wp2_with (first | ((with_reducible refine gate_callee (f := 7) rfl ?_); refine goesL_ (some 10) rfl rfl Tryd.func7 (by kernel_rfl) rfl #[.string a0] rfl (by (try simp only [List.map_toArray, List.map_cons, List.map_nil]); first | done | rfl | (simp only [List.length_drop, List.length_take]; rfl)) ?_; (with_reducible refine (impl_SplitPath.calls k a0 t187 true _ A2.out ?mg).mono ?_); (case mg => exact HG.out.on (pl0 HB.out)); rintro e w12 ⟨v189, rfl, ho0, hb⟩; refine ⟨_, rfl, ?_⟩; have n0_ := Aside0.mk (Kd.R_lower ho0 (below_size (pl0 HB.out))); have n1_ := Aside0.mk (below_step (pl0 HB.out) hb); clear HB; have HO190 := n0_; have HB := n1_; clear n0_ n1_; (try clear hb); (try clear hb2); (try clear hk); (try clear hi); (try clear ho0); obtain ⟨Ao13, co13, eo13⟩ := Kd.R_slice HO190.out; subst eo13))
       have n0_ := Aside0.mk (Kd.R_drew HO190.out)
       have n1_ := Aside0.mk (below_drew1 HB.out)
       clear HO190
       clear HB
       have HO190 := n0_
       have HB := n1_
       clear n0_ n1_
       have q15 : ((ji7) : Int) ≤ ((t187.length : Int) : Int) := oda
       obtain ⟨i015, hi015, _, hsz15, _⟩ := info_parts info9
       have hroom15 : t187.length ≤ co13 := (Kd.R_reads' HO190.out).2.1
       have hC15 : Kd.C Kd.string _ Ao13 t187.length t187 := (Kd.R_reads' HO190.out).2.2
       have hcut15 := cut_to (P := Tryd.prog) 25 9 .i64 Tryd.underlying25 hi015 Ao13 t187.length co13 (ji7) (of_decide_eq_true (by first | (with_reducible assumption) | assumption)) q15 hroom15
       have hr15 := Kd.C_take (m := ((ji7) : Int).toNat) hC15 (by omega)
       have hy15 : y191.length = ((ji7) : Int).toNat := (by rw [Ny191.out, List.length_take]; omega)
       rw [← Ny191.out] at hr15
       rw [← hy15] at hcut15
       have HR194 := Aside0.mk hr15
       have HC194 := Aside0.mk (show y191.length ≤ co13 from by omega)
       clear hr15 hC15 hroom15 hi015 hsz15
       have KY15 := Aside0.mk hy15
       clear hy15
       have KL15 := Aside0.mk (show ((ji7) : Int).toNat ≤ t187.length from by omega)
       replace q15 := eq_true q15
       have p196 : 0 ≤ ((ji7) : Int) := oda
       have q196 : (ji7) < (t187.length : Int) := oda
       obtain ⟨ad196, e196, hx196_0⟩ := Kd.at_string (Kd.R_reads' HO190.out).2.2 (ji7) p196 q196
       cases e196
       replace p196 := eq_true p196
       replace q196 := eq_true q196
       refine start_ (n := 11) (S := fun w' => w'.cell? (ad196.add ((ji7)).toNat) = some (.string (rdOf ByteArray.empty t187 (ji7)))) (ds := []) #[O,O,O,O,O,O,O,O,O,O,O] (by kernel_rfl) rfl rfl (hx196_0) (fun hHeld => ?_); refine with_tabW impl_ParentPath.tab5 impl_ParentPath.bits5 (fun HT_ HW_ => ?_)
       generalize w12.drew = w14 at HO190 HB HR194 hx196_0 hHeld ⊢
       refine pz 0 23 #[Y,O,O,O,O,O,O,O,O,O,O] HT_ ?_
       refine pz 1 24 #[Y,Y,O,O,O,O,O,O,O,O,O] HT_ ?_
       refine pz 2 25 #[Y,Y,Y,O,O,O,O,O,O,O,O] HT_ ?_
       refine pure_ (i := 4) (N := some 27) (v := ?_) (a' := ?_) #[Y,Y,Y,O,Y,O,O,O,O,O,O] rfl rfl (any_of HT_.out (by kernel_rfl)) (fun _ _ _ h => h) (Or.inl ⟨by rfl, ?_⟩) ?_ ?_
       rotate_left
       ·intro w'
        go_simp
        with_reducible rfl
       rotate_left
       ·simp only [Act.put, List.setIfInBounds_toArray, List.set_cons_zero, List.set_cons_succ, i64_w, i32_w]
        rfl
       refine pure_ (i := 5) (N := some 28) (v := ?_) (a' := ?_) #[Y,Y,Y,O,Y,Y,O,O,O,O,O] rfl rfl (any_of HT_.out (by kernel_rfl)) (fun _ _ _ h => h) (Or.inl ⟨by rfl, ?_⟩) ?_ ?_
       rotate_left
       ·intro w'
        go_simp
        with_reducible rfl
       rotate_left
       ·simp only [Act.put, List.setIfInBounds_toArray, List.set_cons_zero, List.set_cons_succ, i64_w, i32_w]
        rfl
       refine pure_ (i := 6) (N := some 29) (v := ?_) (a' := ?_) #[Y,Y,Y,O,Y,Y,Y,O,O,O,O] rfl rfl (any_of HT_.out (by kernel_rfl)) (fun _ _ _ h => h) (Or.inl ⟨by rfl, ?_⟩) ?_ ?_
       rotate_left
       ·intro w'
        go_simp
        with_reducible rfl
       rotate_left
       ·simp only [Act.put, List.setIfInBounds_toArray, List.set_cons_zero, List.set_cons_succ, i64_w, i32_w]
        rfl
       refine take_ (i := 7) (N := some 30) (v := ?_) (a' := ?_) #[Y,Y,Y,O,Y,Y,Y,Y,O,O,O] rfl rfl (take_ofW HT_.out HW_.out (by kernel_rfl)) (fun _ _ _ h => h) (Or.inl ⟨by rfl, ?_⟩) hHeld ?_ ?_
       rotate_left
       ·intro w' s0
        go_simp
        with_reducible rfl
       rotate_left
       ·simp only [Act.put, List.setIfInBounds_toArray, List.set_cons_zero, List.set_cons_succ, i64_w, i32_w]
        rfl
       refine one_ (i := 3) (N := some 26) #[Y,Y,Y,Y,Y,Y,Y,Y,O,O,O] rfl rfl (one_of HT_.out (by kernel_rfl)) (by decide) (fun K hK => ?_)
       refine goes_ Tryd.func11 (by kernel_rfl) rfl #[.slice (some ad196) y191.length co13] (by rfl) rfl rfl (by (try simp only [List.map_toArray, List.map_cons, List.map_nil]); first | done | rfl | (simp only [List.length_drop, List.length_take]; rfl)) ?_
       with_reducible refine (impl_JoinPath.calls k _ _ y191 t195 _ ?side1 ?side2 A10.out).mono ?_
       (case side1 => repeat (first | exact (by repeat (first | (with_reducible exact HR194.out) | (with_reducible refine Kd.C_alloc ?_ _) | (with_reducible refine Kd.C_drewN ?_ _) | (with_reducible refine Kd.C_drew ?_) | exact HR194.out)) | (with_reducible refine Kd.C_alloc ?_ _) | (with_reducible refine Kd.C_drewN ?_ _) | (with_reducible refine Kd.C_drew ?_)))
       (case side2 => exact HC194.out)
       rintro e w16 ⟨rfl, hb⟩
       have HS0_ := (hb.cell (World.block_lt_of_cell? _ _ (hHeld))).trans (hHeld)
       refine ⟨_, rfl, ?_⟩
       have n0_ := Aside0.mk (Kd.R_below (by (with_reducible repeat (first | apply Kd.R_alloc | apply Kd.R_drewN | apply Kd.R_drew)); exact HO190.out) hb)
       have n1_ := Aside0.mk (Kd.C_below (by repeat (first | (with_reducible exact HR194.out) | (with_reducible refine Kd.C_alloc ?_ _) | (with_reducible refine Kd.C_drewN ?_ _) | (with_reducible refine Kd.C_drew ?_) | exact HR194.out)) hb)
       have n2_ := Aside0.mk (below_step (pl0 HB.out) hb)
       clear HO190
       clear HR194
       clear HB
       have HO190 := n0_
       have HR194 := n1_
       have HB := n2_
       clear n0_ n1_ n2_
       (try clear hb)
       (try clear hb2)
       (try clear hk)
       (try clear hi)
       refine hK.out _ _ (HS0_) (fun hHeld => ?_)
       clear hK K
       refine norm_ (a' := ?_) ?_ ?_
       rotate_left
       ·show Act.put _ (some 26) _ = _
        simp only [Act.put, List.setIfInBounds_toArray, List.set_cons_zero, List.set_cons_succ, i64_w, i32_w]
        rfl
       refine pz 8 2 #[Y,Y,Y,Y,Y,Y,Y,Y,Y,O,O] HT_ ?_
       refine pz 9 3 #[Y,Y,Y,Y,Y,Y,Y,Y,Y,Y,O] HT_ ?_
       refine pz 10 4 #[Y,Y,Y,Y,Y,Y,Y,Y,Y,Y,Y] HT_ ?_
       refine done_ (done_of HT_.out (by kernel_rfl)) ?_
       try go_wp2
       go_ret3
       exact ⟨by first | rfl | (simp [errW_none, errW_some] <;> rfl) | (simp only [← hji7]; first | rfl | (simp [errW_none, errW_some] <;> rfl)) | (simp [*, errW_none, errW_some] <;> rfl), pl0 HB.out⟩
      ·rw [if_neg c11] at H
       exact absurd H (by simp)
     ·rw [if_neg c9] at H
      exact absurd H (by simp)
    ·rw [if_neg c8] at H
     exact absurd H (by simp)
  ·replace c3 := Bool.eq_false_iff.mpr c3
   subst c3
   have H1 : (some ((⟨#[]⟩ : ByteArray), (⟨#[]⟩ : ByteArray), false)) = some (r1, r2, r3) := by rw [if_neg (show ¬ (false = true) by decide)] at H; exact H
   clear H
   have H := H1
   clear H1
   simp only [Option.some.injEq, Prod.mk.injEq] at H
   obtain ⟨rfl, rfl, rfl⟩ := H
   go_enter Tryd.func10, Tryd.ntmps10
   go_wp2_with (first | ((with_reducible refine gate_callee (f := 7) rfl ?_); refine goesL_ (some 10) rfl rfl Tryd.func7 (by kernel_rfl) rfl #[.string a0] rfl (by (try simp only [List.map_toArray, List.map_cons, List.map_nil]); first | done | rfl | (simp only [List.length_drop, List.length_take]; rfl)) ?_; (with_reducible refine (impl_SplitPath.calls k a0 t187 false _ A2.out ?mg).mono ?_); (case mg => exact HG.out.on (pl0 HB.out)); rintro e w17 ⟨v189, rfl, ho0, hb⟩; refine ⟨_, rfl, ?_⟩; have n0_ := Aside0.mk (Kd.R_lower ho0 (below_size (pl0 HB.out))); have n1_ := Aside0.mk (below_step (pl0 HB.out) hb); clear HB; have HO190 := n0_; have HB := n1_; clear n0_ n1_; (try clear hb); (try clear hb2); (try clear hk); (try clear hi); (try clear ho0)))
   go_ret3
   exact ⟨erq, pl0 HB.out⟩
end Go.Proofs.YtmgdekfajjdcdaaDoor.QPA
