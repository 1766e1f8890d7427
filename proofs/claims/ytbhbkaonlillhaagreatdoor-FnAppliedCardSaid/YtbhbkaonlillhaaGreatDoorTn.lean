/- Plain facts on trees, marks and lists, part 2. -/
import Derived.Test.YtbhbkaonlillhaaGreatDoorTm
/- What is used below a node, as a sum; what a put record adds to it. -/
namespace Go.Tm
open Go
set_option linter.unusedVariables false
set_option linter.unusedSimpArgs false
def usum : List Nod → Int
  | [] => 0
  | x :: r => x.len + usum r
theorem usum_app : ∀ (a b : List Nod), usum (a ++ b) = usum a + usum b
  | [], b => by simp [usum]
  | x :: a, b => by simp [usum, usum_app a b]; omega
theorem usum_bound : ∀ {k : List Nod}, (∀ x ∈ k, ndB x = true) → 0 ≤ usum k ∧ usum k ≤ 1000 * k.length
  | [], _ => by simp [usum]
  | x :: k, h => by
    have := ndB_len (h x (by simp))
    have ih := usum_bound (k := k) fun y hy => h y (by simp [hy])
    simp [usum]; omega
theorem usedL_sum {l : List Nod} {nx : Int} (H : OkT l nx) : ∀ (k : List Nod) (n : Int), (∀ x ∈ k, x ∈ l) → 0 ≤ n → n + 1000 * k.length ≤ 1000000 → usedL l (k.map (·.id)) n = n + usum k
  | [], n, _, _, _ => by simp [usedL, usum]
  | x :: k, n, hk, h0, hb => by
    have hx := hk x (by simp)
    have hl := ndB_len (H.nds x hx)
    have hn := nd_at' H.asc hx
    have e : lenAt l x.id = x.len := by simp [lenAt, hn]
    simp only [List.length_cons] at hb
    have ih := usedL_sum H k (n + x.len) (fun y hy => hk y (by simp [hy])) (by omega) (by omega)
    simp only [List.map_cons, usedL, List.foldl_cons, e] at ih ⊢
    rw [w64_sm (by omega)]
    rw [ih]; simp [usum]; omega
def bel (l : List Nod) (id : Int) : List Nod := l.filter fun x => below l x.id id
theorem used_sum {t : Tree} (h : okT t.nodes t.next = true) {id : Int} (hi : (nd t.nodes id).isSome = true) : usedBelow t id = usum (bel t.nodes id) := by
  have H := okT_iff.1 h
  unfold usedBelow belowOf
  rw [if_pos ⟨h, hi⟩]
  unfold belows
  have hl := H.len2
  have hf : (t.nodes.filter fun x => below t.nodes x.id id).length ≤ t.nodes.length := List.length_filter_le _ _
  rw [usedL_sum H _ 0 (fun x hx => (List.mem_filter.1 hx).1) (by omega) (by omega)]
  simp [bel]
theorem used_none {t : Tree} {id : Int} (hi : (nd t.nodes id).isSome = false) : usedBelow t id = 0 := by
  unfold usedBelow belowOf
  rw [if_neg (by simp [hi])]
  rfl
theorem bel_map {l : List Nod} {g : Nod → Nod} (hg : Keeps l g) (id : Int) : bel (l.map g) id = (bel l id).map g := by
  unfold bel
  rw [List.filter_map]
  congr 1
  apply List.filter_congr
  intro x hx
  simp only [Function.comp]
  rw [below_map hg, (hg x hx).1]
theorem usum_at {id d : Int} {f : Nod → Nod} : ∀ (k : List Nod), k.Pairwise (fun x y => x.id < y.id) → (∀ x ∈ k, x.id = id → (f x).len = x.len + d) → usum (k.map (atId id f)) = usum k + if ∃ x ∈ k, x.id = id then d else 0
  | [], _, _ => by simp [usum]
  | x :: k, hp, hf => by
    obtain ⟨h1, h2⟩ := List.pairwise_cons.1 hp
    have ih := usum_at (d := d) (f := f) k h2 fun y hy => hf y (by simp [hy])
    simp only [List.map_cons, usum, ih]
    by_cases hx : x.id = id
    · have hno : ¬ ∃ y ∈ k, y.id = id := fun ⟨y, hy, e⟩ => by have := h1 y hy; omega
      rw [if_neg hno, if_pos ⟨x, by simp, hx⟩]
      simp only [atId, if_pos hx, hf x (by simp) hx]
      omega
    · by_cases hk : ∃ y ∈ k, y.id = id
      · obtain ⟨y, hy, e⟩ := hk
        rw [if_pos ⟨y, hy, e⟩, if_pos ⟨y, by simp [hy], e⟩]
        simp only [atId, if_neg hx]; omega
      · rw [if_neg hk, if_neg (fun ⟨y, hy, e⟩ => by
          rcases List.mem_cons.1 hy with rfl | hy
          · exact hx e
          · exact hk ⟨y, hy, e⟩)]
        simp only [atId, if_neg hx]; omega
theorem used_put {t : Tree} (h : okT t.nodes t.next = true) {j : Nat} {q : Nod} (hq : t.nodes[j]? = some q) {f : Nod → Nod} (hf : ∀ y, (f y).id = y.id ∧ (f y).parent = y.parent ∧ (f y).name = y.name ∧ (f y).dir = y.dir) {d : Int} (hl : (f q).len = q.len + d)
    (h' : okT (modN t j f).nodes t.next = true) {id : Int} (hi : (nd t.nodes id).isSome = true) : usedBelow (modN t j f) id = usedBelow t id + if below t.nodes q.id id = true then d else 0 := by
  have H := okT_iff.1 h
  have hg := keeps_atId (l := t.nodes) (id := q.id) hf
  have e : (modN t j f).nodes = t.nodes.map (atId q.id f) := modify_atId H hq f
  have hqm := List.mem_of_getElem? hq
  have hi' : (nd (modN t j f).nodes id).isSome = true := by
    rw [e, nd_map hg]
    cases hn : nd t.nodes id with
    | none => rw [hn] at hi; cases hi
    | some x => rfl
  have hs := used_sum (t := modN t j f) h' hi'
  rw [hs, used_sum h hi, e, bel_map hg]
  have hp : t.nodes.Pairwise fun x y => x.id < y.id := asc_pair.1 H.asc
  have hpb : (bel t.nodes id).Pairwise fun x y => x.id < y.id := hp.filter _
  rw [usum_at (d := d) _ hpb fun x hx hxi => by
    have hx := (List.mem_filter.1 hx).1
    have e1 := nd_at' H.asc hx
    have e2 := nd_at' H.asc hqm
    rw [hxi, e2] at e1
    cases e1
    exact hl]
  congr 1
  have : (∃ x ∈ bel t.nodes id, x.id = q.id) ↔ below t.nodes q.id id = true := by
    constructor
    · rintro ⟨x, hx, hxi⟩
      rw [← hxi]; exact (List.mem_filter.1 hx).2
    · intro hb
      exact ⟨q, List.mem_filter.2 ⟨hqm, hb⟩, rfl⟩
  by_cases c : below t.nodes q.id id = true
  · rw [if_pos (this.2 c), if_pos c]
  · rw [if_neg (fun x => c (this.1 x)), if_neg c]
theorem roomF_all {t : Tree} {d : Int} {top : Int} {x : Nod} (hx : nd t.nodes top = some x) (hd : x.dir = true) (hq : 0 < x.quota) : ∀ (n : Nat) (b : Bool) (id : Int), roomF t d n b id = true → belowF t.nodes n id top = true → ¬ w64 (x.quota - usedBelow t top) < d
  | 0, _, _, h, _ => by simp [roomF] at h
  | n + 1, b, id, h, hb => by
    unfold roomF at h
    unfold belowF at hb
    by_cases e : id = top
    · subst e
      rw [hx] at h
      dsimp only at h
      split at h
      · cases h
      · rename_i hc
        exact fun c => hc ⟨hd, hq, c⟩
    · rw [if_neg e] at hb
      cases hn : nd t.nodes id with
      | none => rw [hn] at hb; cases hb
      | some y =>
        rw [hn] at h hb
        dsimp only at h hb
        split at h
        · cases h
        · exact roomF_all hx hd hq n true y.parent h hb
theorem used_bound {t : Tree} {id : Int} : 0 ≤ usedBelow t id ∧ usedBelow t id ≤ 14000 := by
  by_cases h : okT t.nodes t.next = true ∧ (nd t.nodes id).isSome = true
  · have H := okT_iff.1 h.1
    rw [used_sum h.1 h.2]
    have hb := usum_bound (k := bel t.nodes id) fun x hx => H.nds x (List.mem_filter.1 hx).1
    have hl := H.len2
    have hf : (bel t.nodes id).length ≤ t.nodes.length := List.length_filter_le _ _
    omega
  · unfold usedBelow belowOf
    rw [if_neg h]
    simp [usedL]
/-- A put record keeps every quota that it is below. -/
theorem quota_put {t : Tree} {e : Edt} {g : Int} (h : (applyT t e g).2 = 0) (h7 : e.kind = 7) {x : Nod} (hx : x ∈ (applyT t e g).1.nodes) (hq : 0 < x.quota) (hin : below (applyT t e g).1.nodes (findP (applyT t e g).1 e.path) x.id = true) : usedBelow (applyT t e g).1 x.id ≤ x.quota := by
  have ho := apply_ok (e := e) (g := g) (apply_pre h).1
  have hok := (apply_pre h).1
  have H := okT_iff.1 hok
  have hD := apply_did h
  generalize (applyT t e g).1 = t' at hx hin ho hD ⊢
  cases hD with
  | boot hk => omega
  | add d w hk => omega
  | move j q hk => omega
  | drop hk => omega
  | schema j q hk => omega
  | quota j q hk => omega
  | write j q w hk => omega
  | put j q hk h0 hqj hid hd hw hr hl hp =>
    have hf : ∀ y : Nod, (({ y with pieces := q.pieces ++ newPcs g (spans q.schema e.num), len := q.len + e.num } : Nod)).id = y.id ∧ ({ y with pieces := q.pieces ++ newPcs g (spans q.schema e.num), len := q.len + e.num } : Nod).parent = y.parent ∧ ({ y with pieces := q.pieces ++ newPcs g (spans q.schema e.num), len := q.len + e.num } : Nod).name = y.name ∧ ({ y with pieces := q.pieces ++ newPcs g (spans q.schema e.num), len := q.len + e.num } : Nod).dir = y.dir := fun y => ⟨rfl, rfl, rfl, rfl⟩
    have hg := keeps_atId (l := t.nodes) (id := q.id) hf
    have em := modify_atId H hqj (fun y : Nod => ({ y with pieces := q.pieces ++ newPcs g (spans q.schema e.num), len := q.len + e.num } : Nod))
    have ep : findP (modN t j fun y => { y with pieces := q.pieces ++ newPcs g (spans q.schema e.num), len := q.len + e.num }) e.path = q.id := by
      obtain ⟨ns, hs, hu⟩ := (findP_some H (p := e.path) (id := q.id)).1 ⟨hid.symm, by rw [hid]; exact h0⟩
      have hu2 := (up_map hg ns.reverse q.id).2 hu
      rw [← em] at hu2
      exact ((findP_some (okT_iff.1 ho) (p := e.path) (id := q.id)).2 ⟨ns, hs, hu2⟩).1
    rw [ep] at hin
    simp only [modN] at hx hin
    rw [em] at hx hin
    rw [below_map hg] at hin
    obtain ⟨y, hy, rfl⟩ := List.mem_map.1 hx
    have hyi := (hg y hy).1
    rw [hyi] at hin ⊢
    have hqu : (atId q.id (fun y : Nod => ({ y with pieces := q.pieces ++ newPcs g (spans q.schema e.num), len := q.len + e.num } : Nod)) y).quota = y.quota := by
      unfold atId; split <;> rfl
    rw [hqu] at hq ⊢
    have hyn := nd_at' H.asc hy
    have hdir : y.dir = true := by
      cases hc : y.dir with
      | true => rfl
      | false => have := (ndB_file (H.nds y hy) hc).2.1; omega
    unfold roomFor at hr
    rw [if_pos hok] at hr
    have hlt := roomF_all hyn hdir hq 15 false q.id hr hin
    have hub := used_bound (t := t) (id := y.id)
    have hyq := (ndB_dir (H.nds y hy) hdir).2.1
    rw [w64_sm (by omega)] at hlt
    have hu := used_put hok hqj hf (d := e.num) rfl ho (id := y.id) (by rw [hyn]; rfl)
    rw [hu, if_pos hin]
    omega
end Go.Tm

/- Sums that are counted in two ways: kids of all nodes; what is used below a node and its kids. -/
namespace Go.Tm
open Go Go.Abs
set_option linter.unusedVariables false
set_option linter.unusedSimpArgs false
def ws (w : Nod → Int) : List Nod → Int
  | [] => 0
  | x :: r => w x + ws w r
theorem ws_app (w : Nod → Int) : ∀ (a b : List Nod), ws w (a ++ b) = ws w a + ws w b
  | [], b => by simp [ws]
  | x :: a, b => by simp [ws, ws_app w a b]; omega
theorem ws_congr {w v : Nod → Int} : ∀ {l : List Nod}, (∀ x ∈ l, w x = v x) → ws w l = ws v l
  | [], _ => rfl
  | x :: l, h => by
    have ih := ws_congr (w := w) (v := v) (l := l) fun y hy => h y (by simp [hy])
    simp only [ws, ih, h x (by simp)]
theorem ws_filter (w : Nod → Int) (p : Nod → Bool) : ∀ (l : List Nod), ws w (l.filter p) = ws (fun y => if p y = true then w y else 0) l
  | [] => rfl
  | x :: l => by
    have ih := ws_filter w p l
    by_cases h : p x = true
    · rw [List.filter_cons_of_pos h]; simp only [ws, ih, if_pos h]
    · rw [List.filter_cons_of_neg h]; simp only [ws, ih, if_neg h]; omega
theorem ws_add (w v : Nod → Int) : ∀ (l : List Nod), ws (fun y => w y + v y) l = ws w l + ws v l
  | [] => rfl
  | x :: l => by
    have ih := ws_add w v l
    simp only [ws, ih]; omega
theorem ws_zero : ∀ (l : List Nod), ws (fun _ => 0) l = 0
  | [] => rfl
  | x :: l => by simp [ws, ws_zero l]
theorem ws_len : ∀ (l : List Nod), ws (fun _ => 1) l = l.length
  | [] => rfl
  | x :: l => by
    have ih := ws_len l
    simp only [ws, ih, List.length_cons]; omega
theorem ws_count (p : Nod → Bool) : ∀ (l : List Nod), ws (fun y => if p y = true then 1 else 0) l = l.countP p
  | [] => rfl
  | x :: l => by
    have ih := ws_count p l
    rw [ws, ih, List.countP_cons]
    by_cases h : p x = true <;> simp [h]; omega
theorem ws_usum : ∀ (l : List Nod), usum l = ws (·.len) l
  | [] => rfl
  | x :: l => by
    have ih := ws_usum l
    simp only [usum, ws, ih]
/-- Counted by rows, or by columns. -/
theorem dbl (w : Nod → Int) (R : Nod → Nod → Bool) : ∀ (k l : List Nod), ws (fun x => ws w (l.filter (R x))) k = ws (fun y => w y * ((k.countP fun x => R x y : Nat) : Int)) l
  | [], l => by
    have h : ws (fun y => w y * (([] : List Nod).countP fun x => R x y : Nat)) l = ws (fun _ => 0) l := ws_congr fun y _ => by simp
    rw [h, ws_zero]; rfl
  | x :: k, l => by
    rw [ws, dbl w R k l, ws_filter, ← ws_add]
    refine ws_congr fun y _ => ?_
    rw [List.countP_cons]
    by_cases h : R x y = true
    · simp only [h, if_true, Int.natCast_add, Int.mul_add]
      simp [Int.add_comm]
    · simp [h]
theorem count_one : ∀ {l : List Nod}, (l.Pairwise fun x y => x.id < y.id) → ∀ {p : Nod → Bool} {x : Nod}, x ∈ l → p x = true → (∀ y ∈ l, p y = true → y.id = x.id) → l.countP p = 1
  | [], _, p, x, hx, _, _ => by simp at hx
  | z :: r, hp, p, x, hx, h, hu => by
    obtain ⟨h1, h2⟩ := List.pairwise_cons.1 hp
    rw [List.countP_cons]
    by_cases hz : p z = true
    · have e := hu z (by simp) hz
      have : r.countP p = 0 := by
        rw [List.countP_eq_zero]
        intro y hy hpy
        have := hu y (by simp [hy]) hpy
        have := h1 y hy
        omega
      simp [hz, this]
    · have hxr : x ∈ r := by
        rcases List.mem_cons.1 hx with rfl | hx
        · exact absurd h hz
        · exact hx
      have := count_one h2 hxr h fun y hy => hu y (by simp [hy])
      simp [hz, this]
section
variable {l : List Nod} {nx : Int}
theorem OkT.pair (H : OkT l nx) : l.Pairwise fun x y => x.id < y.id := asc_pair.1 H.asc
theorem OkT.same (H : OkT l nx) {x y : Nod} (hx : x ∈ l) (hy : y ∈ l) (h : x.id = y.id) : x = y := by
  have h1 := H.nd_self hx
  rw [h, H.nd_self hy] at h1
  cases h1; rfl
theorem OkT.par (H : OkT l nx) {x : Nod} (hx : x ∈ l) (h1 : x.id ≠ 1) : ∃ y ∈ l, y.id = x.parent ∧ y.dir = true := by
  have h := ((okP_iff.1 H).up x hx h1).1
  unfold dirAt at h
  cases hn : nd l x.parent with
  | none => rw [hn] at h; cases h
  | some y =>
    rw [hn] at h
    exact ⟨y, (nd_mem hn).1, (nd_mem hn).2, h⟩
/-- All kids together are all nodes but the root. -/
theorem kids_sum (H : OkT l nx) : ws (fun x => ((kidNames l x.id).length : Int)) l = (l.length : Int) - 1 := by
  have e1 : ws (fun x => ((kidNames l x.id).length : Int)) l = ws (fun x => ws (fun _ => 1) (l.filter fun y => decide (y.parent = x.id))) l := ws_congr fun x _ => by
    rw [ws_len]; simp [kidNames]
  rw [e1, dbl (fun _ => 1) (fun x y => decide (y.parent = x.id)) l l]
  obtain ⟨r, h0, _, _, hr1, _⟩ := H.rootNd
  have hr := List.mem_of_getElem? h0
  have e2 : ws (fun y => 1 * ((l.countP fun x => decide (y.parent = x.id) : Nat) : Int)) l + ws (fun y => if decide (y.id = 1) = true then 1 else 0) l = ws (fun _ => 1) l := by
    rw [← ws_add]
    refine ws_congr fun y hy => ?_
    by_cases c : y.id = 1
    · have hp := H.parent_one hy c
      have : l.countP (fun x => decide (y.parent = x.id)) = 0 := by
        rw [List.countP_eq_zero]
        intro x hx
        have := H.id_pos hx
        simp; omega
      simp [c, this]
    · obtain ⟨z, hz, hzi, _⟩ := H.par hy c
      have : l.countP (fun x => decide (y.parent = x.id)) = 1 := count_one H.pair hz (by simp [hzi]) fun x hx h => by
        have h : y.parent = x.id := by simpa using h
        omega
      simp [c, this]
  rw [ws_count, ws_len, count_one H.pair hr (by simp [hr1]) (fun y _ h => by simp at h; omega)] at e2
  omega
theorem kid_names (H : OkT l nx) {k x : Nod} (hk : k ∈ l) (hx : x ∈ l) (h : k.parent = x.id) {ms : List ByteArray} (hm : Up l ms x.id) : Up l (k.name :: ms) k.id := by
  refine ⟨fun c => ?_, k, H.nd_self hk, rfl, by rw [h]; exact hm⟩
  have := H.parent_one hk c
  have := H.id_pos hx
  omega
theorem below_self {x : Int} (n : Nat) : belowF l (n + 1) x x = true := by rw [belowF]; simp
theorem uses_sum (H : OkT l nx) {x : Nod} (hx : x ∈ l) : x.len + ws (fun k => usum (bel l k.id)) (l.filter fun k => decide (k.parent = x.id)) = usum (bel l x.id) := by
  have e1 : ws (fun k => usum (bel l k.id)) (l.filter fun k => decide (k.parent = x.id)) = ws (fun k => ws (·.len) (l.filter fun y => below l y.id k.id)) (l.filter fun k => decide (k.parent = x.id)) := ws_congr fun k _ => by rw [ws_usum]; rfl
  rw [e1, dbl (·.len) (fun k y => below l y.id k.id), ws_usum, bel, ws_filter]
  have e2 : x.len = ws (fun y => if decide (y.id = x.id) = true then y.len else 0) l := by
    have : ws (fun y => if decide (y.id = x.id) = true then y.len else 0) l = ws (fun y => x.len * (if decide (y.id = x.id) = true then 1 else 0)) l := ws_congr fun y hy => by
      by_cases c : y.id = x.id
      · rw [H.same hy hx c]; simp
      · simp [c]
    rw [this]
    have h3 : ∀ (k : List Nod), ws (fun y => x.len * (if decide (y.id = x.id) = true then 1 else 0)) k = x.len * ws (fun y => if decide (y.id = x.id) = true then 1 else 0) k := by
      intro k
      induction k with
      | nil => simp [ws]
      | cons z k ih => rw [ws, ws, ih, Int.mul_add]
    rw [h3, ws_count, count_one H.pair hx (by simp) (fun y _ h => by simpa using h)]
    simp
  conv => lhs; lhs; rw [e2]
  rw [← ws_add]
  obtain ⟨ms, hms, hml, _⟩ := H.names hx
  have hx0 : x.id ≠ 0 := H.id_ne0 x hx
  refine ws_congr fun y hy => ?_
  obtain ⟨ns, hns, hnl, _⟩ := H.names hy
  have hk : ∀ k ∈ l.filter (fun k => decide (k.parent = x.id)), (k ∈ l ∧ k.parent = x.id ∧ Up l (k.name :: ms) k.id ∧ (below l y.id k.id = true ↔ ∃ a, ns = a ++ k.name :: ms)) := fun k hk => by
    obtain ⟨h1, h2⟩ := List.mem_filter.1 hk
    have h2 : k.parent = x.id := by simpa using h2
    have hu := kid_names H h1 hx h2 hms
    refine ⟨h1, h2, hu, ?_⟩
    rw [below_up H (H.id_ne0 k h1) hns hnl]
    constructor
    · rintro ⟨a, b, hab, hb⟩
      exact ⟨a, by rw [hab, up_uniq hb hu]⟩
    · rintro ⟨a, ha⟩
      exact ⟨a, _, ha, hu⟩
  have hb : below l y.id x.id = true ↔ ∃ a, ns = a ++ ms := by
    rw [below_up H hx0 hns hnl]
    constructor
    · rintro ⟨a, b, hab, hb⟩
      exact ⟨a, by rw [hab, up_uniq hb hms]⟩
    · rintro ⟨a, ha⟩
      exact ⟨a, _, ha, hms⟩
  have zero : (¬ ∃ (nm : ByteArray) (a : List ByteArray), ns = a ++ nm :: ms) → (l.filter fun k => decide (k.parent = x.id)).countP (fun k => below l y.id k.id) = 0 := fun hno => by
    rw [List.countP_eq_zero]
    intro k hkm hc
    obtain ⟨a, ha⟩ := (hk k hkm).2.2.2.1 hc
    exact hno ⟨_, a, ha⟩
  by_cases c : y.id = x.id
  · have hnm : ns = ms := up_uniq hns (by rw [c]; exact hms)
    have h0 := zero (by
      rintro ⟨nm, a, ha⟩
      rw [hnm] at ha
      have := congrArg List.length ha
      simp at this; omega)
    have hbt : below l y.id x.id = true := hb.2 ⟨[], by simp [hnm]⟩
    rw [h0, hbt]; simp [c]
  · by_cases hbt : below l y.id x.id = true
    · obtain ⟨a, ha⟩ := hb.1 hbt
      have hne : a ≠ [] := by
        rintro rfl
        simp at ha
        rw [ha] at hns
        exact c (up_inj H hns hms)
      obtain ⟨a', nm, rfl⟩ : ∃ a' nm, a = a' ++ [nm] := ⟨a.dropLast, a.getLast hne, (List.dropLast_concat_getLast hne).symm⟩
      rw [List.append_assoc, List.singleton_append] at ha
      obtain ⟨cid, hc⟩ := up_app (a := a') (b := nm :: ms) (by rw [← ha]; exact hns)
      obtain ⟨hc1, k, hkn, hknm, hku⟩ := id hc
      obtain ⟨hkm, hkid⟩ := nd_mem hkn
      have hkp : k.parent = x.id := up_inj H hku hms
      have hkf : k ∈ l.filter (fun k => decide (k.parent = x.id)) := List.mem_filter.2 ⟨hkm, by simp [hkp]⟩
      have h1 : (l.filter fun k => decide (k.parent = x.id)).countP (fun k => below l y.id k.id) = 1 := by
        refine count_one (H.pair.filter _) hkf ((hk k hkf).2.2.2.2 ⟨a', by rw [hknm]; exact ha⟩) fun k2 hk2 hb2 => ?_
        obtain ⟨a2, ha2⟩ := (hk k2 hk2).2.2.2.1 hb2
        rw [ha] at ha2
        have hl : (a' ++ [nm]) ++ ms = (a2 ++ [k2.name]) ++ ms := by simpa using ha2
        have h3 := List.append_cancel_right hl
        have h4 := (List.append_inj' h3 rfl).2
        have h5 : nm = k2.name := by simpa using h4
        have hu2 := (hk k2 hk2).2.2.1
        rw [← h5] at hu2
        rw [up_inj H hu2 hc, hkid]
      rw [h1, hbt]; simp [c]
    · have h0 := zero (by
        rintro ⟨nm, a, ha⟩
        exact hbt (hb.2 ⟨a ++ [nm], by simp [ha]⟩))
      rw [h0]; simp [c, hbt]
/-- Schemas. -/
theorem schF_more (H : OkT l nx) : ∀ (ns : List ByteArray) (id : Int) (n m : Nat), Up l ns id → ns.length < n → ns.length < m → schF l n id = schF l m id
  | [], id, n, m, h, hn, hm => by
    obtain ⟨n, rfl⟩ : ∃ k, n = k + 1 := ⟨n - 1, by simp at hn; omega⟩
    obtain ⟨m, rfl⟩ : ∃ k, m = k + 1 := ⟨m - 1, by simp at hm; omega⟩
    have h1 : id = 1 := h
    subst h1
    obtain ⟨r, h0, h1, _, h2, _, _, _, h5⟩ := H.rootNd
    rw [schF, schF, h1]
    simp [h5]
  | nm :: ns, id, n, m, ⟨h1, x, hx, _, h⟩, hn, hm => by
    obtain ⟨n, rfl⟩ : ∃ k, n = k + 1 := ⟨n - 1, by simp at hn; omega⟩
    obtain ⟨m, rfl⟩ : ∃ k, m = k + 1 := ⟨m - 1, by simp at hm; omega⟩
    rw [schF, schF, hx]
    simp only []
    split
    · exact schF_more H ns x.parent n m h (by simp at hn; omega) (by simp at hm; omega)
    · rfl
end
theorem schema_own {t : Tree} (h : okT t.nodes t.next = true) {x : Nod} (hx : x ∈ t.nodes) (hs : x.schema ≠ 0) : schemaAt t x.id = x.schema := by
  unfold schemaAt
  rw [if_pos h, schF, (okT_iff.1 h).nd_self hx]
  simp [hs]
theorem schema_up {t : Tree} (h : okT t.nodes t.next = true) {x : Nod} (hx : x ∈ t.nodes) (hs : x.schema = 0) : schemaAt t x.id = schemaAt t x.parent := by
  have H := okT_iff.1 h
  unfold schemaAt
  rw [if_pos h, schF, H.nd_self hx, if_pos h]
  simp only [hs, if_true]
  have h1 : x.id ≠ 1 := fun c => by
    obtain ⟨r, h0, _, _, h2, _, _, _, h5⟩ := H.rootNd
    have := H.same hx (List.mem_of_getElem? h0) (by omega)
    rw [this] at hs
    exact h5 hs
  obtain ⟨ns, hns, hl, _⟩ := H.names hx
  cases ns with
  | nil => exact absurd hns h1
  | cons nm ns =>
    obtain ⟨_, y, hy, _, hu⟩ := hns
    rw [H.nd_self hx] at hy
    cases hy
    simp at hl
    exact schF_more H ns x.parent 14 15 hu (by omega) (by omega)
theorem schema_root {t : Tree} (h : okT t.nodes t.next = true) : 1 ≤ schemaAt t 1 := by
  have H := okT_iff.1 h
  obtain ⟨r, h0, h1, _, h2, _, _, h4, h5⟩ := H.rootNd
  have := schema_own h (List.mem_of_getElem? h0) h5
  rw [h2] at this
  rw [this]
  have := inB_iff.1 (ndB_dir (H.nds r (List.mem_of_getElem? h0)) h4).1
  omega
theorem room_none {t : Tree} {id n : Int} (h : nd t.nodes id = none) : roomFor t id n = false := by
  unfold roomFor
  split
  · rw [roomF, h]
  · rfl
theorem room_over {t : Tree} {x : Nod} (hx : x ∈ t.nodes) (hq : 0 < x.quota) : roomFor t x.id (x.quota + 1) = false := by
  unfold roomFor
  split
  · rename_i h
    have H := okT_iff.1 h
    have hd : x.dir = true := by
      cases hc : x.dir with
      | true => rfl
      | false => have := (ndB_file (H.nds x hx) hc).2.1; omega
    have hqb := (ndB_dir (H.nds x hx) hd).2.1
    have hub := used_bound (t := t) (id := x.id)
    rw [roomF, H.nd_self hx]
    simp only []
    rw [w64_sm (by omega), if_pos ⟨hd, hq, by omega⟩]
  · rfl
theorem uses_law {t : Tree} (h : okT t.nodes t.next = true) {x : Nod} (hx : x ∈ t.nodes) : x.len + ws (fun k => usedBelow t k.id) (t.nodes.filter fun k => decide (k.parent = x.id)) = usedBelow t x.id := by
  have H := okT_iff.1 h
  rw [used_sum h (by rw [H.nd_self hx]; rfl), ← uses_sum H hx]
  congr 1
  refine ws_congr fun k hk => ?_
  have := (List.mem_filter.1 hk).1
  rw [used_sum h (by rw [H.nd_self this]; rfl)]
end Go.Tm

/- Paths of nodes. -/
namespace Go.Tm
open Go Go.Abs
set_option linter.unusedVariables false
set_option linter.unusedSimpArgs false
/-- The names from a node up to the root. -/
def upN (l : List Nod) : Nat → Int → List ByteArray
  | 0, _ => []
  | n + 1, id => if id = 1 then [] else match nd l id with
    | none => []
    | some x => x.name :: upN l n x.parent
def pathP (t : Tree) (id : Int) : ByteArray := if okT t.nodes t.next = true ∧ (nd t.nodes id).isSome = true then joinP (upN t.nodes 15 id).reverse else ⟨#[]⟩
section
variable {l : List Nod} {nx : Int}
theorem upN_up : ∀ {ns : List ByteArray} {id : Int} (n : Nat), Up l ns id → ns.length < n → upN l n id = ns
  | [], id, n, h, hn => by
    obtain ⟨n, rfl⟩ : ∃ k, n = k + 1 := ⟨n - 1, by simp at hn; omega⟩
    rw [upN, if_pos (show id = 1 from h)]
  | nm :: ns, id, n, ⟨h1, x, hx, hnm, h⟩, hn => by
    obtain ⟨n, rfl⟩ : ∃ k, n = k + 1 := ⟨n - 1, by simp at hn; omega⟩
    rw [upN, if_neg h1, hx]
    simp only []
    rw [hnm, upN_up n h (by simp at hn; omega)]
end
section
variable {t : Tree}
theorem path_up (h : okT t.nodes t.next = true) {ns : List ByteArray} {id : Int} (hu : Up t.nodes ns id) : pathP t id = joinP ns.reverse := by
  have H := okT_iff.1 h
  obtain ⟨x, hx, _⟩ := up_nd H hu
  unfold pathP
  rw [if_pos ⟨h, by rw [hx]; rfl⟩, upN_up 15 hu (by have := (up_len H hu).1; omega)]
theorem path_none {id : Int} (h : nd t.nodes id = none) : pathP t id = ⟨#[]⟩ := by
  unfold pathP
  rw [if_neg (by rw [h]; simp)]
theorem find_path (h : okT t.nodes t.next = true) {x : Nod} (hx : x ∈ t.nodes) : findP t (pathP t x.id) = x.id := by
  have H := okT_iff.1 h
  obtain ⟨ns, hu, _, _⟩ := H.names hx
  rw [path_up h hu, findP_join H (by simpa using hu)]
theorem nms_rev {ns : List ByteArray} (h : ∀ nm ∈ ns, nmB nm = true) : Nms ns.reverse := fun x hx => h x (by simpa using hx)
theorem joinP_slash {ns : List ByteArray} (h : Nms ns) : joinP ns = slash ↔ ns = [] := by
  constructor
  · intro e
    cases ns with
    | nil => rfl
    | cons x r => exact absurd e (joinP_ne h (by simp))
  · rintro rfl; rfl
/-- Who is below: whose path goes on. -/
theorem inside_eq (h : okT t.nodes t.next = true) {x y : Nod} (hx : x ∈ t.nodes) (hy : y ∈ t.nodes) : below t.nodes y.id x.id = (decide (pathP t y.id = pathP t x.id) || (decide (pathP t x.id = slash) || Lib.hasPrefix (pathP t y.id).data.toList (pathP t x.id ++ slash).data.toList)) := by
  have H := okT_iff.1 h
  obtain ⟨ms, hms, hml, hmn⟩ := H.names hx
  obtain ⟨ns, hns, hnl, hnn⟩ := H.names hy
  rw [path_up h hms, path_up h hns, Bool.eq_iff_iff, below_up H (H.id_ne0 x hx) hns hnl]
  simp only [Bool.or_eq_true, decide_eq_true_eq]
  rw [joinP_slash (nms_rev hmn)]
  constructor
  · rintro ⟨a, b, hab, hb⟩
    obtain rfl := up_uniq hb hms
    subst hab
    by_cases ha : a = []
    · subst ha; exact .inl rfl
    · by_cases hb0 : b = []
      · subst hb0; exact .inr (.inl rfl)
      · refine .inr (.inr ((pre_names (nms_rev hmn) (nms_rev hnn) (by simpa using hb0)).2 ?_))
        rw [List.reverse_append]
        obtain ⟨c, r, hr⟩ := List.exists_cons_of_ne_nil (show a.reverse ≠ [] by simpa using ha)
        exact ⟨c, r, by rw [hr]⟩
  · rintro (e | e | e)
    · have := joinP_inj (nms_rev hnn) (nms_rev hmn) e
      have e2 : ns = ms := by simpa using congrArg List.reverse this
      subst e2
      exact ⟨[], ns, rfl, hms⟩
    · have e2 : ms = [] := by simpa using e
      subst e2
      exact ⟨ns, [], by simp, hms⟩
    · by_cases h0 : ms = []
      · subst h0; exact ⟨ns, [], by simp, hms⟩
      · obtain ⟨c, r, hr⟩ := (pre_names (nms_rev hmn) (nms_rev hnn) (by simpa using h0)).1 e
        have e2 := congrArg List.reverse hr
        rw [List.reverse_reverse, List.reverse_append, List.reverse_reverse] at e2
        exact ⟨_, ms, e2, hms⟩
end
/-! ### Kids -/
theorem kids_nodup {l : List Nod} {nx : Int} (H : OkT l nx) {x : Nod} (hx : x ∈ l) : (kidNames l x.id).Nodup := by
  unfold kidNames
  rw [List.nodup_iff_pairwise_ne, List.pairwise_map]
  have h1 := H.pair.filter fun y => decide (y.parent = x.id)
  refine h1.imp_of_mem fun {a b} ha hb hab e => ?_
  obtain ⟨ha, ha2⟩ := List.mem_filter.1 ha
  obtain ⟨hb, hb2⟩ := List.mem_filter.1 hb
  have ha2 : a.parent = x.id := by simpa using ha2
  have hb2 : b.parent = x.id := by simpa using hb2
  have hx1 := H.id_pos hx
  have n1 : a.id ≠ 1 := fun c => by have := H.parent_one ha c; omega
  have n2 : b.id ≠ 1 := fun c => by have := H.parent_one hb c; omega
  have := H.kid_one ha hb n1 n2 (by rw [ha2, hb2]) e
  subst this
  omega
theorem kids_asc {t : Tree} (h : okT t.nodes t.next = true) {x : Nod} (hx : x ∈ t.nodes) : (kidsOf t x.id).Pairwise (fun a b => Op.bytesLess a.toList b.toList = true) := by
  unfold kidsOf
  rw [if_pos h]
  obtain ⟨h1, h2⟩ := insSort_ok leN_lin (kidNames t.nodes x.id) [] .nil
  have hn : (insSort leN (kidNames t.nodes x.id)).Nodup := (show (insSort leN (kidNames t.nodes x.id)).Perm (kidNames t.nodes x.id) by simpa [insSort] using h2).nodup_iff.2 (kids_nodup (okT_iff.1 h) hx)
  rw [List.nodup_iff_pairwise_ne] at hn
  refine (List.pairwise_and_iff.2 ⟨show (insSort leN (kidNames t.nodes x.id)).Pairwise (fun a b => leN a b = true) from h1, hn⟩).imp fun {a b} hab => ?_
  obtain ⟨h3, h4⟩ := hab
  have h5 := le_code a b
  rw [h3, Bool.or_eq_true] at h5
  exact h5.resolve_right (by simpa using h4)
theorem kidsOf_sum {t : Tree} (h : okT t.nodes t.next = true) : ws (fun x => ((kidsOf t x.id).length : Int)) t.nodes = (t.nodes.length : Int) - 1 := by
  rw [← kids_sum (okT_iff.1 h)]
  refine ws_congr fun x _ => ?_
  unfold kidsOf
  rw [if_pos h]
  have := (insSort_ok leN_lin (kidNames t.nodes x.id) [] .nil).2.length_eq
  simp only [List.nil_append] at this
  rw [insSort, this]
theorem find_zz {t : Tree} (h : okT t.nodes t.next = true) (ha : ∀ x ∈ t.nodes, x.id ≠ 1 → x.name ∈ abcL) {p : ByteArray} {ns : List ByteArray} {nm : ByteArray} (hs : splitP p = some (ns ++ [nm])) (hn : nm ∉ abcL) : findP t p = 0 := by
  have H := okT_iff.1 h
  by_cases c : findP t p = 0
  · exact c
  · exfalso
    obtain ⟨ms, hm, hu⟩ := (findP_some H).1 ⟨rfl, c⟩
    rw [hs] at hm
    cases hm
    rw [List.reverse_append] at hu
    obtain ⟨h1, x, hx, hxn, _⟩ := hu
    obtain ⟨x1, x2⟩ := nd_mem hx
    have := ha x x1 (by rw [x2]; exact h1)
    rw [hxn] at this
    exact hn this
end Go.Tm

/- A node that is moved: names, who is below, what is used. -/
namespace Go.Tm
open Go Go.Abs
set_option linter.unusedVariables false
set_option linter.unusedSimpArgs false
/-- A right tree, a node q of it with names ms, and a new place under a node with names ps. -/
structure Mv (l : List Nod) (nx : Int) (q : Nod) (pid : Int) (nm : ByteArray) (ms ps : List ByteArray) : Prop where
  H : OkT l nx
  hq : q ∈ l
  q1 : q.id ≠ 1
  hm : Up l ms q.id
  hp : Up l ps pid
  hb : below l pid q.id = false
  free : ∀ c, ¬ Up l (nm :: ps) c
  ok : OkT (l.map (atId q.id (movedN pid nm))) nx
section
variable {l : List Nod} {nx : Int} {q : Nod} {pid : Int} {nm : ByteArray} {ms ps : List ByteArray}
theorem nd_at_map (id : Int) (f : Nod → Nod) (hf : ∀ y, (f y).id = y.id) (k : Int) : nd (l.map (atId id f)) k = (nd l k).map (atId id f) := by
  unfold nd
  rw [List.find?_map]
  congr 1
  refine find_congr l fun x _ => ?_
  simp only [Function.comp, atId]
  split
  · rw [hf]
  · rfl
theorem Mv.nd_other (M : Mv l nx q pid nm ms ps) {k : Int} {x : Nod} (hx : nd l k = some x) (hk : k ≠ q.id) : nd (l.map (atId q.id (movedN pid nm))) k = some x := by
  rw [nd_at_map q.id (movedN pid nm) (fun y => rfl), hx]
  have : x.id ≠ q.id := by rw [(nd_mem hx).2]; exact hk
  simp [atId, this]
theorem Mv.nd_q (M : Mv l nx q pid nm ms ps) : nd (l.map (atId q.id (movedN pid nm))) q.id = some (movedN pid nm q) := by
  rw [nd_at_map q.id (movedN pid nm) (fun y => rfl), M.H.nd_self M.hq]
  simp [atId]
theorem Mv.self (M : Mv l nx q pid nm ms ps) : below l q.id q.id = true := below_self 14
/-- Names of what is not below stay. -/
theorem Mv.up_out (M : Mv l nx q pid nm ms ps) : ∀ (ns : List ByteArray) (id : Int), Up l ns id → below l id q.id = false → Up (l.map (atId q.id (movedN pid nm))) ns id
  | [], id, h, _ => h
  | n :: ns, id, h, hb => by
    obtain ⟨h1, x, hx, hn, hu⟩ := h
    have hne : id ≠ q.id := by rintro rfl; rw [M.self] at hb; cases hb
    obtain ⟨hm, hid⟩ := nd_mem hx
    refine ⟨h1, x, M.nd_other hx hne, hn, M.up_out ns x.parent hu ?_⟩
    cases hbp : below l x.parent q.id with
    | false => rfl
    | true => rw [← hid, below_kid M.H (M.H.id_ne0 q M.hq) hm (by rw [hid]; exact h1) hbp] at hb; cases hb
/-- Names of what is below change at their end. -/
theorem Mv.up_in (M : Mv l nx q pid nm ms ps) : ∀ (a : List ByteArray) (id : Int), Up l (a ++ ms) id → Up (l.map (atId q.id (movedN pid nm))) (a ++ nm :: ps) id
  | [], id, h => by
    obtain rfl := up_inj M.H h M.hm
    exact ⟨M.q1, _, M.nd_q, rfl, M.up_out ps pid M.hp M.hb⟩
  | n :: a, id, h => by
    have h' := h
    obtain ⟨h1, x, hx, hn, hu⟩ := h'
    have hne : id ≠ q.id := by
      rintro rfl
      have := congrArg List.length (up_uniq h M.hm)
      simp at this; omega
    exact ⟨h1, x, M.nd_other hx hne, hn, M.up_in a x.parent hu⟩
/-- The names in the moved tree. -/
theorem Mv.two (M : Mv l nx q pid nm ms ps) {y : Nod} (hy : y ∈ l) : (∃ a, Up l (a ++ ms) y.id ∧ below l y.id q.id = true ∧ Up (l.map (atId q.id (movedN pid nm))) (a ++ nm :: ps) y.id) ∨ (∃ ns, Up l ns y.id ∧ below l y.id q.id = false ∧ Up (l.map (atId q.id (movedN pid nm))) ns y.id) := by
  obtain ⟨ns, hns, hl, _⟩ := M.H.names hy
  cases hb : below l y.id q.id with
  | true =>
    obtain ⟨a, b, hab, hu⟩ := (below_up M.H (M.H.id_ne0 q M.hq) hns hl).1 hb
    obtain rfl := up_uniq hu M.hm
    subst hab
    exact .inl ⟨a, hns, rfl, M.up_in a y.id hns⟩
  | false => exact .inr ⟨ns, hns, rfl, M.up_out ns y.id hns hb⟩
theorem Mv.below_eq (M : Mv l nx q pid nm ms ps) {z y : Nod} (hz : z ∈ l) (hb : below l z.id q.id = true) (hy : y ∈ l) : below (l.map (atId q.id (movedN pid nm))) y.id z.id = below l y.id z.id := by
  have hz0 := M.H.id_ne0 z hz
  rcases M.two hz with ⟨a', hz1, _, hz2⟩ | ⟨_, _, h, _⟩
  rotate_left
  · rw [hb] at h; cases h
  rw [Bool.eq_iff_iff]
  have key : ∀ {c : List ByteArray} {id : Int}, ¬ Up l (c ++ (a' ++ nm :: ps)) id := fun {c id} hu => by
    rw [← List.append_assoc] at hu
    obtain ⟨d, hd⟩ := up_app hu
    exact M.free d hd
  rcases M.two hy with ⟨a, hy1, _, hy2⟩ | ⟨ns, hy1, hyb, hy2⟩
  · rw [below_up M.ok hz0 hy2 (up_len M.ok hy2).1, below_up M.H hz0 hy1 (up_len M.H hy1).1]
    constructor
    · rintro ⟨c, d, hcd, hd⟩
      obtain rfl := up_uniq hd hz2
      rw [← List.append_assoc] at hcd
      have := List.append_cancel_right hcd
      exact ⟨c, _, by rw [this, List.append_assoc], hz1⟩
    · rintro ⟨c, d, hcd, hd⟩
      obtain rfl := up_uniq hd hz1
      rw [← List.append_assoc] at hcd
      have := List.append_cancel_right hcd
      exact ⟨c, _, by rw [this, List.append_assoc], hz2⟩
  · rw [below_up M.ok hz0 hy2 (up_len M.ok hy2).1, below_up M.H hz0 hy1 (up_len M.H hy1).1]
    constructor
    · rintro ⟨c, d, hcd, hd⟩
      obtain rfl := up_uniq hd hz2
      rw [hcd] at hy1
      exact absurd hy1 key
    · rintro ⟨c, d, hcd, hd⟩
      exfalso
      obtain rfl := up_uniq hd hz1
      rw [hcd, ← List.append_assoc] at hy1
      have : Go.Tm.below l y.id q.id = true := (below_up M.H (M.H.id_ne0 q M.hq) hy1 (up_len M.H hy1).1).2 ⟨c ++ a', ms, rfl, M.hm⟩
      rw [hyb] at this; cases this
theorem map_ids (f : Nod → Nod) (hf : ∀ y, (f y).id = y.id) (id : Int) : (l.map (atId id f)).map (·.id) = l.map (·.id) := by
  rw [List.map_map]
  apply List.map_congr_left
  intro x _
  simp only [Function.comp, atId]
  split
  · exact hf x
  · rfl
theorem atId_id (f : Nod → Nod) (hf : ∀ y, (f y).id = y.id) (id : Int) (x : Nod) : (atId id f x).id = x.id := by
  unfold atId; split
  · exact hf x
  · rfl
theorem Mv.bel_map (M : Mv l nx q pid nm ms ps) {z : Nod} (hz : z ∈ l) (hb : Go.Tm.below l z.id q.id = true) : bel (l.map (atId q.id (movedN pid nm))) z.id = (bel l z.id).map (atId q.id (movedN pid nm)) := by
  unfold Go.Tm.bel
  rw [List.filter_map]
  congr 1
  apply List.filter_congr
  intro y hy
  simp only [Function.comp]
  rw [atId_id (movedN pid nm) (fun y => rfl), M.below_eq hz hb hy]
theorem usum_map {f : Nod → Nod} (hf : ∀ y, (f y).len = y.len) : ∀ (k : List Nod), usum (k.map f) = usum k
  | [] => rfl
  | x :: k => by simp only [List.map_cons, usum, hf, usum_map hf k]
theorem Mv.find0 (M : Mv l nx q pid nm ms ps) (c : Int) : ¬ Up (l.map (atId q.id (movedN pid nm))) ms c := fun hc => by
  obtain ⟨y', hy', hm', hid⟩ := up_nd M.ok hc
  obtain ⟨y, hy, rfl⟩ := List.mem_map.1 hm'
  rw [atId_id (movedN pid nm) (fun y => rfl)] at hid
  subst hid
  rcases M.two hy with ⟨a, hy1, _, hy2⟩ | ⟨ns, hy1, hyb, hy2⟩
  · have := up_uniq hc hy2
    have hmm := M.hm
    rw [this] at hmm
    obtain ⟨d, hd⟩ := up_app hmm
    exact M.free d hd
  · obtain rfl := up_uniq hc hy2
    have := up_inj M.H hy1 M.hm
    rw [this, M.self] at hyb
    cases hyb
theorem Mv.there (M : Mv l nx q pid nm ms ps) : Up (l.map (atId q.id (movedN pid nm))) (nm :: ps) q.id := M.up_in [] q.id M.hm
end
/-- A record that moved. -/
theorem mv_did {t : Tree} {e : Edt} {j : Nat} {q : Nod} (h : okT t.nodes t.next = true) (hn : namedP e.path = true) (ht : namedP e.to = true) (h0 : findP t e.path ≠ 0) (hq : t.nodes[j]? = some q) (hid : q.id = findP t e.path) (h1 : findP t (upOf e.to).1 ≠ 0) (h3 : findP t e.to = 0)
    (h4 : below t.nodes (findP t (upOf e.to).1) (findP t e.path) = false) (ho : okT (t.nodes.modify j (movedN (findP t (upOf e.to).1) (upOf e.to).2)) t.next = true) :
    ∃ ns ps, splitP e.path = some ns ∧ splitP e.to = some (ps ++ [(upOf e.to).2]) ∧ (modN t j (movedN (findP t (upOf e.to).1) (upOf e.to).2)).nodes = t.nodes.map (atId q.id (movedN (findP t (upOf e.to).1) (upOf e.to).2)) ∧ Mv t.nodes t.next q (findP t (upOf e.to).1) (upOf e.to).2 ns.reverse ps.reverse := by
  have H := okT_iff.1 h
  obtain ⟨ns, hns, hu⟩ := (findP_some H).1 ⟨rfl, h0⟩
  obtain ⟨ps, nm, hps⟩ := namedP_iff.1 ht
  have hup := upOf_split hps
  rw [hup] at h1 h4 ho ⊢
  obtain ⟨ps', hps', hu2⟩ := (findP_some H).1 ⟨rfl, h1⟩
  obtain ⟨k1, k2, k3⟩ := splitP_some hps
  rw [splitP_join (Nms.app.1 k1).1 (by simp at k2; omega)] at hps'
  cases hps'
  have hmod := modify_atId H hq (movedN (findP t (joinP ps)) nm)
  refine ⟨ns, ps, hns, hps, hmod, H, List.mem_of_getElem? hq, ?_, by rw [hid]; exact hu, hu2, by rw [hid]; exact h4, fun c hc => ?_, ?_⟩
  · rw [hid]; exact named_not_root H hn h0
  · have := (findP_some H (p := e.to) (id := c)).2 ⟨_, hps, by simpa using hc⟩
    rw [h3] at this
    exact this.2 this.1.symm
  · dsimp only at ho
    rw [hmod] at ho
    exact okT_iff.1 ho
theorem findP_up {t : Tree} (h : okT t.nodes t.next = true) {p : ByteArray} {ns : List ByteArray} (hs : splitP p = some ns) {id : Int} (hu : Up t.nodes ns.reverse id) : findP t p = id := ((findP_some (okT_iff.1 h)).2 ⟨ns, hs, hu⟩).1
theorem findP_no {t : Tree} (h : okT t.nodes t.next = true) {p : ByteArray} {ns : List ByteArray} (hs : splitP p = some ns) (hu : ∀ c, ¬ Up t.nodes ns.reverse c) : findP t p = 0 := by
  by_cases c : findP t p = 0
  · exact c
  · obtain ⟨ms, hm, hv⟩ := (findP_some (okT_iff.1 h)).1 ⟨rfl, c⟩
    rw [hs] at hm; cases hm
    exact absurd hv (hu _)
theorem Mv.uses {t : Tree} {q : Nod} {pid : Int} {nm : ByteArray} {ms ps : List ByteArray} (M : Mv t.nodes t.next q pid nm ms ps) {n : Tree} (hn : n.nodes = t.nodes.map (atId q.id (movedN pid nm))) (hx : n.next = t.next) {z : Nod} (hz : z ∈ t.nodes) (hb : Go.Tm.below t.nodes z.id q.id = true) : usedBelow n z.id = usedBelow t z.id ∧ belowOf n z.id = belowOf t z.id := by
  have ho : okT n.nodes n.next = true := by rw [hn, hx]; exact okT_iff.2 M.ok
  have h := okT_iff.2 M.H
  have i1 : (nd t.nodes z.id).isSome = true := by rw [M.H.nd_self hz]; rfl
  have i2 : (nd n.nodes z.id).isSome = true := by
    rw [hn, nd_at_map q.id (movedN pid nm) (fun y => rfl), M.H.nd_self hz]; rfl
  constructor
  · rw [used_sum ho i2, used_sum h i1, hn, M.bel_map hz hb, usum_map]
    intro y
    unfold atId; split <;> rfl
  · unfold belowOf
    rw [if_pos ⟨ho, i2⟩, if_pos ⟨h, i1⟩]
    unfold belows
    have := M.bel_map hz hb
    unfold Go.Tm.bel at this
    rw [hn, this, map_ids (movedN pid nm) (fun y => rfl)]
/-- The bytes behind a path's beginning. -/
theorem path_tail {ns a : List ByteArray} (h0 : ns ≠ []) : (joinP (ns ++ a)).data.toList.drop (joinP ns).size = catL (a.map (·.data.toList)) := by
  have e1 := joinP_list (l := ns) h0
  have e2 := joinP_list (l := ns ++ a) (by simp [h0])
  have hs : (joinP ns).size = (joinP ns).data.toList.length := (Array.length_toList (xs := (joinP ns).data)).symm
  rw [hs, e2, e1]
  simp [catL]
theorem path_turned {ns os a : List ByteArray} (h0 : ns ≠ []) (h1 : os ≠ []) {s : ByteArray} (hs : s.data.toList = (joinP (ns ++ a)).data.toList.drop (joinP ns).size) : joinP os ++ s = joinP (os ++ a) := by
  apply ba_ext
  rw [ba_app, hs, path_tail h0, joinP_list h1, joinP_list (l := os ++ a) (by simp [h1])]
  simp [catL]
end Go.Tm

/- A record that a right tree takes: what it did, told by paths, numbers and sums. -/
namespace Go.Tm
open Go Go.Abs
set_option linter.unusedVariables false
set_option linter.unusedSimpArgs false
theorem apply_same {t : Tree} {e : Edt} {g : Int} (h : (applyT t e g).2 ≠ 0) : (applyT t e g).1 = t := by
  have key : (applyT t e g).1 = t ∨ (applyT t e g).2 = 0 := by
    unfold applyT
    split
    · exact .inl rfl
    split
    · exact .inl rfl
    split
    · unfold addT
      repeat' split
      all_goals first | exact .inl rfl | exact .inr rfl
    split
    · unfold addT
      repeat' split
      all_goals first | exact .inl rfl | exact .inr rfl
    split
    · exact .inl rfl
    split
    · exact .inl rfl
    split
    · unfold moveT
      dsimp only
      repeat' split
      all_goals first | exact .inl rfl | exact .inr rfl
    split
    · exact .inr rfl
    split
    · unfold setT
      repeat' split
      all_goals first | exact .inl rfl | exact .inr rfl
    · unfold writeT
      repeat' split
      all_goals first | exact .inl rfl | exact .inr rfl
  exact key.resolve_right h
section
variable {l : List Nod} {nx : Int}
theorem filter_one (hp : l.Pairwise fun x y => x.id < y.id) {p : Nod → Bool} {x : Nod} (hx : x ∈ l) (h : p x = true) (hu : ∀ y ∈ l, p y = true → y.id = x.id) : l.filter p = [x] := by
  have hc := count_one hp hx h hu
  rw [List.countP_eq_length_filter] at hc
  have hm : x ∈ l.filter p := List.mem_filter.2 ⟨hx, h⟩
  match hf : l.filter p with
  | [] => rw [hf] at hm; simp at hm
  | [z] => rw [hf] at hm; simp at hm; rw [hm]
  | z :: y :: r => rw [hf] at hc; simp at hc
/-- Nothing is below a file but itself. -/
theorem file_below (H : OkT l nx) {q y : Nod} (hq : q ∈ l) (hd : q.dir = false) (hy : y ∈ l) (hb : below l y.id q.id = true) : y.id = q.id := by
  obtain ⟨ms, hms, _, _⟩ := H.names hq
  obtain ⟨ns, hns, hl, _⟩ := H.names hy
  obtain ⟨a, b, hab, hu⟩ := (below_up H (H.id_ne0 q hq) hns hl).1 hb
  obtain rfl := up_uniq hu hms
  by_cases ha : a = []
  · subst ha
    rw [List.nil_append] at hab
    subst hab
    exact up_inj H hns hms
  · exfalso
    obtain ⟨a', nm, rfl⟩ : ∃ a' nm, a = a' ++ [nm] := ⟨a.dropLast, a.getLast ha, (List.dropLast_concat_getLast ha).symm⟩
    rw [hab, List.append_assoc, List.singleton_append] at hns
    obtain ⟨c, h1, k, hk, _, hku⟩ := up_app hns
    obtain ⟨k1, k2⟩ := nd_mem hk
    have hp : k.parent = q.id := up_inj H hku hms
    obtain ⟨z, hz, hzi, hzd⟩ := H.par k1 (by rw [k2]; exact h1)
    have := H.same hz hq (by rw [hzi, hp])
    subst this
    rw [hd] at hzd; cases hzd
end
theorem groups_file {t : Tree} (h : okT t.nodes t.next = true) {q : Nod} (hq : q ∈ t.nodes) (hd : q.dir = false) : groupsOf t q.id = gSet (q.pieces.map (·.group)) := by
  have H := okT_iff.1 h
  have hb : belowOf t q.id = [q.id] := by
    unfold belowOf
    rw [if_pos ⟨h, by rw [H.nd_self hq]; rfl⟩]
    unfold belows
    rw [filter_one H.pair hq (below_self 14) fun y hy hb => file_below H hq hd hy hb]
    rfl
  unfold groupsOf
  rw [hb]
  simp [groupsL, grpAt, H.nd_self hq]
theorem gSet_more {a b : List Int} (hb : b.Pairwise (· < ·)) (hab : ∀ x ∈ a, ∀ y ∈ b, x < y) : (gSet (a ++ b)).length = (gSet a).length + b.length := by
  obtain ⟨h1, h2⟩ := gSet_mem (a ++ b)
  obtain ⟨h3, h4⟩ := gSet_mem a
  have e : gSet (a ++ b) = gSet a ++ b := by
    refine asc_ext _ _ h1 ?_ fun x => ?_
    · rw [List.pairwise_append]
      exact ⟨h3, hb, fun x hx y hy => hab x ((h4 x).1 hx) y hy⟩
    · rw [h2, List.mem_append, List.mem_append, h4]
  rw [e, List.length_append]
theorem newPcs_asc (g : Int) (l : List Int) : ((newPcs g l).map (·.group)).Pairwise (· < ·) := by
  rw [List.pairwise_iff_getElem]
  intro i j hi hj hij
  simp [newPcs]
  omega
theorem newPcs_len (g : Int) (l : List Int) : (newPcs g l).length = l.length := by simp [newPcs]
theorem groups_up {t : Tree} {e : Edt} {g : Int} : g ≤ groupsAfter t e g := by
  unfold groupsAfter
  repeat' split
  all_goals omega
theorem groups_same {t : Tree} {e : Edt} {g : Int} (h : (applyT t e g).2 ≠ 0) : groupsAfter t e g = g := by
  unfold groupsAfter
  rw [if_pos h]
section
variable {t : Tree} {e : Edt} {g : Int}
theorem up_snoc {l : List Nod} {x : Nod} : ∀ {ns : List ByteArray} {id : Int}, Up l ns id → Up (l ++ [x]) ns id
  | [], id, h => h
  | nm :: ns, id, ⟨h1, y, hy, hn, hu⟩ => ⟨h1, y, by
      unfold nd at hy ⊢
      rw [List.find?_append, hy]; rfl, hn, up_snoc hu⟩
theorem did_add (h : (applyT t e g).2 = 0) (hk : e.kind = 1 ∨ e.kind = 2) : findP (applyT t e g).1 e.path = t.next ∧ (applyT t e g).1.nodes.length = t.nodes.length + 1 := by
  obtain ⟨hok, he, _⟩ := apply_pre h
  have H := okT_iff.1 hok
  have hD := apply_did h
  generalize (applyT t e g).1 = n at hD ⊢
  cases hD with
  | add d w _ h1 h2 h3 ho =>
    have hn : namedP e.path = true := editB_named he (by omega) (by omega) (by omega)
    obtain ⟨ps, nm, hps⟩ := namedP_iff.1 hn
    have hup := upOf_split hps
    refine ⟨?_, by simp⟩
    obtain ⟨ps', hps', hu⟩ := (findP_some H).1 ⟨rfl, h1⟩
    obtain ⟨k1, k2, k3⟩ := splitP_some hps
    rw [hup] at hps' hu h1
    rw [splitP_join (Nms.app.1 k1).1 (by simp at k2; omega)] at hps'
    cases hps'
    refine findP_up (t := ⟨_, _⟩) ho hps ?_
    rw [List.reverse_append]
    obtain ⟨r, h0, _, _, hr1, _⟩ := H.rootNd
    have hlow := H.low r (List.mem_of_getElem? h0)
    have hnn : nd (t.nodes ++ [newN t e.path d w]) t.next = some (newN t e.path d w) := by
      have e1 : nd t.nodes t.next = none := by
        unfold nd
        rw [List.find?_eq_none]
        intro x hx
        have := H.low x hx
        simp; omega
      unfold nd at e1 ⊢
      rw [List.find?_append, e1]
      simp [newN]
    refine ⟨by omega, _, hnn, by simp [newN, hup], ?_⟩
    have := up_snoc (x := newN t e.path d w) hu
    simpa [newN, hup] using this
  | boot hk => omega
  | move j q hk => omega
  | drop hk => omega
  | schema j q hk => omega
  | quota j q hk => omega
  | put j q hk => omega
  | write j q w hk => omega
theorem editB_to (he : editB e = true) (hk : e.kind = 3) : namedP e.to = true := by
  unfold editB at he
  simp [hk] at he
  exact he.2.1.2
theorem did_move (h : (applyT t e g).2 = 0) (hk : e.kind = 3) : findP (applyT t e g).1 e.path = 0 ∧ findP (applyT t e g).1 e.to = findP t e.path ∧ (applyT t e g).1.nodes.length = t.nodes.length := by
  obtain ⟨hok, he, _⟩ := apply_pre h
  have ho := apply_ok (e := e) (g := g) hok
  have hD := apply_did h
  generalize (applyT t e g).1 = n at hD ho ⊢
  cases hD with
  | move j q hk h0 hq hid h1 h2 h3 h4 ho2 =>
    obtain ⟨ns, ps, s1, s2, hm, M⟩ := mv_did hok (editB_named he (by omega) (by omega) (by omega)) (editB_to he hk) h0 hq hid h1 h3 h4 ho2
    refine ⟨findP_no ho s1 fun c => by rw [hm]; exact M.find0 c, ?_, by simp [modN]⟩
    rw [← hid]
    refine findP_up ho s2 ?_
    rw [hm, List.reverse_append]
    exact M.there
  | boot hk => omega
  | add d w hk => omega
  | drop hk => omega
  | schema j q hk => omega
  | quota j q hk => omega
  | put j q hk => omega
  | write j q w hk => omega
theorem up_live {l : List Nod} {nx : Int} (H : OkT l nx) {top : Int} : ∀ {ns : List ByteArray} {id : Int}, Up (live l top) ns id → Up l ns id
  | [], id, h => h
  | nm :: ns, id, ⟨h1, x, hx, hn, hu⟩ => ⟨h1, x, (live_nd H hx).1, hn, up_live H hu⟩
theorem did_drop (h : (applyT t e g).2 = 0) (hk : e.kind = 4) : findP (applyT t e g).1 e.path = 0 ∧ ((applyT t e g).1.nodes.length : Int) = (t.nodes.length : Int) - ((belowOf t (findP t e.path)).length : Int) := by
  obtain ⟨hok, he, _⟩ := apply_pre h
  have H := okT_iff.1 hok
  have ho := apply_ok (e := e) (g := g) hok
  have hD := apply_did h
  generalize (applyT t e g).1 = n at hD ho ⊢
  cases hD with
  | drop hk h0 h1 =>
    obtain ⟨ns, hns, hu⟩ := (findP_some H).1 ⟨rfl, h0⟩
    obtain ⟨x, hx, hxm, hxi⟩ := up_nd H hu
    constructor
    · refine findP_no ho hns fun c hc => ?_
      have hc' : Up (live t.nodes (findP t e.path)) ns.reverse c := hc
      have e1 := up_inj H (up_live H hc') hu
      subst e1
      obtain ⟨y, hy, _⟩ := up_nd (okT_iff.1 ho) hc
      have hy' : nd (live t.nodes (findP t e.path)) (findP t e.path) = some y := hy
      have := (live_nd H hy').2
      rw [show below t.nodes (findP t e.path) (findP t e.path) = true from below_self 14] at this
      cases this
    · unfold belowOf
      rw [if_pos ⟨hok, by rw [hx]; rfl⟩]
      unfold belows
      simp only [dropT, List.length_map]
      have := List.length_eq_countP_add_countP (l := t.nodes) (fun y : Nod => below t.nodes y.id (findP t e.path))
      rw [List.countP_eq_length_filter, List.countP_eq_length_filter] at this
      have e2 : (t.nodes.filter fun y : Nod => !below t.nodes y.id (findP t e.path)) = t.nodes.filter fun y : Nod => decide (¬ below t.nodes y.id (findP t e.path) = true) := List.filter_congr fun y _ => by simp
      rw [e2]
      omega
  | boot hk => omega
  | add d w hk => omega
  | move j q hk => omega
  | schema j q hk => omega
  | quota j q hk => omega
  | put j q hk => omega
  | write j q w hk => omega
/-- Records that keep lengths. -/
theorem did_rest (h : (applyT t e g).2 = 0) (h1 : e.kind ≠ 1) (h2 : e.kind ≠ 2) (h3 : e.kind ≠ 3) (h4 : e.kind ≠ 4) (h7 : e.kind ≠ 7) : (applyT t e g).1.nodes.length = t.nodes.length ∧ usedBelow (applyT t e g).1 1 = usedBelow t 1 := by
  obtain ⟨hok, he, _⟩ := apply_pre h
  have H := okT_iff.1 hok
  have ho := apply_ok (e := e) (g := g) hok
  have hD := apply_did h
  obtain ⟨r, _, hr, _⟩ := H.rootNd
  have hi : (nd t.nodes 1).isSome = true := by rw [hr]; rfl
  generalize (applyT t e g).1 = n at hD ho ⊢
  have key : ∀ {j : Nat} {q : Nod} {f : Nod → Nod}, t.nodes[j]? = some q → (∀ y, (f y).id = y.id ∧ (f y).parent = y.parent ∧ (f y).name = y.name ∧ (f y).dir = y.dir) → (f q).len = q.len → okT (modN t j f).nodes t.next = true → (modN t j f).nodes.length = t.nodes.length ∧ usedBelow (modN t j f) 1 = usedBelow t 1 := fun {j q f} hq hf hl hk => by
    have := used_put hok hq hf (d := 0) (by omega) hk hi
    refine ⟨by simp [modN], ?_⟩
    rw [this]; split <;> omega
  cases hD with
  | boot hk => exact ⟨rfl, rfl⟩
  | add d w hk => omega
  | move j q hk => omega
  | drop hk => omega
  | schema j q hk h0 hq hid hd => exact key hq (fun y => ⟨rfl, rfl, rfl, rfl⟩) rfl ho
  | quota j q hk h0 hq hid hd hu => exact key hq (fun y => ⟨rfl, rfl, rfl, rfl⟩) rfl ho
  | put j q hk => omega
  | write j q w hk h0 hq hid hd => exact key hq (fun y => ⟨rfl, rfl, rfl, rfl⟩) rfl ho
theorem did_put {n : Nat} {g0 : Int} (HG : Good t g0 n) (hg : g0 ≤ g) (h : (applyT t e g).2 = 0) (hk : e.kind = 7) : usedBelow (applyT t e g).1 1 = usedBelow t 1 + e.num ∧ ((groupsOf (applyT t e g).1 (findP (applyT t e g).1 e.path)).length : Int) = ((groupsOf t (findP (applyT t e g).1 e.path)).length : Int) + (groupsAfter t e g - g) := by
  obtain ⟨hok, he, _⟩ := apply_pre h
  have H := okT_iff.1 hok
  have ho := apply_ok (e := e) (g := g) hok
  have hD := apply_did h
  have hga := groupsAfter_did h
  obtain ⟨r, _, hr, _⟩ := H.rootNd
  have hi : (nd t.nodes 1).isSome = true := by rw [hr]; rfl
  generalize (applyT t e g).1 = n at hD ho ⊢
  cases hD with
  | put j q hk h0 hq hid hd hw hr hl hp =>
    have hqm := List.mem_of_getElem? hq
    have hf : ∀ y : Nod, (({ y with pieces := q.pieces ++ newPcs g (spans q.schema e.num), len := q.len + e.num } : Nod)).id = y.id ∧ ({ y with pieces := q.pieces ++ newPcs g (spans q.schema e.num), len := q.len + e.num } : Nod).parent = y.parent ∧ ({ y with pieces := q.pieces ++ newPcs g (spans q.schema e.num), len := q.len + e.num } : Nod).name = y.name ∧ ({ y with pieces := q.pieces ++ newPcs g (spans q.schema e.num), len := q.len + e.num } : Nod).dir = y.dir := fun y => ⟨rfl, rfl, rfl, rfl⟩
    have hgk := keeps_atId (l := t.nodes) (id := q.id) hf
    have em := modify_atId H hq (fun y : Nod => ({ y with pieces := q.pieces ++ newPcs g (spans q.schema e.num), len := q.len + e.num } : Nod))
    have ep : findP (modN t j fun y => { y with pieces := q.pieces ++ newPcs g (spans q.schema e.num), len := q.len + e.num }) e.path = q.id := by
      obtain ⟨ns, hs, hu⟩ := (findP_some H (p := e.path) (id := q.id)).1 ⟨hid.symm, by rw [hid]; exact h0⟩
      have hu2 := (up_map hgk ns.reverse q.id).2 hu
      rw [← em] at hu2
      exact ((findP_some (okT_iff.1 ho) (p := e.path) (id := q.id)).2 ⟨ns, hs, hu2⟩).1
    constructor
    · rw [used_put hok hq hf (d := e.num) rfl ho hi, if_pos (below_root H hqm)]
    · rw [ep]
      have hfm : ({ q with pieces := q.pieces ++ newPcs g (spans q.schema e.num), len := q.len + e.num } : Nod) ∈ (modN t j fun y => { y with pieces := q.pieces ++ newPcs g (spans q.schema e.num), len := q.len + e.num }).nodes := by
        simp only [modN]
        rw [em]
        exact List.mem_map.2 ⟨q, hqm, by simp [atId]⟩
      have e1 := groups_file ho hfm (by simpa using hd)
      have e2 := groups_file hok hqm hd
      simp only [] at e1
      rw [e1, e2, List.map_append, gSet_more (newPcs_asc g _) fun x hx y hy => ?_, List.length_map, newPcs_len]
      · have hnq : nd t.nodes (findP t e.path) = some q := by rw [← hid]; exact H.nd_self hqm
        rw [hga, if_neg (by omega), if_neg (by simp [hk]), hnq]
        simp only []
        omega
      · have h5 := HG.lt x (by
          unfold grps
          exact List.mem_flatMap.2 ⟨q, hqm, hx⟩)
        have h6 := ((newPcs_grp g _).2 y hy).1
        omega
  | boot hk => omega
  | add d w hk => omega
  | move j q hk => omega
  | drop hk => omega
  | schema j q hk => omega
  | quota j q hk => omega
  | write j q w hk => omega
/-- Only what is not there is not found, when the new place is in a directory that is there. -/
theorem move_code (hok : okT t.nodes t.next = true) (he : editB e = true) (hg : 1 ≤ g ∧ g ≤ 99000) (hk : e.kind = 3) (hp : findP t (upOf e.to).1 ≠ 0) : (applyT t e g).2 = 1 ↔ findP t e.path = 0 := by
  unfold applyT
  rw [if_neg (by rw [hok, he, inB_iff.2 hg]; simp), if_neg (by omega), if_neg (by omega), if_neg (by omega)]
  by_cases c : findP t e.path = 0
  · rw [if_pos c]; simp [c]
  · rw [if_neg c]
    obtain ⟨j, q, _, _, gn⟩ := find_at (okT_iff.1 hok) c
    rw [gn]
    dsimp only
    rw [if_pos hk]
    unfold moveT
    rw [if_neg hp]
    dsimp only
    constructor
    · intro h
      exfalso
      revert h
      repeat' split
      all_goals simp
    · intro h; exact absurd h c
end
end Go.Tm

/- Seven records: a file keeps its schema. All cases by reckoning. -/
namespace Go.Tm
open Go Go.Abs
set_option linter.unusedVariables false
def sD : ByteArray := ⟨#[47, 100]⟩
def sDf : ByteArray := ⟨#[47, 100, 47, 102]⟩
def sDg : ByteArray := ⟨#[47, 100, 47, 103]⟩
def sH : ByteArray := ⟨#[47, 104]⟩
def keptL (a b m : Int) : List Edt := [⟨1, sD, ⟨#[]⟩, 0, 0⟩, ⟨5, sD, ⟨#[]⟩, a, 0⟩, ⟨2, sDf, ⟨#[]⟩, 0, 1⟩, ⟨5, sD, ⟨#[]⟩, b, 0⟩, ⟨2, sDg, ⟨#[]⟩, 0, 1⟩, ⟨7, sDf, ⟨#[]⟩, m, 0⟩, ⟨3, sDf, sH, 0, 0⟩]
def newTr : Tree := ⟨[⟨1, 0, ⟨#[]⟩, true, 1, 0, 0, [], 0⟩], 2⟩
def keptR (r : Tree × Int) (a b m : Int) : Bool :=
  decide (schemaAt r.1 (findP r.1 sH) = a) && decide (schemaAt r.1 (findP r.1 sDg) = b) && decide (r.2 = 1 + ((spans a m).length : Int)) && decide (((groupsOf r.1 (findP r.1 sH)).length : Int) = r.2 - 1) && decide (usedBelow r.1 (findP r.1 sH) = m)
def keptC (a b m : Int) : Bool := keptR (applyAll newTr (keptL a b m) 1) a b m
set_option maxRecDepth 100000 in
theorem kept_11 : ((List.range 100).all fun m => keptC 1 1 ((m : Int) + 1)) = true := by decide +kernel
set_option maxRecDepth 100000 in
theorem kept_12 : ((List.range 100).all fun m => keptC 1 2 ((m : Int) + 1)) = true := by decide +kernel
set_option maxRecDepth 100000 in
theorem kept_13 : ((List.range 100).all fun m => keptC 1 3 ((m : Int) + 1)) = true := by decide +kernel
set_option maxRecDepth 100000 in
theorem kept_21 : ((List.range 100).all fun m => keptC 2 1 ((m : Int) + 1)) = true := by decide +kernel
set_option maxRecDepth 100000 in
theorem kept_22 : ((List.range 100).all fun m => keptC 2 2 ((m : Int) + 1)) = true := by decide +kernel
set_option maxRecDepth 100000 in
theorem kept_23 : ((List.range 100).all fun m => keptC 2 3 ((m : Int) + 1)) = true := by decide +kernel
set_option maxRecDepth 100000 in
theorem kept_31 : ((List.range 100).all fun m => keptC 3 1 ((m : Int) + 1)) = true := by decide +kernel
set_option maxRecDepth 100000 in
theorem kept_32 : ((List.range 100).all fun m => keptC 3 2 ((m : Int) + 1)) = true := by decide +kernel
set_option maxRecDepth 100000 in
theorem kept_33 : ((List.range 100).all fun m => keptC 3 3 ((m : Int) + 1)) = true := by decide +kernel
theorem kept_all {a b m : Int} (ha : 1 ≤ a ∧ a ≤ 3) (hb : 1 ≤ b ∧ b ≤ 3) (hm : 1 ≤ m ∧ m ≤ 100) : keptC a b m = true := by
  have key : ∀ {a b : Int}, ((List.range 100).all fun m => keptC a b ((m : Int) + 1)) = true → keptC a b m = true := fun {a b} h => by
    have := List.all_eq_true.1 h (m - 1).toNat (List.mem_range.2 (by omega))
    rwa [show (((m - 1).toNat : Nat) : Int) + 1 = m by omega] at this
  rcases (by omega : a = 1 ∨ a = 2 ∨ a = 3) with rfl | rfl | rfl <;> rcases (by omega : b = 1 ∨ b = 2 ∨ b = 3) with rfl | rfl | rfl
  · exact key kept_11
  · exact key kept_12
  · exact key kept_13
  · exact key kept_21
  · exact key kept_22
  · exact key kept_23
  · exact key kept_31
  · exact key kept_32
  · exact key kept_33
theorem kept_law {a b m : Int} (ha : 1 ≤ a ∧ a ≤ 3) (hb : 1 ≤ b ∧ b ≤ 3) (hm : 1 ≤ m ∧ m ≤ 100) {r : Tree × Int} (hr : applyAll newTr (keptL a b m) 1 = r) :
    schemaAt r.1 (findP r.1 sH) = a ∧ schemaAt r.1 (findP r.1 sDg) = b ∧ r.2 = 1 + ((spans a m).length : Int) ∧ ((groupsOf r.1 (findP r.1 sH)).length : Int) = r.2 - 1 ∧ usedBelow r.1 (findP r.1 sH) = m := by
  have h := kept_all ha hb hm
  unfold keptC at h
  rw [hr] at h
  simpa [keptR, and_assoc] using h
end Go.Tm

/- Whole numbers as bytes, short texts, sums: what is written and read. -/
namespace Go.Tm
open Go Go.Abs
set_option linter.unusedVariables false
set_option linter.unusedSimpArgs false
theorem bytesText_list (ns : List Int) : (bytesText ns).data.toList = ns.map fun n => UInt8.ofNat n.toNat := by
  have key : ∀ (ns : List Int) (r : ByteArray), (ns.foldl (fun r n => r.push (UInt8.ofNat n.toNat)) r).data.toList = r.data.toList ++ ns.map fun n => UInt8.ofNat n.toNat := by
    intro ns
    induction ns with
    | nil => intro r; simp
    | cons n ns ih =>
      intro r
      rw [List.foldl_cons, ih]
      have : (r.push (UInt8.ofNat n.toNat)).data = r.data.push (UInt8.ofNat n.toNat) := rfl
      rw [this, Array.toList_push]
      simp
  have := key ns ByteArray.empty
  unfold bytesText
  rw [this]
  rfl
theorem byteAt_range (p : ByteArray) (i : Int) : 0 ≤ byteAt p i ∧ byteAt p i ≤ 255 := by
  unfold byteAt
  have := (p.data.getD i.toNat 0).toNat_lt
  omega
/-- The bytes of a text from a place on. -/
def dsOf (p : ByteArray) (a : Int) (n : Nat) : List Int := (List.range n).map fun (j : Nat) => byteAt p (a + (j : Int))
def vval : List Int → Int
  | [] => 0
  | c :: r => c % 128 + 128 * vval r
/-- The numbers of a whole number's text: seven bits each, the lowest first; all but the last have the high bit. -/
def vd : Nat → Int → List Int
  | 0, n => [n % 256]
  | d + 1, n => if n > 127 then (n % 128 + 128) :: vd d (n / 128) else [n % 256]
def varT (n : Int) : ByteArray := bytesText (vd 8 n)
theorem vd_len : ∀ (d : Nat) (n : Int), 1 ≤ (vd d n).length ∧ (vd d n).length ≤ d + 1
  | 0, n => by simp [vd]
  | d + 1, n => by
    have ih := vd_len d (n / 128)
    unfold vd
    split
    · rw [List.length_cons]; omega
    · simp
theorem varT_size (n : Int) : 1 ≤ (varT n).size ∧ (varT n).size ≤ 9 := by
  unfold varT
  rw [bytesText_size]
  exact vd_len 8 n
theorem ds_len (p : ByteArray) (a : Int) (n : Nat) : (dsOf p a n).length = n := by simp [dsOf]
theorem ds_succ (p : ByteArray) (a : Int) (n : Nat) : dsOf p a (n + 1) = dsOf p a n ++ [byteAt p (a + (n : Int))] := by
  unfold dsOf
  rw [List.range_succ, List.map_append]
  rfl
theorem byteAt_get {p : ByteArray} {i : Int} (h0 : 0 ≤ i) (h : i < p.size) : p.data.toList[i.toNat]? = some (UInt8.ofNat (byteAt p i).toNat) := by
  have hs : i.toNat < p.data.size := by have : p.size = p.data.size := rfl; omega
  rw [List.getElem?_eq_getElem (by simpa using hs)]
  congr 1
  unfold byteAt
  simp [Array.getD_eq_getD_getElem?, Array.getElem?_eq_getElem hs]
theorem ds_str (p : ByteArray) (a : Int) (n : Nat) (ha : 0 ≤ a) (hn : a + n ≤ p.size) : bytesText (dsOf p a n) = p.extract a.toNat (a + n).toNat := by
  apply ba_ext
  rw [bytesText_list, ext_list]
  apply List.ext_getElem?
  intro j
  rw [List.getElem?_drop, List.getElem?_take, List.getElem?_map]
  by_cases hj : j < n
  · rw [if_pos (by omega)]
    have e : (a + (j : Int)).toNat = a.toNat + j := by omega
    have := byteAt_get (p := p) (i := a + j) (by omega) (by omega)
    rw [e] at this
    rw [this]
    unfold dsOf
    rw [List.getElem?_map, List.getElem?_range hj]
    rfl
  · rw [if_neg (by omega), List.getElem?_eq_none (by rw [ds_len]; omega)]
    rfl
theorem vval_app : ∀ (l : List Int) (c : Int), vval (l ++ [c]) = vval l + 128 ^ l.length * (c % 128)
  | [], c => by simp [vval]
  | x :: l, c => by
    have ih := vval_app l c
    have e : (128 : Int) ^ (l.length + 1) = 128 ^ l.length * 128 := Int.pow_succ ..
    rw [List.cons_append, vval, vval, ih, List.length_cons, e]
    generalize (128 : Int) ^ l.length = P
    have h : P * 128 * (c % 128) = 128 * (P * (c % 128)) := by rw [Int.mul_comm P 128, Int.mul_assoc]
    rw [h]
    omega
theorem vval_pos : ∀ l : List Int, 0 ≤ vval l
  | [] => by simp [vval]
  | x :: l => by
    have ih := vval_pos l
    unfold vval
    omega
theorem vval_lt : ∀ l : List Int, vval l < 128 ^ l.length
  | [] => by simp [vval]
  | x :: l => by
    have ih := vval_lt l
    have e : (128 : Int) ^ (l.length + 1) = 128 ^ l.length * 128 := Int.pow_succ ..
    rw [List.length_cons, e]
    unfold vval
    omega
/-- A text of one number is what is made of the number, where its last byte is no nought (or it is one byte). -/
theorem vd_canon : ∀ (hi : List Int) (c : Int) (d : Nat), (∀ x ∈ hi, 128 ≤ x ∧ x ≤ 255) → 0 ≤ c → c < 128 → (c ≠ 0 ∨ hi = []) → hi.length ≤ d → vd d (vval (hi ++ [c])) = hi ++ [c] := by
  intro hi
  induction hi with
  | nil =>
    intro c d _ h0 h1 _ _
    have e : vval [c] = c := by unfold vval vval; omega
    rw [List.nil_append, e]
    cases d with
    | zero => unfold vd; rw [show c % 256 = c by omega]
    | succ d => unfold vd; rw [if_neg (by omega), show c % 256 = c by omega]
  | cons x l ih =>
    intro c d hx h0 h1 hc hd
    obtain ⟨d, rfl⟩ : ∃ m, d = m + 1 := ⟨d - 1, by simp only [List.length_cons] at hd; omega⟩
    have hx0 := hx x (by simp)
    have hc0 : c ≠ 0 := by
      rcases hc with h | h
      · exact h
      · cases h
    have ih' := ih c d (fun y hy => hx y (by simp [hy])) h0 h1 (.inl hc0) (by simp only [List.length_cons] at hd; omega)
    have hp : 1 ≤ vval (l ++ [c]) := by
      rw [vval_app]
      have h2 := vval_pos l
      have h3 : (1 : Int) ≤ 128 ^ l.length := by have := Int.pow_pos (n := 128) (m := l.length) (show (0 : Int) < 128 by decide); omega
      have h4 : (1 : Int) * 1 ≤ 128 ^ l.length * (c % 128) := Int.mul_le_mul h3 (by omega) (by decide) (by omega)
      omega
    have e : vval ((x :: l) ++ [c]) = x % 128 + 128 * vval (l ++ [c]) := rfl
    rw [e]
    unfold vd
    rw [if_pos (by omega), show (x % 128 + 128 * vval (l ++ [c])) / 128 = vval (l ++ [c]) by omega, ih', show (x % 128 + 128 * vval (l ++ [c])) % 128 + 128 = x by omega]
    rfl
theorem vd_short : ∀ (m d : Nat) (n : Int), 1 ≤ m → 0 ≤ n → n < 128 ^ m → (vd d n).length ≤ m := by
  intro m
  induction m with
  | zero => intro d n h; omega
  | succ m ih =>
    intro d n _ h0 h1
    have e : (128 : Int) ^ (m + 1) = 128 ^ m * 128 := Int.pow_succ ..
    cases d with
    | zero => simp [vd]
    | succ d =>
      unfold vd
      by_cases c : n > 127
      · rw [if_pos c, List.length_cons]
        cases m with
        | zero => simp at h1; omega
        | succ m =>
          have := ih d (n / 128) (by omega) (by omega) (by omega)
          omega
      · rw [if_neg c]; simp
/-- What a number's text at a place says: its value, the place behind it. -/
def rvL (p : ByteArray) (a : Int) : Nat → Nat → Int → Int × Int × Bool
  | 0, _, _ => (0, 0, false)
  | r + 1, i, n =>
    if a + i < (p.size : Int) then
      (if byteAt p (a + i) < 128 then
        (if n + byteAt p (a + i) % 128 * 128 ^ i > 1000000000 then (0, 0, false)
         else if (varT (n + byteAt p (a + i) % 128 * 128 ^ i)).size = i + 1 then (n + byteAt p (a + i) % 128 * 128 ^ i, a + i + 1, true) else (0, 0, false))
       else rvL p a r (i + 1) (n + byteAt p (a + i) % 128 * 128 ^ i))
    else (0, 0, false)
def rvV (p : ByteArray) (a : Int) : Int × Int × Bool := if 0 ≤ a ∧ a ≤ (p.size : Int) then rvL p a 5 0 0 else (0, 0, false)
theorem p128 (i : Nat) (h : i ≤ 5) : (1 : Int) ≤ 128 ^ i ∧ (128 : Int) ^ i ≤ 34359738368 := by
  match i, h with
  | 0, _ => decide
  | 1, _ => decide
  | 2, _ => decide
  | 3, _ => decide
  | 4, _ => decide
  | 5, _ => decide
/-- The number's bytes so far. -/
structure Run (p : ByteArray) (a : Int) (i : Nat) (n : Int) : Prop where
  ha : 0 ≤ a
  hs : a + i ≤ p.size
  hn : n = vval (dsOf p a i)
  hi : ∀ x ∈ dsOf p a i, 128 ≤ x ∧ x ≤ 255
theorem run_add {p : ByteArray} {a : Int} {i : Nat} {n : Int} (h : Run p a i n) : n + byteAt p (a + i) % 128 * 128 ^ i = vval (dsOf p a (i + 1)) := by
  rw [ds_succ, vval_app, ds_len, h.hn, Int.mul_comm]
theorem run_next {p : ByteArray} {a : Int} {i : Nat} {n : Int} (h : Run p a i n) (hc : ¬ byteAt p (a + i) < 128) (hs : a + i < p.size) : Run p a (i + 1) (n + byteAt p (a + i) % 128 * 128 ^ i) where
  ha := h.ha
  hs := by omega
  hn := run_add h
  hi := by
    intro x hx
    rw [ds_succ, List.mem_append] at hx
    rcases hx with hx | hx
    · exact h.hi x hx
    · obtain rfl : x = byteAt p (a + i) := by simpa using hx
      have := byteAt_range p (a + i)
      omega
/-- The text that is made of the number read is the one that was read, or it is shorter. -/
theorem run_text {p : ByteArray} {a : Int} {i : Nat} {n : Int} (h : Run p a i n) (h5 : i ≤ 4) (hc : byteAt p (a + i) < 128) (hs : a + i < p.size) :
    (varT (n + byteAt p (a + i) % 128 * 128 ^ i) = p.extract a.toNat (a + i + 1).toNat) ∨ (varT (n + byteAt p (a + i) % 128 * 128 ^ i)).size ≠ i + 1 := by
  have hr := byteAt_range p (a + i)
  by_cases c : byteAt p (a + i) ≠ 0 ∨ dsOf p a i = []
  · left
    rw [run_add h, ds_succ]
    unfold varT
    rw [vd_canon (dsOf p a i) (byteAt p (a + i)) 8 h.hi hr.1 hc c (by rw [ds_len]; omega), ← ds_succ, ds_str p a (i + 1) h.ha (by omega)]
    rw [show a + ((i + 1 : Nat) : Int) = a + i + 1 by omega]
  · right
    have c0 : byteAt p (a + i) = 0 := Classical.byContradiction fun e => c (.inl e)
    have c1 : dsOf p a i ≠ [] := fun e => c (.inr e)
    have hl : 1 ≤ i := by
      have := ds_len p a i
      cases i with
      | zero => exact absurd (List.eq_nil_of_length_eq_zero this) c1
      | succ i => omega
    unfold varT
    rw [bytesText_size, c0, h.hn]
    have := vd_short i 8 (vval (dsOf p a i)) hl (vval_pos _) (by have := vval_lt (dsOf p a i); rw [ds_len] at this; exact this)
    rw [show vval (dsOf p a i) + 0 % 128 * 128 ^ i = vval (dsOf p a i) by omega]
    omega
theorem run_bound {p : ByteArray} {a : Int} {i : Nat} {n : Int} (h : Run p a i n) (h5 : i ≤ 4) : 0 ≤ n + byteAt p (a + i) % 128 * 128 ^ i ∧ n + byteAt p (a + i) % 128 * 128 ^ i < 34359738368 ∧ 0 ≤ byteAt p (a + i) % 128 * 128 ^ i ∧ byteAt p (a + i) % 128 * 128 ^ i ≤ 34359738368 ∧ 0 ≤ n := by
  have h1 := vval_pos (dsOf p a (i + 1))
  have h2 := vval_lt (dsOf p a (i + 1))
  rw [ds_len] at h2
  have h3 := (p128 (i + 1) (by omega)).2
  have h4 := run_add h
  have h6 : 0 ≤ byteAt p (a + i) % 128 * 128 ^ i := Int.mul_nonneg (by omega) (by have := (p128 i (by omega)).1; omega)
  have h7 := vval_pos (dsOf p a i)
  rw [← h.hn] at h7
  omega
theorem run_zero (p : ByteArray) (a : Int) (h0 : 0 ≤ a) (h1 : a ≤ p.size) : Run p a 0 0 where
  ha := h0
  hs := by omega
  hn := rfl
  hi := fun x hx => by cases hx
theorem rvL_ok (p : ByteArray) (a : Int) : ∀ (r i : Nat) (n : Int), r + i = 5 → Run p a i n → (rvL p a r i n).2.2 = true →
    0 ≤ (rvL p a r i n).1 ∧ (rvL p a r i n).1 ≤ 1000000000 ∧ a < (rvL p a r i n).2.1 ∧ (rvL p a r i n).2.1 ≤ p.size ∧ varT (rvL p a r i n).1 = p.extract a.toNat (rvL p a r i n).2.1.toNat := by
  intro r
  induction r with
  | zero => intro i n _ _ h; cases h
  | succ r ih =>
    intro i n hri hR
    have hb := run_bound hR (by omega)
    unfold rvL
    by_cases c : a + (i : Int) < (p.size : Int)
    · rw [if_pos c]
      by_cases c1 : byteAt p (a + i) < 128
      · rw [if_pos c1]
        by_cases c2 : n + byteAt p (a + i) % 128 * 128 ^ i > 1000000000
        · rw [if_pos c2]; intro h; cases h
        · rw [if_neg c2]
          by_cases c3 : (varT (n + byteAt p (a + i) % 128 * 128 ^ i)).size = i + 1
          · rw [if_pos c3]
            intro _
            refine ⟨hb.1, by omega, by dsimp only; omega, by dsimp only; omega, ?_⟩
            rcases run_text hR (by omega) c1 c with e | e
            · exact e
            · exact absurd c3 e
          · rw [if_neg c3]; intro h; cases h
      · rw [if_neg c1]
        exact ih (i + 1) _ (by omega) (run_next hR c1 c)
    · rw [if_neg c]; intro h; cases h
theorem rv_ok (p : ByteArray) (a : Int) (h : (rvV p a).2.2 = true) : 0 ≤ a ∧ 0 ≤ (rvV p a).1 ∧ (rvV p a).1 ≤ 1000000000 ∧ a < (rvV p a).2.1 ∧ (rvV p a).2.1 ≤ p.size ∧ varT (rvV p a).1 = p.extract a.toNat (rvV p a).2.1.toNat := by
  unfold rvV at h ⊢
  by_cases c : 0 ≤ a ∧ a ≤ (p.size : Int)
  · rw [if_pos c] at h ⊢
    exact ⟨c.1, rvL_ok p a 5 0 0 rfl (run_zero p a c.1 c.2) h⟩
  · rw [if_neg c] at h; cases h
theorem rv_end (p : ByteArray) : (rvV p p.size).2.2 = false := by
  unfold rvV
  rw [if_pos ⟨by omega, by omega⟩]
  unfold rvL
  rw [if_neg (by omega)]
/-! ### What is written is read -/
/-- The value of a number's bytes. -/
theorem vval_vd : ∀ (d : Nat) (n : Int), 0 ≤ n → n < 128 ^ (d + 1) → vval (vd d n) = n
  | 0, n, h0, h => by
    have h : n < 128 := by simpa using h
    unfold vd vval vval; omega
  | d + 1, n, h0, h => by
    unfold vd
    split
    · rw [vval, vval_vd d (n / 128) (by omega) (by have : (128 : Int) ^ (d + 1 + 1) = 128 ^ (d + 1) * 128 := (Int.pow_succ ..); omega)]
      omega
    · unfold vval vval; omega
/-- A number's bytes: all but the last have the high bit. -/
theorem vd_form : ∀ (d : Nat) (n : Int), 0 ≤ n → n < 128 ^ (d + 1) → ∃ hi c, vd d n = hi ++ [c] ∧ (∀ x ∈ hi, 128 ≤ x ∧ x ≤ 255) ∧ 0 ≤ c ∧ c < 128
  | 0, n, h0, h => by
    have h : n < 128 := by simpa using h
    exact ⟨[], n % 256, rfl, by simp, by omega, by omega⟩
  | d + 1, n, h0, h => by
    unfold vd
    split
    · obtain ⟨hi, c, e, h1, h2, h3⟩ := vd_form d (n / 128) (by omega) (by have : (128 : Int) ^ (d + 1 + 1) = 128 ^ (d + 1) * 128 := (Int.pow_succ ..); omega)
      refine ⟨(n % 128 + 128) :: hi, c, by rw [e]; rfl, fun x hx => ?_, h2, h3⟩
      rcases List.mem_cons.1 hx with rfl | hx
      · omega
      · exact h1 x hx
    · exact ⟨[], n % 256, rfl, by simp, by omega, by omega⟩
/-- Bytes that stand at a place. -/
def At (p : ByteArray) (a : Nat) (s : List UInt8) : Prop := ∃ u v, p.data.toList = u ++ s ++ v ∧ u.length = a
theorem At.byte {p : ByteArray} {a : Nat} {s : List UInt8} (h : At p a s) {j : Nat} {x : UInt8} (hx : s[j]? = some x) : byteAt p ((a : Int) + j) = x.toNat ∧ a + j < p.size := by
  obtain ⟨u, v, e, hu⟩ := h
  have hj := (List.getElem?_eq_some_iff.1 hx).1
  have hs : p.size = p.data.toList.length := (Array.length_toList (xs := p.data)).symm
  have hlt : a + j < p.size := by rw [hs, e]; simp; omega
  refine ⟨?_, hlt⟩
  have h1 : p.data.toList[a + j]? = some x := by
    rw [e, List.append_assoc, List.getElem?_append_right (by omega), List.getElem?_append_left (by omega)]
    rw [show a + j - u.length = j by omega]
    exact hx
  have h2 := byteAt_get (p := p) (i := (a : Int) + j) (by omega) (by omega)
  rw [show ((a : Int) + j).toNat = a + j by omega, h1] at h2
  have h3 := byteAt_range p ((a : Int) + j)
  have h4 : x = UInt8.ofNat (byteAt p ((a : Int) + j)).toNat := Option.some.inj h2
  have h5 := congrArg UInt8.toNat h4
  rw [UInt8.toNat_ofNat'] at h5
  omega
theorem At.bytes {p : ByteArray} {a : Nat} {s : ByteArray} (h : At p a s.data.toList) : p.extract a (a + s.size) = s ∧ a + s.size ≤ p.size := by
  obtain ⟨u, v, e, hu⟩ := h
  have hs : s.size = s.data.toList.length := (Array.length_toList (xs := s.data)).symm
  have hp : p.size = p.data.toList.length := (Array.length_toList (xs := p.data)).symm
  refine ⟨?_, by rw [hp, e, hs]; simp; omega⟩
  apply ba_ext
  rw [ext_list, e]
  rw [List.take_append_of_le_length (by simp; omega), List.take_of_length_le (by simp; omega), List.drop_append, List.drop_of_length_le (by omega)]
  simp [hu]
theorem At.app {p : ByteArray} {a : Nat} {s t : List UInt8} (h : At p a (s ++ t)) : At p a s ∧ At p (a + s.length) t := by
  obtain ⟨u, v, e, hu⟩ := h
  exact ⟨⟨u, t ++ v, by rw [e]; simp, hu⟩, ⟨u ++ s, v, by rw [e]; simp, by simp [hu]⟩⟩
theorem rv_at {p : ByteArray} {a : Nat} {n : Int} (h0 : 0 ≤ n) (h1 : n ≤ 1000000000) (h : At p a (varT n).data.toList) : rvV p a = (n, (a : Int) + (varT n).size, true) := by
  obtain ⟨hi, c, hv, hh, c0, c1⟩ := vd_form 8 n h0 (by have : (128 : Int) ^ (8 + 1) = 9223372036854775808 := (by decide); omega)
  have hval := vval_vd 8 n h0 (by have : (128 : Int) ^ (8 + 1) = 9223372036854775808 := (by decide); omega)
  have hlen := vd_short 5 8 n (by omega) h0 (by have : (128 : Int) ^ 5 = 34359738368 := (by decide); omega)
  rw [hv] at hval hlen
  simp at hlen
  have hb := h.bytes
  have hz : (varT n).size = hi.length + 1 := by unfold varT; rw [bytesText_size, hv]; simp
  have hbyte : ∀ (j : Nat) x, (hi ++ [c])[j]? = some x → byteAt p ((a : Int) + j) = x := fun j x hx => by
    have h2 : (varT n).data.toList[j]? = some (UInt8.ofNat x.toNat) := by
      unfold varT
      rw [bytesText_list, hv, List.getElem?_map, hx]; rfl
    have h3 := (h.byte h2).1
    have hxm : 0 ≤ x ∧ x ≤ 255 := by
      rcases List.mem_append.1 (List.mem_of_getElem? hx) with hm | hm
      · have := hh x hm; omega
      · simp at hm; omega
    rw [h3, UInt8.toNat_ofNat']
    have : x.toNat % 256 = x.toNat := Nat.mod_eq_of_lt (by omega)
    simp only [show (2 : Nat) ^ 8 = 256 from rfl]
    omega
  unfold rvV
  rw [if_pos ⟨by omega, by omega⟩]
  have key : ∀ (r i : Nat) (m : Int), r + i = 5 → i ≤ hi.length → Run p a i m → rvL p a r i m = (n, (a : Int) + (varT n).size, true) := by
    intro r
    induction r with
    | zero => intro i m hri hil _; omega
    | succ r ih =>
      intro i m hri hil hR
      have hlt : (a : Int) + i < p.size := by omega
      unfold rvL
      rw [if_pos hlt]
      rcases Nat.lt_or_ge i hi.length with hc | hc
      · have hx : (hi ++ [c])[i]? = some hi[i] := by rw [List.getElem?_append_left hc]; exact List.getElem?_eq_getElem hc
        have hbt := hbyte i _ hx
        have := hh _ (List.getElem_mem hc)
        have hnb : ¬ byteAt p ((a : Int) + i) < 128 := by omega
        rw [if_neg hnb]
        exact ih (i + 1) _ (by omega) (by omega) (run_next hR hnb hlt)
      · obtain rfl : i = hi.length := by omega
        have hx : (hi ++ [c])[hi.length]? = some c := by simp
        have hbt := hbyte _ _ hx
        have hds : dsOf p a (hi.length + 1) = hi ++ [c] := by
          apply List.ext_getElem?
          intro j
          unfold dsOf
          rw [List.getElem?_map]
          by_cases hj : j < hi.length + 1
          · rw [List.getElem?_range hj]
            have hj2 : j < (hi ++ [c]).length := by simpa using hj
            have hx2 : (hi ++ [c])[j]? = some (hi ++ [c])[j] := List.getElem?_eq_getElem hj2
            rw [hx2]
            simp only [Option.map_some]
            rw [hbyte j _ hx2]
          · rw [List.getElem?_eq_none (by simp; omega), List.getElem?_eq_none (by simp; omega)]; rfl
        have hadd := run_add hR
        rw [hds, hval] at hadd
        rw [hadd, if_pos (by omega), if_neg (by omega), if_pos hz, hz]
        congr 1
  exact key 5 0 0 rfl (Nat.zero_le _) (run_zero p a (by omega) (by omega))
end Go.Tm

/- Records as texts, texts in frames, frames in a log: what is written and read. -/
namespace Go.Tm
open Go Go.Abs
set_option linter.unusedVariables false
set_option linter.unusedSimpArgs false
/-! ### Short texts -/
/-- What is read of a short text at a place. -/
def rsV (p : ByteArray) (a : Int) : ByteArray × Int × Bool :=
  if (rvV p a).2.2 = true then
    (if (rvV p a).1 > 20000 then (⟨#[]⟩, 0, false)
     else if (rvV p a).1 > (p.size : Int) - (rvV p a).2.1 then (⟨#[]⟩, 0, false)
     else (p.extract (rvV p a).2.1.toNat ((rvV p a).2.1 + (rvV p a).1).toNat, (rvV p a).2.1 + (rvV p a).1, true))
  else (⟨#[]⟩, 0, false)
theorem ex_app (p : ByteArray) (a b c : Nat) (h1 : a ≤ b) (h2 : b ≤ c) : p.extract a b ++ p.extract b c = p.extract a c := by
  rw [ByteArray.extract_append_extract, Nat.min_eq_left h1, Nat.max_eq_right h2]
theorem rs_ok (p : ByteArray) (a : Int) (h : (rsV p a).2.2 = true) : 0 ≤ a ∧ (rsV p a).1.size ≤ 20000 ∧ a < (rsV p a).2.1 ∧ (rsV p a).2.1 ≤ p.size ∧ varT (rsV p a).1.size ++ (rsV p a).1 = p.extract a.toNat (rsV p a).2.1.toNat := by
  have hv := rv_ok p a
  unfold rsV at h ⊢
  generalize rvV p a = v at h hv ⊢
  obtain ⟨n, nx, b⟩ := v
  cases b with
  | false => cases h
  | true =>
    obtain ⟨h0, h1, h2, h3, h4, h5⟩ := hv rfl
    dsimp only at h h1 h2 h3 h4 h5 ⊢
    rw [if_pos rfl] at h ⊢
    by_cases c1 : n > 20000
    · rw [if_pos c1] at h; cases h
    · rw [if_neg c1] at h ⊢
      by_cases c2 : n > (p.size : Int) - nx
      · rw [if_pos c2] at h; cases h
      · rw [if_neg c2]
        dsimp only
        have hz : (p.extract nx.toNat (nx + n).toNat).size = n.toNat := by rw [ByteArray.size_extract]; omega
        refine ⟨h0, by omega, by omega, by omega, ?_⟩
        rw [hz, show ((n.toNat : Nat) : Int) = n by omega, h5, ex_app p a.toNat nx.toNat (nx + n).toNat (by omega) (by omega)]
theorem rs_no (p : ByteArray) (a : Int) (h : (rsV p a).2.2 = false) : rsV p a = (⟨#[]⟩, 0, false) := by
  unfold rsV at h ⊢
  repeat' split at h
  · rename_i h1 h2; rw [if_pos h1, if_pos h2]
  · rename_i h1 h2 h3; rw [if_pos h1, if_neg h2, if_pos h3]
  · cases h
  · rename_i h1; rw [if_neg h1]
theorem rs_size (p : ByteArray) (a : Int) : (rsV p a).1.size ≤ 20000 := by
  cases h : (rsV p a).2.2 with
  | true => exact (rs_ok p a h).2.1
  | false => rw [rs_no p a h]; exact Nat.zero_le _
theorem size_list (s : ByteArray) : s.size = s.data.toList.length := (Array.length_toList (xs := s.data)).symm
theorem rs_at {p : ByteArray} {a : Nat} {s : ByteArray} (hs : s.size ≤ 20000) (h : At p a ((varT s.size).data.toList ++ s.data.toList)) : rsV p a = (s, (a : Int) + (varT s.size).size + s.size, true) := by
  obtain ⟨h1, h2⟩ := h.app
  have hv := rv_at (p := p) (a := a) (n := s.size) (by omega) (by omega) h1
  rw [← size_list] at h2
  obtain ⟨e, hle⟩ := h2.bytes
  unfold rsV
  rw [hv]
  dsimp only
  rw [if_pos rfl, if_neg (by omega), if_neg (by omega)]
  congr 1
  all_goals (rw [← e]; congr 1 <;> omega)
/-! ### A record's text -/
def editT (e : Edt) : ByteArray := bytesText [e.kind % 256, e.who % 256] ++ (varT e.path.size ++ e.path) ++ (varT e.to.size ++ e.to) ++ varT e.num
def zEdt : Edt := ⟨0, ⟨#[]⟩, ⟨#[]⟩, 0, 0⟩
def rEdt (p : ByteArray) : Edt := ⟨byteAt p 0, (rsV p 2).1, (rsV p (rsV p 2).2.1).1, (rvV p (rsV p (rsV p 2).2.1).2.1).1, byteAt p 1⟩
def rEnd (p : ByteArray) : Int × Int × Bool := rvV p (rsV p (rsV p 2).2.1).2.1
/-- What is read of a record's text. -/
def reV (p : ByteArray) : Edt × Bool :=
  if (p.size : Int) < 2 then (zEdt, false)
  else if (rsV p 2).2.2 = true ∧ (rsV p (rsV p 2).2.1).2.2 = true ∧ (rEnd p).2.2 = true ∧ (rEnd p).2.1 = (p.size : Int) ∧ editB (rEdt p) = true then (rEdt p, true)
  else (zEdt, false)
theorem app_list (s t : ByteArray) : (s ++ t).data.toList = s.data.toList ++ t.data.toList := ba_app s t
/-- The text of what was read is what was read, as far as it goes. -/
theorem re_back (p : ByteArray) (h0 : 2 ≤ p.size) (c1 : (rsV p 2).2.2 = true) (c2 : (rsV p (rsV p 2).2.1).2.2 = true) (c3 : (rEnd p).2.2 = true) :
    editT (rEdt p) = p.extract 0 (rEnd p).2.1.toNat ∧ 0 ≤ (rEnd p).2.1 ∧ (rEnd p).2.1 ≤ p.size := by
  unfold rEnd at c3 ⊢
  obtain ⟨_, _, a3, a4, a5⟩ := rs_ok p 2 c1
  obtain ⟨_, _, b3, b4, b5⟩ := rs_ok p (rsV p 2).2.1 c2
  obtain ⟨_, _, _, d3, d4, d5⟩ := rv_ok p (rsV p (rsV p 2).2.1).2.1 c3
  refine ⟨?_, by omega, d4⟩
  have e0 : bytesText [byteAt p 0 % 256, byteAt p 1 % 256] = p.extract 0 2 := by
    have r0 := byteAt_range p 0
    have r1 := byteAt_range p 1
    rw [show byteAt p 0 % 256 = byteAt p 0 by omega, show byteAt p 1 % 256 = byteAt p 1 by omega]
    exact ds_str p 0 2 (by omega) (by omega)
  unfold editT rEdt
  dsimp only
  rw [e0, a5, show (2 : Int).toNat = 2 from rfl, ex_app p 0 2 _ (by omega) (by omega), b5, ex_app p 0 _ _ (by omega) (by omega), d5, ex_app p 0 _ _ (by omega) (by omega)]
theorem re_ok {p : ByteArray} (h : (reV p).2 = true) : (reV p).1 = rEdt p ∧ editB (rEdt p) = true ∧ editT (rEdt p) = p := by
  unfold reV at h ⊢
  split at h
  · cases h
  rename_i h0
  split at h
  · rename_i h1
    rw [if_neg h0, if_pos h1]
    obtain ⟨c1, c2, c3, c4, c5⟩ := h1
    refine ⟨rfl, c5, ?_⟩
    rw [(re_back p (by omega) c1 c2 c3).1, c4]
    exact ByteArray.extract_zero_size
  · cases h
theorem joinP_size : ∀ {ns : List ByteArray}, Nms ns → ns.length ≤ 4 → (joinP ns).size ≤ 36 := by
  intro ns h hl
  by_cases h0 : ns = []
  · subst h0; exact (by decide : (1 : Nat) ≤ 36)
  · rw [size_list, joinP_list h0]
    have key : ∀ (ns : List ByteArray), Nms ns → (catL (ns.map (·.data.toList))).length ≤ 9 * ns.length := by
      intro ns
      induction ns with
      | nil => intro _; simp [catL]
      | cons x r ih =>
        intro h
        have h1 := ih fun y hy => h y (by simp [hy])
        have h2 := h x (by simp)
        unfold nmB at h2
        rw [Bool.and_eq_true, inB_iff, size_list] at h2
        rw [List.map_cons, catL_cons]
        simp only [List.length_cons, List.length_append]
        omega
    have := key ns h
    omega
theorem split_size {p : ByteArray} {ns : List ByteArray} (h : splitP p = some ns) : p.size ≤ 36 := by
  obtain ⟨h1, h2, h3⟩ := splitP_some h
  rw [← h3]; exact joinP_size h1 h2
theorem named_size {p : ByteArray} (h : namedP p = true) : p.size ≤ 36 := by
  obtain ⟨ns, nm, hs⟩ := namedP_iff.1 h
  exact split_size hs
theorem empty_size : (⟨#[]⟩ : ByteArray).size = 0 := rfl
theorem editB_small {e : Edt} (h : editB e = true) : e.path.size ≤ 36 ∧ e.to.size ≤ 36 ∧ (0 ≤ e.num ∧ e.num ≤ 1000) ∧ (1 ≤ e.kind ∧ e.kind ≤ 10) ∧ 0 ≤ e.who ∧ e.who ≤ 9 := by
  have hk := editB_kinds h
  have hsl : slash.size ≤ 36 := by decide
  unfold editB at h
  split at h
  · cases h
  split at h
  · simp only [decide_eq_true_eq] at h
    rw [h.1, h.2.1, h.2.2.1, h.2.2.2]
    exact ⟨hsl, by decide, by omega, hk, by omega⟩
  rename_i h10
  split at h
  · cases h
  rename_i hc
  simp only [not_or, not_and, Bool.not_eq_false, Decidable.not_not] at hc
  obtain ⟨g1, g2, g3⟩ := hc
  have hp : e.path.size ≤ 36 := by
    cases hn : namedP e.path with
    | true => exact named_size hn
    | false =>
      have := g1 hn
      by_cases c2 : e.path = slash
      · rw [c2]; exact hsl
      · exact absurd (fun _ => c2) this
  have ht : e.to.size ≤ 36 := by
    by_cases c : e.kind = 3
    · have : namedP e.to = true := by simpa [c] using g2
      exact named_size this
    · rw [g3 c]; decide
  refine ⟨hp, ht, ?_⟩
  split at h
  · simp only [Bool.and_eq_true, inB_iff, decide_eq_true_eq] at h; omega
  split at h
  · simp only [Bool.and_eq_true, inB_iff, decide_eq_true_eq] at h; omega
  split at h
  · simp only [Bool.and_eq_true, inB_iff, decide_eq_true_eq] at h; omega
  split at h
  · simp only [Bool.and_eq_true, inB_iff, decide_eq_true_eq] at h; omega
  · simp only [Bool.and_eq_true, inB_iff, decide_eq_true_eq] at h; omega
theorem editT_size {e : Edt} (h : editB e = true) : 1 ≤ (editT e).size ∧ (editT e).size ≤ 101 := by
  obtain ⟨h1, h2, _⟩ := editB_small h
  have a1 := varT_size e.path.size
  have a2 := varT_size e.to.size
  have a3 := varT_size e.num
  unfold editT
  simp only [ByteArray.size_append, bytesText_size, List.length_cons, List.length_nil]
  omega
/-- A record comes back from its text. -/
theorem re_edit {e : Edt} (h : editB e = true) : reV (editT e) = (e, true) := by
  obtain ⟨h1, h2, h3, h4, h5⟩ := editB_small h
  have hl : (editT e).data.toList = [UInt8.ofNat (e.kind % 256).toNat, UInt8.ofNat (e.who % 256).toNat] ++ (((varT e.path.size).data.toList ++ e.path.data.toList) ++ (((varT e.to.size).data.toList ++ e.to.data.toList) ++ (varT e.num).data.toList)) := by
    unfold editT
    simp only [app_list, bytesText_list, List.map_cons, List.map_nil, List.append_assoc]
  have A0 : At (editT e) 0 ([UInt8.ofNat (e.kind % 256).toNat, UInt8.ofNat (e.who % 256).toNat] ++ (((varT e.path.size).data.toList ++ e.path.data.toList) ++ (((varT e.to.size).data.toList ++ e.to.data.toList) ++ (varT e.num).data.toList))) := ⟨[], [], by rw [hl]; simp, rfl⟩
  obtain ⟨B0, A1⟩ := A0.app
  obtain ⟨B1, A2⟩ := A1.app
  obtain ⟨B2, A3⟩ := A2.app
  have k0 : byteAt (editT e) 0 = e.kind := by
    have := (B0.byte (j := 0) rfl).1
    simp only [Int.natCast_zero, Int.add_zero] at this
    rw [this, UInt8.toNat_ofNat']
    have : (e.kind % 256).toNat % 2 ^ 8 = (e.kind % 256).toNat := Nat.mod_eq_of_lt (by have : (2 : Nat) ^ 8 = 256 := rfl; omega)
    omega
  have k1 : byteAt (editT e) 1 = e.who := by
    have := (B0.byte (j := 1) rfl).1
    rw [show ((0 : Nat) : Int) + ((1 : Nat) : Int) = 1 from rfl] at this
    rw [this, UInt8.toNat_ofNat']
    have : (e.who % 256).toNat % 2 ^ 8 = (e.who % 256).toNat := Nat.mod_eq_of_lt (by have : (2 : Nat) ^ 8 = 256 := rfl; omega)
    omega
  have hsz : (editT e).size = 2 + ((varT e.path.size).size + e.path.size) + ((varT e.to.size).size + e.to.size) + (varT e.num).size := by
    unfold editT
    simp only [ByteArray.size_append, bytesText_size, List.length_cons, List.length_nil]
  have r1 := rs_at (a := 2) (s := e.path) (by omega) B1
  have q1 : (rsV (editT e) 2).2.1 = ((2 + ((varT e.path.size).size + e.path.size) : Nat) : Int) := by
    have : rsV (editT e) ((2 : Nat) : Int) = rsV (editT e) 2 := rfl
    rw [← this, r1]; dsimp only; omega
  have n1 : (rsV (editT e) 2).1 = e.path ∧ (rsV (editT e) 2).2.2 = true := by
    have : rsV (editT e) ((2 : Nat) : Int) = rsV (editT e) 2 := rfl
    rw [← this, r1]; exact ⟨rfl, rfl⟩
  have l1 : 0 + [UInt8.ofNat (e.kind % 256).toNat, UInt8.ofNat (e.who % 256).toNat].length + ((varT e.path.size).data.toList ++ e.path.data.toList).length = 2 + ((varT e.path.size).size + e.path.size) := by
    simp only [List.length_append, ← size_list, List.length_cons, List.length_nil] <;> omega
  rw [l1] at B2 A3
  have r2 := rs_at (s := e.to) (by omega) B2
  rw [← q1] at r2
  have l2 : 2 + ((varT e.path.size).size + e.path.size) + ((varT e.to.size).data.toList ++ e.to.data.toList).length = 2 + ((varT e.path.size).size + e.path.size) + ((varT e.to.size).size + e.to.size) := by
    simp only [List.length_append, ← size_list]
  rw [l2] at A3
  have r3 := rv_at (n := e.num) h3.1 (by omega) A3
  have q2 : (rsV (editT e) (rsV (editT e) 2).2.1).2.1 = ((2 + ((varT e.path.size).size + e.path.size) + ((varT e.to.size).size + e.to.size) : Nat) : Int) := by
    rw [r2, q1]; dsimp only; omega
  rw [← q2] at r3
  have hE : rEdt (editT e) = e := by
    unfold rEdt
    rw [k0, k1, n1.1, r3, r2]
  unfold reV
  rw [if_neg (by omega), if_pos ⟨n1.2, by rw [r2], by unfold rEnd; rw [r3], by unfold rEnd; rw [r3, q2]; dsimp only; omega, by rw [hE]; exact h⟩, hE]
/-! ### Sums and frames -/
def sumH (s : Int) : Int := if s.tmod 2 = 1 then xorI .u32 (s.tdiv 2) 3558460437 else s.tdiv 2
def sumR : Nat → Int → Int
  | 0, s => s
  | n + 1, s => sumR n (sumH s)
def sumF (t : ByteArray) : Nat → Int → Int → Int
  | 0, _, s => s
  | n + 1, i, s => sumF t n (i + 1) (sumR 8 (xorI .u32 s (byteAt t i)))
def sumV (t : ByteArray) : Int := sumF t t.size 0 4294967295
def fourT (x : Int) : ByteArray := bytesText [IntKind.u8.wrap (shrI .u32 x 24), IntKind.u8.wrap (shrI .u32 x 16), IntKind.u8.wrap (shrI .u32 x 8), IntKind.u8.wrap x]
theorem fourT_size (x : Int) : (fourT x).size = 4 := by unfold fourT; rw [bytesText_size]; rfl
def frV (t : ByteArray) : ByteArray × Bool := if 1 ≤ (t.size : Int) ∧ (t.size : Int) ≤ 9000 then (varT t.size ++ fourT (sumV t) ++ t, true) else (⟨#[]⟩, false)
theorem fr_ok {t : ByteArray} (h : 1 ≤ t.size ∧ t.size ≤ 9000) : frV t = (varT t.size ++ fourT (sumV t) ++ t, true) := by
  unfold frV; rw [if_pos (by omega)]
theorem fr_size (t : ByteArray) : (frV t).1.size ≤ 9013 := by
  have := varT_size t.size
  have := fourT_size (sumV t)
  unfold frV
  split
  · simp only [ByteArray.size_append]; omega
  · exact Nat.zero_le _
/-- The records in a file, and where they end. -/
def unL (p : ByteArray) : Nat → List ByteArray → Int → List ByteArray × Int
  | 0, acc, a => (acc, a)
  | r + 1, acc, a =>
    if (rvV p a).2.2 = true then
      (if (rvV p a).1 > (p.size : Int) - (rvV p a).2.1 - 4 then (acc, a)
       else if (frV (p.extract ((rvV p a).2.1 + 4).toNat ((rvV p a).2.1 + 4 + (rvV p a).1).toNat)).2 = true ∧
          (frV (p.extract ((rvV p a).2.1 + 4).toNat ((rvV p a).2.1 + 4 + (rvV p a).1).toNat)).1 = p.extract a.toNat ((rvV p a).2.1 + 4 + (rvV p a).1).toNat then
           unL p r (acc ++ [p.extract ((rvV p a).2.1 + 4).toNat ((rvV p a).2.1 + 4 + (rvV p a).1).toNat]) ((rvV p a).2.1 + 4 + (rvV p a).1)
       else (acc, a))
    else (acc, a)
def unV (p : ByteArray) : List ByteArray × Int := if (p.size : Int) > 20000 then ([], 0) else unL p (p.size + 1) [] 0
theorem un_ok (p : ByteArray) : ∀ (r : Nat) (acc : List ByteArray) (a : Int), 0 ≤ a → a ≤ p.size → (acc.length : Int) ≤ a → (∀ t ∈ acc, t.size ≤ p.size) →
    (unL p r acc a).1.length ≤ p.size ∧ ∀ t ∈ (unL p r acc a).1, t.size ≤ p.size := by
  intro r
  induction r with
  | zero => intro acc a h0 h1 h2 h3; exact ⟨by unfold unL; dsimp only; omega, h3⟩
  | succ r ih =>
    intro acc a h0 h1 h2 h3
    have hv := rv_ok p a
    have stop : acc.length ≤ p.size ∧ ∀ t ∈ acc, t.size ≤ p.size := ⟨by omega, h3⟩
    unfold unL
    generalize rvV p a = v at hv ⊢
    obtain ⟨n, nx, b⟩ := v
    dsimp only at hv ⊢
    cases b with
    | false => exact stop
    | true =>
      obtain ⟨_, g1, g2, g3, g4, _⟩ := hv rfl
      rw [if_pos rfl]
      by_cases c2 : n > (p.size : Int) - nx - 4
      · rw [if_pos c2]; exact stop
      · rw [if_neg c2]
        split
        · refine ih _ _ (by omega) (by omega) (by rw [List.length_append]; simp only [List.length_cons, List.length_nil]; omega) (fun t ht => ?_)
          rw [List.mem_append] at ht
          rcases ht with ht | ht
          · exact h3 t ht
          · obtain rfl : t = p.extract (nx + 4).toNat (nx + 4 + n).toNat := by simpa using ht
            rw [ByteArray.size_extract]
            omega
        · exact stop
theorem unV_ok (p : ByteArray) : (unV p).1.length ≤ 20000 ∧ ∀ t ∈ (unV p).1, t.size ≤ 20000 := by
  unfold unV
  by_cases c : (p.size : Int) > 20000
  · rw [if_pos c]; exact ⟨Nat.zero_le _, fun t ht => by cases ht⟩
  · rw [if_neg c]
    have h := un_ok p (p.size + 1) [] 0 (by omega) (by omega) (by simp) (fun t ht => by cases ht)
    exact ⟨by omega, fun t ht => by have := h.2 t ht; omega⟩
/-- The records of texts, up to the first that is none; and how far they go. -/
def rlL : List ByteArray → List Edt × Int → List Edt × Int
  | [], p => p
  | t :: r, p => if (reV t).2 = true then rlL r (p.1 ++ [(reV t).1], p.2 + ((frV t).1.size : Int)) else p
def rlV (p : ByteArray) : List Edt × Int := rlL (unV p).1 ([], 0)
theorem rlL_ok : ∀ (l : List ByteArray) (p : List Edt × Int), (∀ e ∈ p.1, editB e = true) → ∀ e ∈ (rlL l p).1, editB e = true
  | [], p, h => h
  | t :: r, p, h => by
    unfold rlL
    split
    · rename_i c
      refine rlL_ok r _ fun e he => ?_
      rcases List.mem_append.1 he with he | he
      · exact h e he
      · obtain ⟨h1, h2, _⟩ := re_ok c
        simp at he
        rw [he, h1]; exact h2
    · exact h
theorem rlV_ok (p : ByteArray) : ∀ e ∈ (rlV p).1, editB e = true := rlL_ok _ _ (by simp)
theorem rlL_len : ∀ (l : List ByteArray) (p : List Edt × Int), (rlL l p).1.length ≤ p.1.length + l.length
  | [], p => by simp [rlL]
  | t :: r, p => by
    unfold rlL
    split
    · have := rlL_len r (p.1 ++ [(reV t).1], p.2 + ((frV t).1.size : Int))
      simp at this ⊢; omega
    · simp <;> omega
/-! ### A log of records -/
def frT (e : Edt) : List UInt8 := (frV (editT e)).1.data.toList
def logB (l : List Edt) : List UInt8 := l.flatMap frT
theorem frT_eq {e : Edt} (h : editB e = true) : frT e = (varT (editT e).size).data.toList ++ (fourT (sumV (editT e))).data.toList ++ (editT e).data.toList := by
  have := editT_size h
  unfold frT
  rw [fr_ok (by omega)]
  simp only [app_list]
theorem un_step {p : ByteArray} {a : Nat} {e : Edt} (he : editB e = true) (h : At p a (frT e)) (r : Nat) (acc : List ByteArray) : unL p (r + 1) acc a = unL p r (acc ++ [editT e]) ((a + (frT e).length : Nat) : Int) := by
  have hz := editT_size he
  have hlen : (frT e).length = (varT (editT e).size).size + 4 + (editT e).size := by
    rw [frT_eq he]
    simp only [List.length_append, ← size_list, fourT_size]
  have hb := At.bytes (s := (frV (editT e)).1) h
  have hfs : (frV (editT e)).1.size = (frT e).length := size_list _
  rw [hfs] at hb
  rw [frT_eq he] at h
  obtain ⟨h1, h2⟩ := h.app
  obtain ⟨h1, _⟩ := h1.app
  have hv := rv_at (n := (editT e).size) (by omega) (by omega) h1
  have h3 := h2.bytes
  simp only [List.length_append, ← size_list, fourT_size] at h3
  have e1 : ((a : Int) + (varT (editT e).size).size + 4).toNat = a + ((varT (editT e).size).size + 4) := by omega
  have e2 : ((a : Int) + (varT (editT e).size).size + 4 + (editT e).size).toNat = a + ((varT (editT e).size).size + 4) + (editT e).size := by omega
  have e3 : a + ((varT (editT e).size).size + 4) + (editT e).size = a + (frT e).length := by omega
  have e4 : (a : Int) + (varT (editT e).size).size + 4 + (editT e).size = ((a + (frT e).length : Nat) : Int) := by omega
  conv => lhs; unfold unL
  rw [hv]
  dsimp only
  rw [if_pos rfl, if_neg (by omega), e1, e2, h3.1, e3, Int.toNat_natCast, hb.1, if_pos ⟨by rw [fr_ok (by omega)], rfl⟩, e4]
/-- Nothing more is read here. -/
def Ends (p : ByteArray) (a : Int) : Prop := (rvV p a).2.2 = false ∨ (rvV p a).1 > (p.size : Int) - (rvV p a).2.1 - 4
theorem un_end {p : ByteArray} {a : Int} (h : Ends p a) (r : Nat) (acc : List ByteArray) : unL p r acc a = (acc, a) := by
  cases r with
  | zero => rfl
  | succ r =>
    unfold unL
    rcases h with h | h
    · rw [if_neg (by rw [h]; decide)]
    · by_cases c : (rvV p a).2.2 = true
      · rw [if_pos c, if_pos h]
      · rw [if_neg c]
theorem un_log {p : ByteArray} (l : List Edt) : ∀ (a r : Nat) (acc : List ByteArray), (∀ e ∈ l, editB e = true) → At p a (logB l) → Ends p ((a + (logB l).length : Nat) : Int) → l.length ≤ r → unL p r acc a = (acc ++ l.map editT, ((a + (logB l).length : Nat) : Int)) := by
  induction l with
  | nil =>
    intro a r acc _ _ hE _
    have e0 : (logB []).length = 0 := rfl
    rw [e0, Nat.add_zero] at hE ⊢
    rw [un_end hE r acc]
    simp
  | cons e l ih =>
    intro a r acc he h hE hr
    obtain ⟨r, rfl⟩ : ∃ k, r = k + 1 := ⟨r - 1, by simp at hr; omega⟩
    have hc : logB (e :: l) = frT e ++ logB l := by simp [logB]
    rw [hc] at h hE ⊢
    obtain ⟨h1, h2⟩ := h.app
    have hl : a + (frT e ++ logB l).length = a + (frT e).length + (logB l).length := by rw [List.length_append]; omega
    rw [hl] at hE ⊢
    have hs := un_step (he e (by simp)) h1 r acc
    have hi := ih (a + (frT e).length) r (acc ++ [editT e]) (fun x hx => he x (by simp [hx])) h2 hE (by simpa using hr)
    rw [hs, hi, List.map_cons, List.append_assoc]
    rfl
theorem rl_texts : ∀ (l : List Edt) (p : List Edt × Int), (∀ e ∈ l, editB e = true) → rlL (l.map editT) p = (p.1 ++ l, p.2 + ((logB l).length : Int))
  | [], p, _ => by simp [rlL, logB]
  | e :: l, p, h => by
    rw [List.map_cons, rlL, re_edit (h e (by simp)), if_pos rfl, rl_texts l _ fun x hx => h x (by simp [hx])]
    have hfs : (frV (editT e)).1.size = (frT e).length := size_list _
    have hc : logB (e :: l) = frT e ++ logB l := by simp [logB]
    simp [hc, hfs]
    omega
theorem frT_len {e : Edt} (h : editB e = true) : 1 ≤ (frT e).length ∧ (frT e).length ≤ 114 := by
  have := editT_size h
  have := varT_size (editT e).size
  rw [frT_eq h]
  simp only [List.length_append, ← size_list, fourT_size]
  omega
theorem logB_len : ∀ {l : List Edt}, (∀ e ∈ l, editB e = true) → l.length ≤ (logB l).length ∧ (logB l).length ≤ 114 * l.length
  | [], _ => by simp [logB]
  | e :: l, h => by
    have ih := logB_len (l := l) fun x hx => h x (by simp [hx])
    have h1 := frT_len (h e (by simp))
    have hc : logB (e :: l) = frT e ++ logB l := by simp [logB]
    rw [hc]
    simp
    omega
/-- A log of records, with something behind it that is no record: the records are read. -/
theorem rl_log {p : ByteArray} {l : List Edt} {v : List UInt8} (he : ∀ e ∈ l, editB e = true) (hp : p.data.toList = logB l ++ v) (hs : p.size ≤ 20000) (hE : Ends p ((logB l).length : Int)) : rlV p = (l, ((logB l).length : Int)) := by
  have hl := logB_len he
  have hsz : p.size = (logB l).length + v.length := by rw [size_list, hp]; simp
  unfold rlV unV
  rw [if_neg (by omega)]
  have := un_log (p := p) l 0 (p.size + 1) [] he ⟨[], v, by rw [hp]; simp, rfl⟩ (by simpa using hE) (by omega)
  simp only [Int.natCast_zero, Nat.zero_add] at this
  rw [this]
  dsimp only
  rw [List.nil_append, rl_texts l _ he]
  simp
/-- A torn frame is none. -/
theorem torn {p : ByteArray} {e : Edt} (he : editB e = true) {u s : List UInt8} (hp : p.data.toList = u ++ s) (hs : ∃ w, w ≠ [] ∧ frT e = s ++ w) : Ends p (u.length : Int) := by
  obtain ⟨w, hw, hf⟩ := hs
  have hz := editT_size he
  have hlen : (frT e).length = (varT (editT e).size).size + 4 + (editT e).size := by
    rw [frT_eq he]
    simp only [List.length_append, ← size_list, fourT_size]
  have hpz : p.size = u.length + s.length := by rw [size_list, hp]; simp
  have hwl : 0 < w.length := List.length_pos_iff.2 hw
  have hfl : (frT e).length = s.length + w.length := by rw [hf]; simp
  have hfe := frT_eq he
  rw [hf] at hfe
  rcases Nat.lt_or_ge s.length (varT (editT e).size).size with hc | hc
  · left
    obtain ⟨hi, c, hv, hh, c0, c1⟩ := vd_form 8 (editT e).size (by omega) (by have : (128 : Int) ^ (8 + 1) = 9223372036854775808 := (by decide); omega)
    have hlen5 := vd_short 5 8 (editT e).size (by omega) (by omega) (by have : (128 : Int) ^ 5 = 34359738368 := (by decide); omega)
    rw [hv] at hlen5
    simp at hlen5
    have hvz : (varT (editT e).size).size = hi.length + 1 := by unfold varT; rw [bytesText_size, hv]; simp
    have hbyte : ∀ (j : Nat), j < s.length → 128 ≤ byteAt p ((u.length : Int) + j) := fun j hj => by
      have hx : s[j]? = some s[j] := List.getElem?_eq_getElem hj
      have hA : At p u.length s := ⟨u, [], by rw [hp]; simp, rfl⟩
      rw [(hA.byte hx).1]
      have h1 : (s ++ w)[j]? = some s[j] := by rw [List.getElem?_append_left hj]; exact hx
      rw [hfe, List.append_assoc, List.getElem?_append_left (by rw [← size_list]; omega)] at h1
      unfold varT at h1
      rw [bytesText_list, hv, List.getElem?_map, List.getElem?_append_left (by omega)] at h1
      have hj2 : j < hi.length := by omega
      rw [List.getElem?_eq_getElem hj2] at h1
      simp only [Option.map_some, Option.some.injEq] at h1
      have := hh _ (List.getElem_mem hj2)
      rw [← h1, UInt8.toNat_ofNat']
      have : hi[j].toNat % 2 ^ 8 = hi[j].toNat := Nat.mod_eq_of_lt (by have : (2 : Nat) ^ 8 = 256 := rfl; omega)
      omega
    unfold rvV
    rw [if_pos ⟨by omega, by omega⟩]
    have key : ∀ (r i : Nat) (m : Int), r + i = 5 → i ≤ s.length → (rvL p u.length r i m).2.2 = false := by
      intro r
      induction r with
      | zero => intro i m hri hil; rfl
      | succ r ih =>
        intro i m hri hil
        unfold rvL
        split
        · rename_i hlt
          have := hbyte i (by omega)
          rw [if_neg (by omega)]
          exact ih (i + 1) _ (by omega) (by omega)
        · rfl
    exact key 5 0 0 rfl (Nat.zero_le _)
  · right
    have hA : At p u.length (varT (editT e).size).data.toList := by
      have h1 := congrArg (List.take (varT (editT e).size).size) hfe
      rw [List.take_append_of_le_length hc, List.append_assoc, List.take_append_of_le_length (by rw [← size_list]; exact Nat.le_refl _), List.take_of_length_le (l := (varT (editT e).size).data.toList) (by rw [← size_list]; exact Nat.le_refl _)] at h1
      refine ⟨u, s.drop (varT (editT e).size).size, ?_, rfl⟩
      rw [hp, ← h1, List.append_assoc, List.take_append_drop]
    have hv := rv_at (n := (editT e).size) (by omega) (by omega) hA
    rw [hv]
    dsimp only
    omega
theorem ends_all {p : ByteArray} : Ends p (p.size : Int) := .inl (rv_end p)
end Go.Tm

