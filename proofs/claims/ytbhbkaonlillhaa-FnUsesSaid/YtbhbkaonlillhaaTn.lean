/- Plain facts on trees, marks and lists, part 2. -/
import Derived.Test.YtbhbkaonlillhaaTm
/- What is used below a node, as a sum; what a put record adds to it. -/
namespace Go.Tm
open Go
set_option linter.unusedVariables false
set_option linter.unusedSimpArgs false
def usum : List Nod → Int
  | [] => 0
  | x :: r => x.len + usum r
theorem usum_app : ∀ (a b : List Nod), usum (a ++ b) = usum a + usum b
  | [], b => by simp [usum]
  | x :: a, b => by simp [usum, usum_app a b]; omega
theorem usum_bound : ∀ {k : List Nod}, (∀ x ∈ k, ndB x = true) → 0 ≤ usum k ∧ usum k ≤ 1000 * k.length
  | [], _ => by simp [usum]
  | x :: k, h => by
    have := ndB_len (h x (by simp))
    have ih := usum_bound (k := k) fun y hy => h y (by simp [hy])
    simp [usum]; omega
theorem usedL_sum {l : List Nod} {nx : Int} (H : OkT l nx) : ∀ (k : List Nod) (n : Int), (∀ x ∈ k, x ∈ l) → 0 ≤ n → n + 1000 * k.length ≤ 1000000 → usedL l (k.map (·.id)) n = n + usum k
  | [], n, _, _, _ => by simp [usedL, usum]
  | x :: k, n, hk, h0, hb => by
    have hx := hk x (by simp)
    have hl := ndB_len (H.nds x hx)
    have hn := nd_at' H.asc hx
    have e : lenAt l x.id = x.len := by simp [lenAt, hn]
    simp only [List.length_cons] at hb
    have ih := usedL_sum H k (n + x.len) (fun y hy => hk y (by simp [hy])) (by omega) (by omega)
    simp only [List.map_cons, usedL, List.foldl_cons, e] at ih ⊢
    rw [w64_sm (by omega)]
    rw [ih]; simp [usum]; omega
def bel (l : List Nod) (id : Int) : List Nod := l.filter fun x => below l x.id id
theorem used_sum {t : Tree} (h : okT t.nodes t.next = true) {id : Int} (hi : (nd t.nodes id).isSome = true) : usedBelow t id = usum (bel t.nodes id) := by
  have H := okT_iff.1 h
  unfold usedBelow belowOf
  rw [if_pos ⟨h, hi⟩]
  unfold belows
  have hl := H.len2
  have hf : (t.nodes.filter fun x => below t.nodes x.id id).length ≤ t.nodes.length := List.length_filter_le _ _
  rw [usedL_sum H _ 0 (fun x hx => (List.mem_filter.1 hx).1) (by omega) (by omega)]
  simp [bel]
theorem used_none {t : Tree} {id : Int} (hi : (nd t.nodes id).isSome = false) : usedBelow t id = 0 := by
  unfold usedBelow belowOf
  rw [if_neg (by simp [hi])]
  rfl
theorem bel_map {l : List Nod} {g : Nod → Nod} (hg : Keeps l g) (id : Int) : bel (l.map g) id = (bel l id).map g := by
  unfold bel
  rw [List.filter_map]
  congr 1
  apply List.filter_congr
  intro x hx
  simp only [Function.comp]
  rw [below_map hg, (hg x hx).1]
theorem usum_at {id d : Int} {f : Nod → Nod} : ∀ (k : List Nod), k.Pairwise (fun x y => x.id < y.id) → (∀ x ∈ k, x.id = id → (f x).len = x.len + d) → usum (k.map (atId id f)) = usum k + if ∃ x ∈ k, x.id = id then d else 0
  | [], _, _ => by simp [usum]
  | x :: k, hp, hf => by
    obtain ⟨h1, h2⟩ := List.pairwise_cons.1 hp
    have ih := usum_at (d := d) (f := f) k h2 fun y hy => hf y (by simp [hy])
    simp only [List.map_cons, usum, ih]
    by_cases hx : x.id = id
    · have hno : ¬ ∃ y ∈ k, y.id = id := fun ⟨y, hy, e⟩ => by have := h1 y hy; omega
      rw [if_neg hno, if_pos ⟨x, by simp, hx⟩]
      simp only [atId, if_pos hx, hf x (by simp) hx]
      omega
    · by_cases hk : ∃ y ∈ k, y.id = id
      · obtain ⟨y, hy, e⟩ := hk
        rw [if_pos ⟨y, hy, e⟩, if_pos ⟨y, by simp [hy], e⟩]
        simp only [atId, if_neg hx]; omega
      · rw [if_neg hk, if_neg (fun ⟨y, hy, e⟩ => by
          rcases List.mem_cons.1 hy with rfl | hy
          · exact hx e
          · exact hk ⟨y, hy, e⟩)]
        simp only [atId, if_neg hx]; omega
theorem used_put {t : Tree} (h : okT t.nodes t.next = true) {j : Nat} {q : Nod} (hq : t.nodes[j]? = some q) {f : Nod → Nod} (hf : ∀ y, (f y).id = y.id ∧ (f y).parent = y.parent ∧ (f y).name = y.name ∧ (f y).dir = y.dir) {d : Int} (hl : (f q).len = q.len + d)
    (h' : okT (modN t j f).nodes t.next = true) {id : Int} (hi : (nd t.nodes id).isSome = true) : usedBelow (modN t j f) id = usedBelow t id + if below t.nodes q.id id = true then d else 0 := by
  have H := okT_iff.1 h
  have hg := keeps_atId (l := t.nodes) (id := q.id) hf
  have e : (modN t j f).nodes = t.nodes.map (atId q.id f) := modify_atId H hq f
  have hqm := List.mem_of_getElem? hq
  have hi' : (nd (modN t j f).nodes id).isSome = true := by
    rw [e, nd_map hg]
    cases hn : nd t.nodes id with
    | none => rw [hn] at hi; cases hi
    | some x => rfl
  have hs := used_sum (t := modN t j f) h' hi'
  rw [hs, used_sum h hi, e, bel_map hg]
  have hp : t.nodes.Pairwise fun x y => x.id < y.id := asc_pair.1 H.asc
  have hpb : (bel t.nodes id).Pairwise fun x y => x.id < y.id := hp.filter _
  rw [usum_at (d := d) _ hpb fun x hx hxi => by
    have hx := (List.mem_filter.1 hx).1
    have e1 := nd_at' H.asc hx
    have e2 := nd_at' H.asc hqm
    rw [hxi, e2] at e1
    cases e1
    exact hl]
  congr 1
  have : (∃ x ∈ bel t.nodes id, x.id = q.id) ↔ below t.nodes q.id id = true := by
    constructor
    · rintro ⟨x, hx, hxi⟩
      rw [← hxi]; exact (List.mem_filter.1 hx).2
    · intro hb
      exact ⟨q, List.mem_filter.2 ⟨hqm, hb⟩, rfl⟩
  by_cases c : below t.nodes q.id id = true
  · rw [if_pos (this.2 c), if_pos c]
  · rw [if_neg (fun x => c (this.1 x)), if_neg c]
theorem roomF_all {t : Tree} {d : Int} {top : Int} {x : Nod} (hx : nd t.nodes top = some x) (hd : x.dir = true) (hq : 0 < x.quota) : ∀ (n : Nat) (b : Bool) (id : Int), roomF t d n b id = true → belowF t.nodes n id top = true → ¬ w64 (x.quota - usedBelow t top) < d
  | 0, _, _, h, _ => by simp [roomF] at h
  | n + 1, b, id, h, hb => by
    unfold roomF at h
    unfold belowF at hb
    by_cases e : id = top
    · subst e
      rw [hx] at h
      dsimp only at h
      split at h
      · cases h
      · rename_i hc
        exact fun c => hc ⟨hd, hq, c⟩
    · rw [if_neg e] at hb
      cases hn : nd t.nodes id with
      | none => rw [hn] at hb; cases hb
      | some y =>
        rw [hn] at h hb
        dsimp only at h hb
        split at h
        · cases h
        · exact roomF_all hx hd hq n true y.parent h hb
theorem used_bound {t : Tree} {id : Int} : 0 ≤ usedBelow t id ∧ usedBelow t id ≤ 14000 := by
  by_cases h : okT t.nodes t.next = true ∧ (nd t.nodes id).isSome = true
  · have H := okT_iff.1 h.1
    rw [used_sum h.1 h.2]
    have hb := usum_bound (k := bel t.nodes id) fun x hx => H.nds x (List.mem_filter.1 hx).1
    have hl := H.len2
    have hf : (bel t.nodes id).length ≤ t.nodes.length := List.length_filter_le _ _
    omega
  · unfold usedBelow belowOf
    rw [if_neg h]
    simp [usedL]
/-- A put record keeps every quota that it is below. -/
theorem quota_put {t : Tree} {e : Edt} {g : Int} (h : (applyT t e g).2 = 0) (h7 : e.kind = 7) {x : Nod} (hx : x ∈ (applyT t e g).1.nodes) (hq : 0 < x.quota) (hin : below (applyT t e g).1.nodes (findP (applyT t e g).1 e.path) x.id = true) : usedBelow (applyT t e g).1 x.id ≤ x.quota := by
  have ho := apply_ok (e := e) (g := g) (apply_pre h).1
  have hok := (apply_pre h).1
  have H := okT_iff.1 hok
  have hD := apply_did h
  generalize (applyT t e g).1 = t' at hx hin ho hD ⊢
  cases hD with
  | boot hk => omega
  | add d w hk => omega
  | move j q hk => omega
  | drop hk => omega
  | schema j q hk => omega
  | quota j q hk => omega
  | write j q w hk => omega
  | put j q hk h0 hqj hid hd hw hr hl hp =>
    have hf : ∀ y : Nod, (({ y with pieces := q.pieces ++ newPcs g (spans q.schema e.num), len := q.len + e.num } : Nod)).id = y.id ∧ ({ y with pieces := q.pieces ++ newPcs g (spans q.schema e.num), len := q.len + e.num } : Nod).parent = y.parent ∧ ({ y with pieces := q.pieces ++ newPcs g (spans q.schema e.num), len := q.len + e.num } : Nod).name = y.name ∧ ({ y with pieces := q.pieces ++ newPcs g (spans q.schema e.num), len := q.len + e.num } : Nod).dir = y.dir := fun y => ⟨rfl, rfl, rfl, rfl⟩
    have hg := keeps_atId (l := t.nodes) (id := q.id) hf
    have em := modify_atId H hqj (fun y : Nod => ({ y with pieces := q.pieces ++ newPcs g (spans q.schema e.num), len := q.len + e.num } : Nod))
    have ep : findP (modN t j fun y => { y with pieces := q.pieces ++ newPcs g (spans q.schema e.num), len := q.len + e.num }) e.path = q.id := by
      obtain ⟨ns, hs, hu⟩ := (findP_some H (p := e.path) (id := q.id)).1 ⟨hid.symm, by rw [hid]; exact h0⟩
      have hu2 := (up_map hg ns.reverse q.id).2 hu
      rw [← em] at hu2
      exact ((findP_some (okT_iff.1 ho) (p := e.path) (id := q.id)).2 ⟨ns, hs, hu2⟩).1
    rw [ep] at hin
    simp only [modN] at hx hin
    rw [em] at hx hin
    rw [below_map hg] at hin
    obtain ⟨y, hy, rfl⟩ := List.mem_map.1 hx
    have hyi := (hg y hy).1
    rw [hyi] at hin ⊢
    have hqu : (atId q.id (fun y : Nod => ({ y with pieces := q.pieces ++ newPcs g (spans q.schema e.num), len := q.len + e.num } : Nod)) y).quota = y.quota := by
      unfold atId; split <;> rfl
    rw [hqu] at hq ⊢
    have hyn := nd_at' H.asc hy
    have hdir : y.dir = true := by
      cases hc : y.dir with
      | true => rfl
      | false => have := (ndB_file (H.nds y hy) hc).2.1; omega
    unfold roomFor at hr
    rw [if_pos hok] at hr
    have hlt := roomF_all hyn hdir hq 15 false q.id hr hin
    have hub := used_bound (t := t) (id := y.id)
    have hyq := (ndB_dir (H.nds y hy) hdir).2.1
    rw [w64_sm (by omega)] at hlt
    have hu := used_put hok hqj hf (d := e.num) rfl ho (id := y.id) (by rw [hyn]; rfl)
    rw [hu, if_pos hin]
    omega
end Go.Tm

/- Sums that are counted in two ways: kids of all nodes; what is used below a node and its kids. -/
namespace Go.Tm
open Go Go.Abs
set_option linter.unusedVariables false
set_option linter.unusedSimpArgs false
def ws (w : Nod → Int) : List Nod → Int
  | [] => 0
  | x :: r => w x + ws w r
theorem ws_app (w : Nod → Int) : ∀ (a b : List Nod), ws w (a ++ b) = ws w a + ws w b
  | [], b => by simp [ws]
  | x :: a, b => by simp [ws, ws_app w a b]; omega
theorem ws_congr {w v : Nod → Int} : ∀ {l : List Nod}, (∀ x ∈ l, w x = v x) → ws w l = ws v l
  | [], _ => rfl
  | x :: l, h => by
    have ih := ws_congr (w := w) (v := v) (l := l) fun y hy => h y (by simp [hy])
    simp only [ws, ih, h x (by simp)]
theorem ws_filter (w : Nod → Int) (p : Nod → Bool) : ∀ (l : List Nod), ws w (l.filter p) = ws (fun y => if p y = true then w y else 0) l
  | [] => rfl
  | x :: l => by
    have ih := ws_filter w p l
    by_cases h : p x = true
    · rw [List.filter_cons_of_pos h]; simp only [ws, ih, if_pos h]
    · rw [List.filter_cons_of_neg h]; simp only [ws, ih, if_neg h]; omega
theorem ws_add (w v : Nod → Int) : ∀ (l : List Nod), ws (fun y => w y + v y) l = ws w l + ws v l
  | [] => rfl
  | x :: l => by
    have ih := ws_add w v l
    simp only [ws, ih]; omega
theorem ws_zero : ∀ (l : List Nod), ws (fun _ => 0) l = 0
  | [] => rfl
  | x :: l => by simp [ws, ws_zero l]
theorem ws_len : ∀ (l : List Nod), ws (fun _ => 1) l = l.length
  | [] => rfl
  | x :: l => by
    have ih := ws_len l
    simp only [ws, ih, List.length_cons]; omega
theorem ws_count (p : Nod → Bool) : ∀ (l : List Nod), ws (fun y => if p y = true then 1 else 0) l = l.countP p
  | [] => rfl
  | x :: l => by
    have ih := ws_count p l
    rw [ws, ih, List.countP_cons]
    by_cases h : p x = true <;> simp [h]; omega
theorem ws_usum : ∀ (l : List Nod), usum l = ws (·.len) l
  | [] => rfl
  | x :: l => by
    have ih := ws_usum l
    simp only [usum, ws, ih]
/-- Counted by rows, or by columns. -/
theorem dbl (w : Nod → Int) (R : Nod → Nod → Bool) : ∀ (k l : List Nod), ws (fun x => ws w (l.filter (R x))) k = ws (fun y => w y * ((k.countP fun x => R x y : Nat) : Int)) l
  | [], l => by
    have h : ws (fun y => w y * (([] : List Nod).countP fun x => R x y : Nat)) l = ws (fun _ => 0) l := ws_congr fun y _ => by simp
    rw [h, ws_zero]; rfl
  | x :: k, l => by
    rw [ws, dbl w R k l, ws_filter, ← ws_add]
    refine ws_congr fun y _ => ?_
    rw [List.countP_cons]
    by_cases h : R x y = true
    · simp only [h, if_true, Int.natCast_add, Int.mul_add]
      simp [Int.add_comm]
    · simp [h]
theorem count_one : ∀ {l : List Nod}, (l.Pairwise fun x y => x.id < y.id) → ∀ {p : Nod → Bool} {x : Nod}, x ∈ l → p x = true → (∀ y ∈ l, p y = true → y.id = x.id) → l.countP p = 1
  | [], _, p, x, hx, _, _ => by simp at hx
  | z :: r, hp, p, x, hx, h, hu => by
    obtain ⟨h1, h2⟩ := List.pairwise_cons.1 hp
    rw [List.countP_cons]
    by_cases hz : p z = true
    · have e := hu z (by simp) hz
      have : r.countP p = 0 := by
        rw [List.countP_eq_zero]
        intro y hy hpy
        have := hu y (by simp [hy]) hpy
        have := h1 y hy
        omega
      simp [hz, this]
    · have hxr : x ∈ r := by
        rcases List.mem_cons.1 hx with rfl | hx
        · exact absurd h hz
        · exact hx
      have := count_one h2 hxr h fun y hy => hu y (by simp [hy])
      simp [hz, this]
section
variable {l : List Nod} {nx : Int}
theorem OkT.pair (H : OkT l nx) : l.Pairwise fun x y => x.id < y.id := asc_pair.1 H.asc
theorem OkT.same (H : OkT l nx) {x y : Nod} (hx : x ∈ l) (hy : y ∈ l) (h : x.id = y.id) : x = y := by
  have h1 := H.nd_self hx
  rw [h, H.nd_self hy] at h1
  cases h1; rfl
theorem OkT.par (H : OkT l nx) {x : Nod} (hx : x ∈ l) (h1 : x.id ≠ 1) : ∃ y ∈ l, y.id = x.parent ∧ y.dir = true := by
  have h := ((okP_iff.1 H).up x hx h1).1
  unfold dirAt at h
  cases hn : nd l x.parent with
  | none => rw [hn] at h; cases h
  | some y =>
    rw [hn] at h
    exact ⟨y, (nd_mem hn).1, (nd_mem hn).2, h⟩
/-- All kids together are all nodes but the root. -/
theorem kids_sum (H : OkT l nx) : ws (fun x => ((kidNames l x.id).length : Int)) l = (l.length : Int) - 1 := by
  have e1 : ws (fun x => ((kidNames l x.id).length : Int)) l = ws (fun x => ws (fun _ => 1) (l.filter fun y => decide (y.parent = x.id))) l := ws_congr fun x _ => by
    rw [ws_len]; simp [kidNames]
  rw [e1, dbl (fun _ => 1) (fun x y => decide (y.parent = x.id)) l l]
  obtain ⟨r, h0, _, _, hr1, _⟩ := H.rootNd
  have hr := List.mem_of_getElem? h0
  have e2 : ws (fun y => 1 * ((l.countP fun x => decide (y.parent = x.id) : Nat) : Int)) l + ws (fun y => if decide (y.id = 1) = true then 1 else 0) l = ws (fun _ => 1) l := by
    rw [← ws_add]
    refine ws_congr fun y hy => ?_
    by_cases c : y.id = 1
    · have hp := H.parent_one hy c
      have : l.countP (fun x => decide (y.parent = x.id)) = 0 := by
        rw [List.countP_eq_zero]
        intro x hx
        have := H.id_pos hx
        simp; omega
      simp [c, this]
    · obtain ⟨z, hz, hzi, _⟩ := H.par hy c
      have : l.countP (fun x => decide (y.parent = x.id)) = 1 := count_one H.pair hz (by simp [hzi]) fun x hx h => by
        have h : y.parent = x.id := by simpa using h
        omega
      simp [c, this]
  rw [ws_count, ws_len, count_one H.pair hr (by simp [hr1]) (fun y _ h => by simp at h; omega)] at e2
  omega
theorem kid_names (H : OkT l nx) {k x : Nod} (hk : k ∈ l) (hx : x ∈ l) (h : k.parent = x.id) {ms : List ByteArray} (hm : Up l ms x.id) : Up l (k.name :: ms) k.id := by
  refine ⟨fun c => ?_, k, H.nd_self hk, rfl, by rw [h]; exact hm⟩
  have := H.parent_one hk c
  have := H.id_pos hx
  omega
theorem below_self {x : Int} (n : Nat) : belowF l (n + 1) x x = true := by rw [belowF]; simp
theorem uses_sum (H : OkT l nx) {x : Nod} (hx : x ∈ l) : x.len + ws (fun k => usum (bel l k.id)) (l.filter fun k => decide (k.parent = x.id)) = usum (bel l x.id) := by
  have e1 : ws (fun k => usum (bel l k.id)) (l.filter fun k => decide (k.parent = x.id)) = ws (fun k => ws (·.len) (l.filter fun y => below l y.id k.id)) (l.filter fun k => decide (k.parent = x.id)) := ws_congr fun k _ => by rw [ws_usum]; rfl
  rw [e1, dbl (·.len) (fun k y => below l y.id k.id), ws_usum, bel, ws_filter]
  have e2 : x.len = ws (fun y => if decide (y.id = x.id) = true then y.len else 0) l := by
    have : ws (fun y => if decide (y.id = x.id) = true then y.len else 0) l = ws (fun y => x.len * (if decide (y.id = x.id) = true then 1 else 0)) l := ws_congr fun y hy => by
      by_cases c : y.id = x.id
      · rw [H.same hy hx c]; simp
      · simp [c]
    rw [this]
    have h3 : ∀ (k : List Nod), ws (fun y => x.len * (if decide (y.id = x.id) = true then 1 else 0)) k = x.len * ws (fun y => if decide (y.id = x.id) = true then 1 else 0) k := by
      intro k
      induction k with
      | nil => simp [ws]
      | cons z k ih => rw [ws, ws, ih, Int.mul_add]
    rw [h3, ws_count, count_one H.pair hx (by simp) (fun y _ h => by simpa using h)]
    simp
  conv => lhs; lhs; rw [e2]
  rw [← ws_add]
  obtain ⟨ms, hms, hml, _⟩ := H.names hx
  have hx0 : x.id ≠ 0 := H.id_ne0 x hx
  refine ws_congr fun y hy => ?_
  obtain ⟨ns, hns, hnl, _⟩ := H.names hy
  have hk : ∀ k ∈ l.filter (fun k => decide (k.parent = x.id)), (k ∈ l ∧ k.parent = x.id ∧ Up l (k.name :: ms) k.id ∧ (below l y.id k.id = true ↔ ∃ a, ns = a ++ k.name :: ms)) := fun k hk => by
    obtain ⟨h1, h2⟩ := List.mem_filter.1 hk
    have h2 : k.parent = x.id := by simpa using h2
    have hu := kid_names H h1 hx h2 hms
    refine ⟨h1, h2, hu, ?_⟩
    rw [below_up H (H.id_ne0 k h1) hns hnl]
    constructor
    · rintro ⟨a, b, hab, hb⟩
      exact ⟨a, by rw [hab, up_uniq hb hu]⟩
    · rintro ⟨a, ha⟩
      exact ⟨a, _, ha, hu⟩
  have hb : below l y.id x.id = true ↔ ∃ a, ns = a ++ ms := by
    rw [below_up H hx0 hns hnl]
    constructor
    · rintro ⟨a, b, hab, hb⟩
      exact ⟨a, by rw [hab, up_uniq hb hms]⟩
    · rintro ⟨a, ha⟩
      exact ⟨a, _, ha, hms⟩
  have zero : (¬ ∃ (nm : ByteArray) (a : List ByteArray), ns = a ++ nm :: ms) → (l.filter fun k => decide (k.parent = x.id)).countP (fun k => below l y.id k.id) = 0 := fun hno => by
    rw [List.countP_eq_zero]
    intro k hkm hc
    obtain ⟨a, ha⟩ := (hk k hkm).2.2.2.1 hc
    exact hno ⟨_, a, ha⟩
  by_cases c : y.id = x.id
  · have hnm : ns = ms := up_uniq hns (by rw [c]; exact hms)
    have h0 := zero (by
      rintro ⟨nm, a, ha⟩
      rw [hnm] at ha
      have := congrArg List.length ha
      simp at this; omega)
    have hbt : below l y.id x.id = true := hb.2 ⟨[], by simp [hnm]⟩
    rw [h0, hbt]; simp [c]
  · by_cases hbt : below l y.id x.id = true
    · obtain ⟨a, ha⟩ := hb.1 hbt
      have hne : a ≠ [] := by
        rintro rfl
        simp at ha
        rw [ha] at hns
        exact c (up_inj H hns hms)
      obtain ⟨a', nm, rfl⟩ : ∃ a' nm, a = a' ++ [nm] := ⟨a.dropLast, a.getLast hne, (List.dropLast_concat_getLast hne).symm⟩
      rw [List.append_assoc, List.singleton_append] at ha
      obtain ⟨cid, hc⟩ := up_app (a := a') (b := nm :: ms) (by rw [← ha]; exact hns)
      obtain ⟨hc1, k, hkn, hknm, hku⟩ := id hc
      obtain ⟨hkm, hkid⟩ := nd_mem hkn
      have hkp : k.parent = x.id := up_inj H hku hms
      have hkf : k ∈ l.filter (fun k => decide (k.parent = x.id)) := List.mem_filter.2 ⟨hkm, by simp [hkp]⟩
      have h1 : (l.filter fun k => decide (k.parent = x.id)).countP (fun k => below l y.id k.id) = 1 := by
        refine count_one (H.pair.filter _) hkf ((hk k hkf).2.2.2.2 ⟨a', by rw [hknm]; exact ha⟩) fun k2 hk2 hb2 => ?_
        obtain ⟨a2, ha2⟩ := (hk k2 hk2).2.2.2.1 hb2
        rw [ha] at ha2
        have hl : (a' ++ [nm]) ++ ms = (a2 ++ [k2.name]) ++ ms := by simpa using ha2
        have h3 := List.append_cancel_right hl
        have h4 := (List.append_inj' h3 rfl).2
        have h5 : nm = k2.name := by simpa using h4
        have hu2 := (hk k2 hk2).2.2.1
        rw [← h5] at hu2
        rw [up_inj H hu2 hc, hkid]
      rw [h1, hbt]; simp [c]
    · have h0 := zero (by
        rintro ⟨nm, a, ha⟩
        exact hbt (hb.2 ⟨a ++ [nm], by simp [ha]⟩))
      rw [h0]; simp [c, hbt]
/-- Schemas. -/
theorem schF_more (H : OkT l nx) : ∀ (ns : List ByteArray) (id : Int) (n m : Nat), Up l ns id → ns.length < n → ns.length < m → schF l n id = schF l m id
  | [], id, n, m, h, hn, hm => by
    obtain ⟨n, rfl⟩ : ∃ k, n = k + 1 := ⟨n - 1, by simp at hn; omega⟩
    obtain ⟨m, rfl⟩ : ∃ k, m = k + 1 := ⟨m - 1, by simp at hm; omega⟩
    have h1 : id = 1 := h
    subst h1
    obtain ⟨r, h0, h1, _, h2, _, _, _, h5⟩ := H.rootNd
    rw [schF, schF, h1]
    simp [h5]
  | nm :: ns, id, n, m, ⟨h1, x, hx, _, h⟩, hn, hm => by
    obtain ⟨n, rfl⟩ : ∃ k, n = k + 1 := ⟨n - 1, by simp at hn; omega⟩
    obtain ⟨m, rfl⟩ : ∃ k, m = k + 1 := ⟨m - 1, by simp at hm; omega⟩
    rw [schF, schF, hx]
    simp only []
    split
    · exact schF_more H ns x.parent n m h (by simp at hn; omega) (by simp at hm; omega)
    · rfl
end
theorem schema_own {t : Tree} (h : okT t.nodes t.next = true) {x : Nod} (hx : x ∈ t.nodes) (hs : x.schema ≠ 0) : schemaAt t x.id = x.schema := by
  unfold schemaAt
  rw [if_pos h, schF, (okT_iff.1 h).nd_self hx]
  simp [hs]
theorem schema_up {t : Tree} (h : okT t.nodes t.next = true) {x : Nod} (hx : x ∈ t.nodes) (hs : x.schema = 0) : schemaAt t x.id = schemaAt t x.parent := by
  have H := okT_iff.1 h
  unfold schemaAt
  rw [if_pos h, schF, H.nd_self hx, if_pos h]
  simp only [hs, if_true]
  have h1 : x.id ≠ 1 := fun c => by
    obtain ⟨r, h0, _, _, h2, _, _, _, h5⟩ := H.rootNd
    have := H.same hx (List.mem_of_getElem? h0) (by omega)
    rw [this] at hs
    exact h5 hs
  obtain ⟨ns, hns, hl, _⟩ := H.names hx
  cases ns with
  | nil => exact absurd hns h1
  | cons nm ns =>
    obtain ⟨_, y, hy, _, hu⟩ := hns
    rw [H.nd_self hx] at hy
    cases hy
    simp at hl
    exact schF_more H ns x.parent 14 15 hu (by omega) (by omega)
theorem schema_root {t : Tree} (h : okT t.nodes t.next = true) : 1 ≤ schemaAt t 1 := by
  have H := okT_iff.1 h
  obtain ⟨r, h0, h1, _, h2, _, _, h4, h5⟩ := H.rootNd
  have := schema_own h (List.mem_of_getElem? h0) h5
  rw [h2] at this
  rw [this]
  have := inB_iff.1 (ndB_dir (H.nds r (List.mem_of_getElem? h0)) h4).1
  omega
theorem room_none {t : Tree} {id n : Int} (h : nd t.nodes id = none) : roomFor t id n = false := by
  unfold roomFor
  split
  · rw [roomF, h]
  · rfl
theorem room_over {t : Tree} {x : Nod} (hx : x ∈ t.nodes) (hq : 0 < x.quota) : roomFor t x.id (x.quota + 1) = false := by
  unfold roomFor
  split
  · rename_i h
    have H := okT_iff.1 h
    have hd : x.dir = true := by
      cases hc : x.dir with
      | true => rfl
      | false => have := (ndB_file (H.nds x hx) hc).2.1; omega
    have hqb := (ndB_dir (H.nds x hx) hd).2.1
    have hub := used_bound (t := t) (id := x.id)
    rw [roomF, H.nd_self hx]
    simp only []
    rw [w64_sm (by omega), if_pos ⟨hd, hq, by omega⟩]
  · rfl
theorem uses_law {t : Tree} (h : okT t.nodes t.next = true) {x : Nod} (hx : x ∈ t.nodes) : x.len + ws (fun k => usedBelow t k.id) (t.nodes.filter fun k => decide (k.parent = x.id)) = usedBelow t x.id := by
  have H := okT_iff.1 h
  rw [used_sum h (by rw [H.nd_self hx]; rfl), ← uses_sum H hx]
  congr 1
  refine ws_congr fun k hk => ?_
  have := (List.mem_filter.1 hk).1
  rw [used_sum h (by rw [H.nd_self this]; rfl)]
end Go.Tm

