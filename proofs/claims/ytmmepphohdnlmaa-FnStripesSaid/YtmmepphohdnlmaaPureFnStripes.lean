/- Each byte of a file has a place in the stripes, and each place its byte; bytes behind one another lie in cells; the spans of a file add up to its length. -/
import Derived.Test.YtmmepphohdnlmaaOStripes3
namespace Go.Proofs.Ytmmepphohdnlmaa.Pure
open Go.RowKit Go.Proofs.Ytmmepphohdnlmaa.OStripes Go.Proofs.YtmmepphohdnlmaaW.PrintWords Go.Proofs.YtmmepphohdnlmaaW.PrintLast Go.Proofs.YtmmepphohdnlmaaW.PrintMore

set_option linter.unusedSimpArgs false
set_option linter.unusedVariables false

theorem and_255 (x : Int) : 0 ≤ Go.bits .and .i64 x 255 ∧ Go.bits .and .i64 x 255 ≤ 255 := by
  have h : (BitVec.ofInt 64 x &&& BitVec.ofInt 64 255).toNat ≤ 255 := by
    rw [BitVec.toNat_and]
    exact Nat.le_trans Nat.and_le_right (by decide)
  have e : Go.bits .and .i64 x 255 = IntKind.i64.wrap ((BitVec.ofInt 64 x &&& BitVec.ofInt 64 255).toNat : Int) := rfl
  rw [e, IntKind.wrap_i64]
  omega

theorem new_ends (l : List Int) (hl : l.length ≤ 1048576) : ∀ (d k : Nat) (h i : Int), 0 ≤ i → (l.length : Int) - i = d → d < k → ∃ h', spec_l01New.l0 k l h i = some (l, 0, h') := by
  intro d
  induction d with
  | zero =>
    intro k h i h0 h1 hk
    obtain ⟨k, rfl⟩ : ∃ m, k = m + 1 := ⟨k - 1, by omega⟩
    refine ⟨h, ?_⟩
    simp only [spec_l01New.l0]
    rw [if_neg (by omega)]
  | succ d ih =>
    intro k h i h0 h1 hk
    obtain ⟨k, rfl⟩ : ∃ m, k = m + 1 := ⟨k - 1, by omega⟩
    have hw : wrap64 (i + 1) = i + 1 := by unfold wrap64; omega
    simp only [spec_l01New.l0, hw]
    rw [if_pos (by omega)]
    by_cases c : i < 4000
    · rw [if_pos c, if_pos h0]
      exact ih k _ (i + 1) (by omega) (by omega) (by omega)
    · rw [if_neg c]
      exact ⟨h, rfl⟩

theorem byte_some (l : List Int) (i h : Int) (hi : 0 ≤ i) (hb : i ≤ 1048576) (hl : l.length ≤ 1048576) : ∃ x i' h', spec_l01Byte.f l i h = some (x, i', h') ∧ 0 ≤ x ∧ x ≤ 255 ∧ 0 ≤ i' ∧ i' ≤ 1048576 := by
  unfold spec_l01Byte.f
  by_cases c : i < (l.length : Int)
  · have hw : wrap64 (i + 1) = i + 1 := by unfold wrap64; omega
    rw [if_pos c, if_pos hi, hw]
    exact ⟨_, _, _, rfl, (and_255 _).1, (and_255 _).2, by omega, by omega⟩
  · rw [if_neg c]
    exact ⟨_, _, _, rfl, (and_255 _).1, (and_255 _).2, hi, hb⟩

theorem below_some (l : List Int) (i h n : Int) (hi : 0 ≤ i) (hb : i ≤ 1048576) (hl : l.length ≤ 1048576) (hn : 1 ≤ n) (hn' : n ≤ 4294967296) :
    ∃ x i' h', spec_l01Below.f l i h n = some (x, i', h') ∧ 0 ≤ x ∧ x < n ∧ 0 ≤ i' ∧ i' ≤ 1048576 := by
  unfold spec_l01Below.f
  rw [if_neg (by omega)]
  obtain ⟨x1, i1, h1, e1, a1, b1, c1, d1⟩ := byte_some l i h hi hb hl
  rw [e1]
  simp only [Option.bind_some]
  by_cases c : n ≤ 256
  · rw [if_pos c, if_neg (by omega)]
    refine ⟨_, _, _, rfl, Int.tmod_nonneg _ a1, ?_, c1, d1⟩
    rw [Int.tmod_eq_emod_of_nonneg a1]
    exact Int.emod_lt_of_pos _ (by omega)
  · rw [if_neg c]
    obtain ⟨x2, i2, h2, e2, a2, b2, c2, d2⟩ := byte_some l i1 h1 c1 d1 hl
    rw [e2]
    simp only [Option.bind_some]
    obtain ⟨x3, i3, h3, e3, a3, b3, c3, d3⟩ := byte_some l i2 h2 c2 d2 hl
    rw [e3]
    simp only [Option.bind_some]
    obtain ⟨x4, i4, h4, e4, a4, b4, c4, d4⟩ := byte_some l i3 h3 c3 d3 hl
    rw [e4]
    simp only [Option.bind_some]
    rw [if_neg (by omega)]
    have hs : 0 ≤ wrap64 (wrap64 (wrap64 (wrap64 (x1 * 16777216) + wrap64 (x2 * 65536)) + wrap64 (x3 * 256)) + x4) := by unfold wrap64; omega
    refine ⟨_, _, _, rfl, Int.tmod_nonneg _ hs, ?_, c4, d4⟩
    rw [Int.tmod_eq_emod_of_nonneg hs]
    exact Int.emod_lt_of_pos _ (by omega)

theorem places_loop (l : List Int) (hl : l.length ≤ 1048576) : ∀ (d k : Nat) (acc : List Int) (x i h : Int), 0 ≤ x → (12 : Int) - x = d → (acc.length : Int) = x → 0 ≤ i → i ≤ 1048576 → d < k → (∀ v ∈ acc, 0 ≤ v ∧ v ≤ 9999) →
    ∃ r, spec_DrawPlaces.l0 k acc x l i h = some r ∧ r.length = 12 ∧ ∀ v ∈ r, 0 ≤ v ∧ v ≤ 9999 := by
  intro d
  induction d with
  | zero =>
    intro k acc x i h h0 h1 ha hi hb hk hall
    obtain ⟨k, rfl⟩ : ∃ m, k = m + 1 := ⟨k - 1, by omega⟩
    refine ⟨acc, ?_, by omega, hall⟩
    simp only [spec_DrawPlaces.l0]
    rw [if_neg (by omega)]
  | succ d ih =>
    intro k acc x i h h0 h1 ha hi hb hk hall
    obtain ⟨k, rfl⟩ : ∃ m, k = m + 1 := ⟨k - 1, by omega⟩
    have hw : wrap64 (x + 1) = x + 1 := by unfold wrap64; omega
    obtain ⟨v, i', h', e, a, b, c, d'⟩ := below_some l i h 10000 hi hb hl (by omega) (by omega)
    obtain ⟨r, er, e2, e3⟩ := ih k (acc ++ [v]) (x + 1) i' h' (by omega) (by omega) (by simp; omega) c d' (by omega) (fun u hu => by
      rcases List.mem_append.1 hu with hu | hu
      · exact hall u hu
      · rw [List.mem_singleton.1 hu]; omega)
    refine ⟨r, ?_, e2, e3⟩
    simp only [spec_DrawPlaces.l0, hw, e, Option.bind_some]
    rw [if_pos (by omega), if_pos (by omega)]
    exact er

theorem places_some (l : List Int) (hl : l.length ≤ 1048576) (k : Nat) (hk : 1048590 < k) : ∃ r, spec_DrawPlaces.f k l = some r ∧ r.length = 12 ∧ ∀ v ∈ r, 0 ≤ v ∧ v ≤ 9999 := by
  obtain ⟨h', e⟩ := new_ends l hl l.length k (wrap64 (36801 + (l.length : Int))) 0 (by omega) (by omega) (by omega)
  obtain ⟨x, i1, h1, e1, _, _, c1, d1⟩ := byte_some l 0 h' (by omega) (by omega) hl
  obtain ⟨r, er, h2, h3⟩ := places_loop l hl 12 k [] 0 i1 h1 (by omega) (by omega) (by simp) c1 d1 (by omega) (by simp)
  refine ⟨r, ?_, h2, h3⟩
  unfold spec_DrawPlaces.f spec_l01New.f
  rw [e]
  simp only [Option.bind_some, e1]
  exact er

theorem rd_range (r : List Int) (h : ∀ v ∈ r, 0 ≤ v ∧ v ≤ 9999) (i : Nat) (hi : i < r.length) : 0 ≤ rd r i ∧ rd r i ≤ 9999 := by
  unfold rd
  rw [List.getD_eq_getElem?_getD, Int.toNat_natCast, List.getElem?_eq_getElem hi]
  exact h _ (List.getElem_mem hi)

/-- What PlaceOf and OffsetOf answer for the three schemas. u: units. -/
theorem size_of (s : Int) (hs : s = 1 ∨ s = 2 ∨ s = 3) : ∃ u v : Int, impl_SchemaOf.f s = some (u, v, true) ∧ impl_GroupSize.f s = some (8 * u) ∧ spec_GroupSize.f s = some (8 * u) ∧ (u = 2 ∨ u = 3 ∨ u = 4) := by
  rcases hs with rfl | rfl | rfl
  · exact ⟨2, 1, rfl, by simp [impl_GroupSize.f, impl_SchemaOf.f, wrap64], by simp [spec_GroupSize.f, spec_SchemaOf.f, wrap64], by omega⟩
  · exact ⟨3, 2, rfl, by simp [impl_GroupSize.f, impl_SchemaOf.f, wrap64], by simp [spec_GroupSize.f, spec_SchemaOf.f, wrap64], by omega⟩
  · exact ⟨4, 2, rfl, by simp [impl_GroupSize.f, impl_SchemaOf.f, wrap64], by simp [spec_GroupSize.f, spec_SchemaOf.f, wrap64], by omega⟩

theorem place_is (s u v n : Int) (h1 : impl_SchemaOf.f s = some (u, v, true)) (h2 : impl_GroupSize.f s = some (8 * u)) (hu : u = 2 ∨ u = 3 ∨ u = 4) (hn : 0 ≤ n) (hn' : n ≤ 100000) (k : Nat) (hk : 0 < k) :
    impl_PlaceOf.f k s n = some (n / (8 * u), n % (8 * u) / 4 % u, n % (8 * u) / 4 / u * 4 + n % (8 * u) % 4) := by
  obtain ⟨k, rfl⟩ : ∃ m, k = m + 1 := ⟨k - 1, by omega⟩
  unfold impl_PlaceOf.f impl_within.f
  simp only [h1, h2, impl_PlaceOf.j0, Option.bind_some, hn, hn', ge_iff_le, if_true, decide_true, Bool.not_true, Bool.false_eq_true, if_false]
  rw [if_neg (by omega), if_neg (by omega), if_neg (by omega)]
  have t1 : Int.tdiv n (8 * u) = n / (8 * u) := Int.tdiv_eq_ediv_of_nonneg hn
  have t2 : Int.tmod n (8 * u) = n % (8 * u) := Int.tmod_eq_emod_of_nonneg hn
  have p2 : 0 ≤ n % (8 * u) := Int.emod_nonneg _ (by omega)
  have q2 : n % (8 * u) < 8 * u := Int.emod_lt_of_pos _ (by omega)
  have t3 : Int.tdiv (n % (8 * u)) 4 = n % (8 * u) / 4 := Int.tdiv_eq_ediv_of_nonneg p2
  have p3 : 0 ≤ n % (8 * u) / 4 := by omega
  have w3 : wrap64 (n % (8 * u) / 4) = n % (8 * u) / 4 := by unfold wrap64; omega
  have t4 : Int.tmod (n % (8 * u) / 4) u = n % (8 * u) / 4 % u := Int.tmod_eq_emod_of_nonneg p3
  have t5 : Int.tdiv (n % (8 * u) / 4) u = n % (8 * u) / 4 / u := Int.tdiv_eq_ediv_of_nonneg p3
  have t6 : Int.tmod (n % (8 * u)) 4 = n % (8 * u) % 4 := Int.tmod_eq_emod_of_nonneg p2
  have w1 : wrap64 (n / (8 * u)) = n / (8 * u) := by clear t1 t2 t3 t4 t5 t6; rcases hu with rfl | rfl | rfl <;> (unfold wrap64; omega)
  have w5 : wrap64 (n % (8 * u) / 4 / u) = n % (8 * u) / 4 / u := by clear t1 t2 t3 t4 t5 t6; rcases hu with rfl | rfl | rfl <;> (unfold wrap64; omega)
  have w6 : wrap64 (n % (8 * u) / 4 / u * 4) = n % (8 * u) / 4 / u * 4 := by clear t1 t2 t3 t4 t5 t6; rcases hu with rfl | rfl | rfl <;> (unfold wrap64; omega)
  have w7 : wrap64 (n % (8 * u) / 4 / u * 4 + n % (8 * u) % 4) = n % (8 * u) / 4 / u * 4 + n % (8 * u) % 4 := by clear t1 t2 t3 t4 t5 t6; rcases hu with rfl | rfl | rfl <;> (unfold wrap64; omega)
  rw [t1, t2, t3, w3, t4, t5, t6, w1, w5, w6, w7]

theorem offset_is (s u v g c n : Int) (h1 : impl_SchemaOf.f s = some (u, v, true)) (h2 : impl_GroupSize.f s = some (8 * u)) (hu : u = 2 ∨ u = 3 ∨ u = 4) (hg : 0 ≤ g) (hg' : g ≤ 100000) (hc : 0 ≤ c) (hc' : c ≤ u - 1) (hn : 0 ≤ n) (hn' : n ≤ 7)
    (hm : g * (8 * u) + (n / 4 * u + c) * 4 + n % 4 ≤ 100000) (k : Nat) (hk : 0 < k) :
    impl_OffsetOf.f k s g c n = some (g * (8 * u) + (n / 4 * u + c) * 4 + n % 4) := by
  obtain ⟨k, rfl⟩ : ∃ m, k = m + 1 := ⟨k - 1, by omega⟩
  have w0 : wrap64 (u - 1) = u - 1 := by unfold wrap64; omega
  have t1 : Int.tdiv n 4 = n / 4 := Int.tdiv_eq_ediv_of_nonneg hn
  have t2 : Int.tmod n 4 = n % 4 := Int.tmod_eq_emod_of_nonneg hn
  unfold impl_OffsetOf.f impl_within.f
  simp only [h1, h2, impl_OffsetOf.j0, Option.bind_some, w0, t1, t2, ge_iff_le, hg, hg', hc, hc', hn, hn', if_true, decide_true, Bool.not_true, Bool.false_eq_true, if_false]
  have e : wrap64 (wrap64 (wrap64 (g * (8 * u)) + wrap64 (wrap64 (wrap64 (wrap64 (n / 4) * u) + c) * 4)) + n % 4) = g * (8 * u) + (n / 4 * u + c) * 4 + n % 4 := by
    rcases hu with rfl | rfl | rfl <;> (unfold wrap64; omega)
  rw [e, if_neg (by omega)]

theorem spans_sum (s u v : Int) (h2 : impl_GroupSize.f s = some (8 * u)) (hu : u = 2 ∨ u = 3 ∨ u = 4) : ∀ (d k : Nat) (acc : List Int) (n : Int), 0 ≤ n → n ≤ d → n ≤ 1000 → d < k → acc.length + d ≤ 2000 →
    ∃ r, impl_Spans.l0 k (8 * u) acc n = some (acc ++ r) ∧ r.sum = n ∧ (acc ++ r).length ≤ 2000 ∧ (∀ x ∈ r, 1 ≤ x ∧ x ≤ 1000) ∧ (∀ (i : Nat), i + 1 < r.length → r[i]? = some (8 * u)) := by
  intro d
  induction d with
  | zero =>
    intro k acc n h0 h1 _ hk hl
    obtain ⟨k, rfl⟩ : ∃ m, k = m + 1 := ⟨k - 1, by omega⟩
    refine ⟨[], ?_, by simp; omega, by simp; omega, by simp, by simp⟩
    simp only [impl_Spans.l0]
    rw [if_neg (by omega)]
    simp
  | succ d ih =>
    intro k acc n h0 h1 h3 hk hl
    obtain ⟨k, rfl⟩ : ∃ m, k = m + 1 := ⟨k - 1, by omega⟩
    by_cases c : n > 0
    · have hw : wrap64 (n - 8 * u) = n - 8 * u := by unfold wrap64; omega
      by_cases c2 : 8 * u < n
      · have hm : mn n (8 * u) = 8 * u := by unfold mn; rw [if_pos c2]
        obtain ⟨r, e1, e2, e3, e4, e5⟩ := ih k (acc ++ [8 * u]) (n - 8 * u) (by omega) (by omega) (by omega) (by omega) (by simp; omega)
        refine ⟨8 * u :: r, ?_, by rw [List.sum_cons, e2]; omega, by simpa using e3, fun x hx => ?_, fun i hi => ?_⟩
        · simp only [impl_Spans.l0, hw, hm]
          rw [if_pos c, if_pos (by omega), e1]
          simp
        · rcases List.mem_cons.1 hx with rfl | hx
          · omega
          · exact e4 x hx
        · cases i with
          | zero => simp
          | succ i => simpa using e5 i (by simpa using hi)
      · have hm : mn n (8 * u) = n := by unfold mn; rw [if_neg c2]
        obtain ⟨k, rfl⟩ : ∃ m, k = m + 1 := ⟨k - 1, by omega⟩
        refine ⟨[n], ?_, by simp, by simp; omega, fun x hx => by rw [List.mem_singleton.1 hx]; omega, fun i hi => by simp at hi⟩
        simp only [impl_Spans.l0, hw, hm]
        rw [if_pos c, if_pos (by omega), if_neg (by omega)]
    · refine ⟨[], ?_, by simp; omega, by simp; omega, by simp, by simp⟩
      simp only [impl_Spans.l0]
      rw [if_neg c]
      simp

theorem offset_none (s u v : Int) (h1 : impl_SchemaOf.f s = some (u, v, true)) (k : Nat) (hk : 0 < k) : impl_OffsetOf.f k s (-1) 0 0 = some (-1) := by
  obtain ⟨k, rfl⟩ : ∃ m, k = m + 1 := ⟨k - 1, by omega⟩
  unfold impl_OffsetOf.f impl_within.f
  simp only [h1, impl_OffsetOf.j0, Option.bind_some, if_true]
  simp

theorem spans_of (s u v n : Int) (h2 : impl_GroupSize.f s = some (8 * u)) (hu : u = 2 ∨ u = 3 ∨ u = 4) (h0 : 0 ≤ n) (h1 : n ≤ 1000) (k : Nat) (hk : 2000 < k) :
    ∃ r, impl_Spans.f k s n = some r ∧ r.sum = n ∧ r.length ≤ 2000 ∧ (∀ x ∈ r, 1 ≤ x ∧ x ≤ 1000) ∧ (∀ (i : Nat), i + 1 < r.length → r[i]? = some (8 * u)) := by
  obtain ⟨k, rfl⟩ : ∃ m, k = m + 1 := ⟨k - 1, by omega⟩
  obtain ⟨r, e1, e2, e3, e4, e5⟩ := spans_sum s u v h2 hu n.toNat k [] n h0 (by omega) h1 (by omega) (by simp; omega)
  refine ⟨r, ?_, e2, by simpa using e3, e4, e5⟩
  unfold impl_Spans.f impl_within.f
  simp only [h2, Option.bind_some, impl_Spans.j0, ge_iff_le, h0, h1, if_true, decide_true, Bool.not_true, Bool.false_eq_true, if_false]
  rw [if_neg (by omega), e1]
  simp

theorem last_loop (ps : List Int) (hp : ps.length = 12) (s u v : Int) (g1 : impl_SchemaOf.f s = some (u, v, true)) (g2 : impl_GroupSize.f s = some (8 * u)) (g3 : spec_GroupSize.f s = some (8 * u)) (hu : u = 2 ∨ u = 3 ∨ u = 4)
    (r : List Int) (hl : r.length ≤ 2000) (hr : ∀ x ∈ r, 1 ≤ x ∧ x ≤ 1000) (hi : ∀ (i : Nat), i + 1 < r.length → r[i]? = some (8 * u)) (n : Int) (hn : wrap64 (1 + Int.tmod (rd ps 2) 999) = n) (hn0 : 0 ≤ n) (hn1 : n ≤ 1000) :
    ∀ (d k : Nat) (sum i : Int), 0 ≤ i → (r.length : Int) - i = d → d + 2001 < k → sum + (r.drop i.toNat).sum = n → 0 ≤ sum → sum ≤ 1000 → laws_FnStripes.l0 k ps s r sum i = some true := by
  intro d
  induction d with
  | zero =>
    intro k sum i h0 h1 hk hs _ _
    obtain ⟨k, rfl⟩ : ∃ m, k = m + 1 := ⟨k - 1, by omega⟩
    have hd : r.drop i.toNat = [] := List.drop_eq_nil_of_le (by omega)
    rw [hd] at hs
    simp only [List.sum_nil, Int.add_zero] at hs
    have e1 := offset_none s u v g1 k (by omega)
    obtain ⟨q, e2, _, _, _, _⟩ := spans_of s u v 0 g2 hu (by omega) (by omega) k (by omega)
    have e3 : impl_Spans.f k s 0 = some [] := by
      obtain ⟨k, rfl⟩ : ∃ m, k = m + 1 := ⟨k - 1, by omega⟩
      obtain ⟨k, rfl⟩ : ∃ m, k = m + 1 := ⟨k - 1, by omega⟩
      unfold impl_Spans.f impl_within.f
      simp only [g2, Option.bind_some, impl_Spans.j0, impl_Spans.l0]
      rw [if_neg (by omega)]
      simp
    simp only [laws_FnStripes.l0, hn, e1, e3, g2, g3, Option.bind_some, if_true]
    rw [if_neg (by omega), if_pos (by omega), if_pos hs]
    simp
  | succ d ih =>
    intro k sum i h0 h1 hk hs hs0 hs1
    obtain ⟨k, rfl⟩ : ∃ m, k = m + 1 := ⟨k - 1, by omega⟩
    have hlt : i.toNat < r.length := by omega
    have hd : r.drop i.toNat = r[i.toNat] :: r.drop (i.toNat + 1) := List.drop_eq_getElem_cons hlt
    have he : rd r i = r[i.toNat] := by
      unfold rd
      rw [List.getD_eq_getElem?_getD, List.getElem?_eq_getElem hlt]
      rfl
    have hx := hr _ (List.getElem_mem hlt)
    rw [hd, List.sum_cons, ← he] at hs
    rw [← he] at hx
    have hge : 0 ≤ (r.drop (i.toNat + 1)).sum := by
      have : ∀ l : List Int, (∀ x ∈ l, 0 ≤ x) → 0 ≤ l.sum := by
        intro l
        induction l with
        | nil => intro _; simp
        | cons a l ih =>
          intro h
          rw [List.sum_cons]
          have := h a List.mem_cons_self
          have := ih (fun x hx => h x (List.mem_cons_of_mem _ hx))
          omega
      exact this _ (fun x hx => by have := (hr x (List.mem_of_mem_drop hx)).1; omega)
    have hw : wrap64 (i + 1) = i + 1 := by unfold wrap64; omega
    have hw2 : wrap64 (sum + rd r i) = sum + rd r i := by unfold wrap64; omega
    have hrec := ih k (sum + rd r i) (i + 1) (by omega) (by omega) (by omega) (by rw [show (i + 1).toNat = i.toNat + 1 by omega]; omega) (by omega) (by omega)
    simp only [laws_FnStripes.l0, hw, hw2, hrec, g2, Option.bind_some]
    rw [if_pos (by omega), if_pos h0, if_neg (by omega)]
    by_cases c : i + 1 < (r.length : Int)
    · have h8 := hi i.toNat (by omega)
      rw [List.getElem?_eq_getElem hlt] at h8
      injection h8 with h8
      rw [if_pos c, if_pos (by omega)]
    · rw [if_neg c]

theorem stripes_j1 (ps : List Int) (hp : ps.length = 12) (hall : ∀ x ∈ ps, 0 ≤ x ∧ x ≤ 9999) (s u v : Int) (g1 : impl_SchemaOf.f s = some (u, v, true)) (g2 : impl_GroupSize.f s = some (8 * u)) (g3 : spec_GroupSize.f s = some (8 * u)) (hu : u = 2 ∨ u = 3 ∨ u = 4)
    (k : Nat) (hk : 10000 < k) : laws_FnStripes.j1 k ps s false = some true := by
  obtain ⟨k, rfl⟩ : ∃ m, k = m + 1 := ⟨k - 1, by omega⟩
  have h2 : 0 ≤ rd ps 2 ∧ rd ps 2 ≤ 9999 := rd_range ps hall 2 (by omega)
  have e : wrap64 (1 + Int.tmod (rd ps 2) 999) = 1 + rd ps 2 % 999 := by
    have := Int.tmod_eq_emod_of_nonneg (a := rd ps 2) (b := 999) h2.1
    rw [this]
    unfold wrap64
    omega
  obtain ⟨r, e1, e2, e3, e4, e5⟩ := spans_of s u v (1 + rd ps 2 % 999) g2 hu (by omega) (by omega) k (by omega)
  simp only [laws_FnStripes.j1, e, e1, Option.bind_some, Bool.false_eq_true, if_false]
  rw [if_pos (by omega)]
  exact last_loop ps hp s u v g1 g2 g3 hu r e3 e4 e5 _ e (by omega) (by omega) r.length k 0 0 (by omega) (by omega) (by omega) (by simpa using e2) (by omega) (by omega)

theorem FnStripes : laws_FnStripes.Pure := by
  intro l _ _ _
  by_cases hb : (l.length : Int) > 1048576
  · refine ⟨0, ?_⟩
    unfold laws_FnStripes.f laws_big.f
    simp [hb]
  · refine ⟨1048600, ?_⟩
    obtain ⟨ps, e, hp, hall⟩ := places_some l (by omega) 1048600 (by omega)
    have r0 : 0 ≤ rd ps 0 ∧ rd ps 0 ≤ 9999 := rd_range ps hall 0 (by omega)
    have r1 : 0 ≤ rd ps 1 ∧ rd ps 1 ≤ 9999 := rd_range ps hall 1 (by omega)
    have s0 : wrap64 (1 + Int.tmod (rd ps 0) 3) = 1 + rd ps 0 % 3 := by
      rw [Int.tmod_eq_emod_of_nonneg r0.1]
      unfold wrap64
      omega
    obtain ⟨n, s1, hn0, hn1⟩ : ∃ n, wrap64 (rd ps 1 * 9) = n ∧ 0 ≤ n ∧ n ≤ 89991 := ⟨rd ps 1 * 9, by unfold wrap64; omega, by omega, by omega⟩
    obtain ⟨u, v, g1, g2, g3, hu⟩ := size_of (1 + rd ps 0 % 3) (by omega)
    have pl := place_is (1 + rd ps 0 % 3) u v n g1 g2 hu (by omega) (by omega) 1048600 (by omega)
    have of := offset_is (1 + rd ps 0 % 3) u v (n / (8 * u)) (n % (8 * u) / 4 % u) (n % (8 * u) / 4 / u * 4 + n % (8 * u) % 4) g1 g2 hu (by rcases hu with rfl | rfl | rfl <;> omega) (by rcases hu with rfl | rfl | rfl <;> omega) (by rcases hu with rfl | rfl | rfl <;> omega) (by rcases hu with rfl | rfl | rfl <;> omega) (by rcases hu with rfl | rfl | rfl <;> omega) (by rcases hu with rfl | rfl | rfl <;> omega) (by rcases hu with rfl | rfl | rfl <;> omega) 1048600 (by omega)
    have hof : n / (8 * u) * (8 * u) + ((n % (8 * u) / 4 / u * 4 + n % (8 * u) % 4) / 4 * u + n % (8 * u) / 4 % u) * 4 + (n % (8 * u) / 4 / u * 4 + n % (8 * u) % 4) % 4 = n := by
      rcases hu with rfl | rfl | rfl <;> omega
    rw [hof] at of
    have j1 := stripes_j1 ps hp hall (1 + rd ps 0 % 3) u v g1 g2 g3 hu
    have j0 : laws_FnStripes.j0 1048600 ps (1 + rd ps 0 % 3) n (n / (8 * u)) (n % (8 * u) / 4 % u) (n % (8 * u) / 4 / u * 4 + n % (8 * u) % 4) false = some true := by
      have w1 : wrap64 (n + 1) = n + 1 := by unfold wrap64; omega
      have w2 : wrap64 (n % (8 * u) / 4 / u * 4 + n % (8 * u) % 4 + 1) = n % (8 * u) / 4 / u * 4 + n % (8 * u) % 4 + 1 := by rcases hu with rfl | rfl | rfl <;> (unfold wrap64; omega)
      have t1 : Int.tmod (n + 1) 4 = (n + 1) % 4 := Int.tmod_eq_emod_of_nonneg (by omega)
      have pl2 := place_is (1 + rd ps 0 % 3) u v (n + 1) g1 g2 hu (by omega) (by omega) 1048599 (by omega)
      rw [show (1048600 : Nat) = 1048599 + 1 from rfl]
      simp only [laws_FnStripes.j0, w1, w2, t1, pl2, Option.bind_some, Bool.false_eq_true, if_false]
      by_cases c : (n + 1) % 4 = 0
      · rw [if_pos c]
        exact j1 _ (by omega)
      · rw [if_neg c]
        have q1 : (n + 1) / (8 * u) = n / (8 * u) := by rcases hu with rfl | rfl | rfl <;> omega
        have q2 : (n + 1) % (8 * u) / 4 % u = n % (8 * u) / 4 % u := by rcases hu with rfl | rfl | rfl <;> omega
        have q3 : (n + 1) % (8 * u) / 4 / u * 4 + (n + 1) % (8 * u) % 4 = n % (8 * u) / 4 / u * 4 + n % (8 * u) % 4 + 1 := by rcases hu with rfl | rfl | rfl <;> omega
        rw [if_pos q1, if_pos q2, q3]
        simp only [bne_self_eq_false]
        exact j1 _ (by omega)
    have hd : Int.tdiv n (8 * u) = n / (8 * u) := Int.tdiv_eq_ediv_of_nonneg hn0
    have wd : wrap64 (n / (8 * u)) = n / (8 * u) := by rcases hu with rfl | rfl | rfl <;> (unfold wrap64; omega)
    have n8 : ¬ 8 * u = 0 := by omega
    have c1 : ¬ n % (8 * u) / 4 / u * 4 + n % (8 * u) % 4 < 0 := by rcases hu with rfl | rfl | rfl <;> omega
    have c2 : ¬ n % (8 * u) / 4 / u * 4 + n % (8 * u) % 4 ≥ 8 := by rcases hu with rfl | rfl | rfl <;> omega
    have l0 : (0 : Int) < (ps.length : Int) := by omega
    have l1 : (1 : Int) < (ps.length : Int) := by omega
    unfold laws_FnStripes.f laws_big.f
    simp only [hb, decide_false, Option.bind_some, Bool.false_eq_true, if_false, e, s0, s1, pl, of, g2, if_true, hd, wd, if_neg n8, if_neg c1, decide_eq_false c2, if_pos l0, if_pos l1]
    exact j0

end Go.Proofs.Ytmmepphohdnlmaa.Pure
