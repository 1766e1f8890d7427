/- The text of a drawn group that is cut to units is joined of them again; no unit has more than eight bytes. -/
import Derived.Test.YtgmmihbogfcppaaOCuts3
namespace Go.Proofs.Ytgmmihbogfcppaa.Pure
open Go.RowKit Go.Proofs.Ytgmmihbogfcppaa.OCuts Go.Proofs.YtgmmihbogfcppaaW.PrintWords Go.Proofs.YtgmmihbogfcppaaW.PrintLast Go.Proofs.YtgmmihbogfcppaaW.PrintMore
set_option linter.unusedSimpArgs false
set_option linter.unusedVariables false

theorem and_255 (x : Int) : 0 ≤ Go.bits .and .i64 x 255 ∧ Go.bits .and .i64 x 255 ≤ 255 := by
  have h : (BitVec.ofInt 64 x &&& BitVec.ofInt 64 255).toNat ≤ 255 := by
    rw [BitVec.toNat_and]
    exact Nat.le_trans Nat.and_le_right (by decide)
  have e : Go.bits .and .i64 x 255 = IntKind.i64.wrap ((BitVec.ofInt 64 x &&& BitVec.ofInt 64 255).toNat : Int) := rfl
  rw [e, IntKind.wrap_i64]
  omega

theorem new_ends (l : List Int) (hl : l.length ≤ 1048576) : ∀ (d k : Nat) (h i : Int), 0 ≤ i → (l.length : Int) - i = d → d < k → ∃ h', spec_l01New.l0 k l h i = some (l, 0, h') := by
  intro d
  induction d with
  | zero =>
    intro k h i h0 h1 hk
    obtain ⟨k, rfl⟩ : ∃ m, k = m + 1 := ⟨k - 1, by omega⟩
    refine ⟨h, ?_⟩
    simp only [spec_l01New.l0]
    rw [if_neg (by omega)]
  | succ d ih =>
    intro k h i h0 h1 hk
    obtain ⟨k, rfl⟩ : ∃ m, k = m + 1 := ⟨k - 1, by omega⟩
    have hw : wrap64 (i + 1) = i + 1 := by unfold wrap64; omega
    simp only [spec_l01New.l0, hw]
    rw [if_pos (by omega)]
    by_cases c : i < 4000
    · rw [if_pos c, if_pos h0]
      exact ih k _ (i + 1) (by omega) (by omega) (by omega)
    · rw [if_neg c]
      exact ⟨h, rfl⟩

theorem byte_some (l : List Int) (i h : Int) (hi : 0 ≤ i) (hb : i ≤ 1048576) (hl : l.length ≤ 1048576) : ∃ x i' h', spec_l01Byte.f l i h = some (x, i', h') ∧ 0 ≤ x ∧ x ≤ 255 ∧ 0 ≤ i' ∧ i' ≤ 1048576 := by
  unfold spec_l01Byte.f
  by_cases c : i < (l.length : Int)
  · have hw : wrap64 (i + 1) = i + 1 := by unfold wrap64; omega
    rw [if_pos c, if_pos hi, hw]
    exact ⟨_, _, _, rfl, (and_255 _).1, (and_255 _).2, by omega, by omega⟩
  · rw [if_neg c]
    exact ⟨_, _, _, rfl, (and_255 _).1, (and_255 _).2, hi, hb⟩

theorem below_some (l : List Int) (i h n : Int) (hi : 0 ≤ i) (hb : i ≤ 1048576) (hl : l.length ≤ 1048576) (hn : 1 ≤ n) (hn' : n ≤ 4294967296) :
    ∃ x i' h', spec_l01Below.f l i h n = some (x, i', h') ∧ 0 ≤ x ∧ x < n ∧ 0 ≤ i' ∧ i' ≤ 1048576 := by
  unfold spec_l01Below.f
  rw [if_neg (by omega)]
  obtain ⟨x1, i1, h1, e1, a1, b1, c1, d1⟩ := byte_some l i h hi hb hl
  rw [e1]
  simp only [Option.bind_some]
  by_cases c : n ≤ 256
  · rw [if_pos c, if_neg (by omega)]
    refine ⟨_, _, _, rfl, Int.tmod_nonneg _ a1, ?_, c1, d1⟩
    rw [Int.tmod_eq_emod_of_nonneg a1]
    exact Int.emod_lt_of_pos _ (by omega)
  · rw [if_neg c]
    obtain ⟨x2, i2, h2, e2, a2, b2, c2, d2⟩ := byte_some l i1 h1 c1 d1 hl
    rw [e2]
    simp only [Option.bind_some]
    obtain ⟨x3, i3, h3, e3, a3, b3, c3, d3⟩ := byte_some l i2 h2 c2 d2 hl
    rw [e3]
    simp only [Option.bind_some]
    obtain ⟨x4, i4, h4, e4, a4, b4, c4, d4⟩ := byte_some l i3 h3 c3 d3 hl
    rw [e4]
    simp only [Option.bind_some]
    rw [if_neg (by omega)]
    have hs : 0 ≤ wrap64 (wrap64 (wrap64 (wrap64 (x1 * 16777216) + wrap64 (x2 * 65536)) + wrap64 (x3 * 256)) + x4) := by unfold wrap64; omega
    refine ⟨_, _, _, rfl, Int.tmod_nonneg _ hs, ?_, c4, d4⟩
    rw [Int.tmod_eq_emod_of_nonneg hs]
    exact Int.emod_lt_of_pos _ (by omega)

theorem places_loop (l : List Int) (hl : l.length ≤ 1048576) : ∀ (d k : Nat) (acc : List Int) (x i h : Int), 0 ≤ x → (12 : Int) - x = d → (acc.length : Int) = x → 0 ≤ i → i ≤ 1048576 → d < k → (∀ v ∈ acc, 0 ≤ v ∧ v ≤ 9999) →
    ∃ r, spec_DrawPlaces.l0 k acc x l i h = some r ∧ r.length = 12 ∧ ∀ v ∈ r, 0 ≤ v ∧ v ≤ 9999 := by
  intro d
  induction d with
  | zero =>
    intro k acc x i h h0 h1 ha hi hb hk hall
    obtain ⟨k, rfl⟩ : ∃ m, k = m + 1 := ⟨k - 1, by omega⟩
    refine ⟨acc, ?_, by omega, hall⟩
    simp only [spec_DrawPlaces.l0]
    rw [if_neg (by omega)]
  | succ d ih =>
    intro k acc x i h h0 h1 ha hi hb hk hall
    obtain ⟨k, rfl⟩ : ∃ m, k = m + 1 := ⟨k - 1, by omega⟩
    have hw : wrap64 (x + 1) = x + 1 := by unfold wrap64; omega
    obtain ⟨v, i', h', e, a, b, c, d'⟩ := below_some l i h 10000 hi hb hl (by omega) (by omega)
    obtain ⟨r, er, e2, e3⟩ := ih k (acc ++ [v]) (x + 1) i' h' (by omega) (by omega) (by simp; omega) c d' (by omega) (fun u hu => by
      rcases List.mem_append.1 hu with hu | hu
      · exact hall u hu
      · rw [List.mem_singleton.1 hu]; omega)
    refine ⟨r, ?_, e2, e3⟩
    simp only [spec_DrawPlaces.l0, hw, e, Option.bind_some]
    rw [if_pos (by omega), if_pos (by omega)]
    exact er

theorem places_some (l : List Int) (hl : l.length ≤ 1048576) (k : Nat) (hk : 1048590 < k) : ∃ r, spec_DrawPlaces.f k l = some r ∧ r.length = 12 ∧ ∀ v ∈ r, 0 ≤ v ∧ v ≤ 9999 := by
  obtain ⟨h', e⟩ := new_ends l hl l.length k (wrap64 (36801 + (l.length : Int))) 0 (by omega) (by omega) (by omega)
  obtain ⟨x, i1, h1, e1, _, _, c1, d1⟩ := byte_some l 0 h' (by omega) (by omega) hl
  obtain ⟨r, er, h2, h3⟩ := places_loop l hl 12 k [] 0 i1 h1 (by omega) (by omega) (by simp) c1 d1 (by omega) (by simp)
  refine ⟨r, ?_, h2, h3⟩
  unfold spec_DrawPlaces.f spec_l01New.f
  rw [e]
  simp only [Option.bind_some, e1]
  exact er

theorem rd_range (r : List Int) (h : ∀ v ∈ r, 0 ≤ v ∧ v ≤ 9999) (i : Nat) (hi : i < r.length) : 0 ≤ rd r i ∧ rd r i ≤ 9999 := by
  unfold rd
  rw [List.getD_eq_getElem?_getD, Int.toNat_natCast, List.getElem?_eq_getElem hi]
  exact h _ (List.getElem_mem hi)


/-- What PlaceOf and OffsetOf answer for the three schemas. u: units. -/
theorem size_of (s : Int) (hs : s = 1 ∨ s = 2 ∨ s = 3) : ∃ u v : Int, impl_SchemaOf.f s = some (u, v, true) ∧ impl_GroupSize.f s = some (8 * u) ∧ spec_GroupSize.f s = some (8 * u) ∧ (u = 2 ∨ u = 3 ∨ u = 4) := by
  rcases hs with rfl | rfl | rfl
  · exact ⟨2, 1, rfl, by simp [impl_GroupSize.f, impl_SchemaOf.f, wrap64], by simp [spec_GroupSize.f, spec_SchemaOf.f, wrap64], by omega⟩
  · exact ⟨3, 2, rfl, by simp [impl_GroupSize.f, impl_SchemaOf.f, wrap64], by simp [spec_GroupSize.f, spec_SchemaOf.f, wrap64], by omega⟩
  · exact ⟨4, 2, rfl, by simp [impl_GroupSize.f, impl_SchemaOf.f, wrap64], by simp [spec_GroupSize.f, spec_SchemaOf.f, wrap64], by omega⟩

theorem place_is (s u v n : Int) (h1 : impl_SchemaOf.f s = some (u, v, true)) (h2 : impl_GroupSize.f s = some (8 * u)) (hu : u = 2 ∨ u = 3 ∨ u = 4) (hn : 0 ≤ n) (hn' : n ≤ 100000) (k : Nat) (hk : 0 < k) :
    impl_PlaceOf.f k s n = some (n / (8 * u), n % (8 * u) / 4 % u, n % (8 * u) / 4 / u * 4 + n % (8 * u) % 4) := by
  obtain ⟨k, rfl⟩ : ∃ m, k = m + 1 := ⟨k - 1, by omega⟩
  unfold impl_PlaceOf.f impl_within.f
  simp only [h1, h2, impl_PlaceOf.j0, Option.bind_some, hn, hn', ge_iff_le, if_true, decide_true, Bool.not_true, Bool.false_eq_true, if_false]
  rw [if_neg (by omega), if_neg (by omega), if_neg (by omega)]
  have t1 : Int.tdiv n (8 * u) = n / (8 * u) := Int.tdiv_eq_ediv_of_nonneg hn
  have t2 : Int.tmod n (8 * u) = n % (8 * u) := Int.tmod_eq_emod_of_nonneg hn
  have p2 : 0 ≤ n % (8 * u) := Int.emod_nonneg _ (by omega)
  have q2 : n % (8 * u) < 8 * u := Int.emod_lt_of_pos _ (by omega)
  have t3 : Int.tdiv (n % (8 * u)) 4 = n % (8 * u) / 4 := Int.tdiv_eq_ediv_of_nonneg p2
  have p3 : 0 ≤ n % (8 * u) / 4 := by omega
  have w3 : wrap64 (n % (8 * u) / 4) = n % (8 * u) / 4 := by unfold wrap64; omega
  have t4 : Int.tmod (n % (8 * u) / 4) u = n % (8 * u) / 4 % u := Int.tmod_eq_emod_of_nonneg p3
  have t5 : Int.tdiv (n % (8 * u) / 4) u = n % (8 * u) / 4 / u := Int.tdiv_eq_ediv_of_nonneg p3
  have t6 : Int.tmod (n % (8 * u)) 4 = n % (8 * u) % 4 := Int.tmod_eq_emod_of_nonneg p2
  have w1 : wrap64 (n / (8 * u)) = n / (8 * u) := by clear t1 t2 t3 t4 t5 t6; rcases hu with rfl | rfl | rfl <;> (unfold wrap64; omega)
  have w5 : wrap64 (n % (8 * u) / 4 / u) = n % (8 * u) / 4 / u := by clear t1 t2 t3 t4 t5 t6; rcases hu with rfl | rfl | rfl <;> (unfold wrap64; omega)
  have w6 : wrap64 (n % (8 * u) / 4 / u * 4) = n % (8 * u) / 4 / u * 4 := by clear t1 t2 t3 t4 t5 t6; rcases hu with rfl | rfl | rfl <;> (unfold wrap64; omega)
  have w7 : wrap64 (n % (8 * u) / 4 / u * 4 + n % (8 * u) % 4) = n % (8 * u) / 4 / u * 4 + n % (8 * u) % 4 := by clear t1 t2 t3 t4 t5 t6; rcases hu with rfl | rfl | rfl <;> (unfold wrap64; omega)
  rw [t1, t2, t3, w3, t4, t5, t6, w1, w5, w6, w7]


def Lc (u i c : Nat) : Nat := ((List.range i).filter (fun n => n / 4 % u == c)).length
theorem Lc_zero (u c : Nat) : Lc u 0 c = 0 := rfl
theorem Lc_step (u i c : Nat) : Lc u (i + 1) c = Lc u i c + if i / 4 % u = c then 1 else 0 := by
  unfold Lc
  rw [List.range_succ, List.filter_append, List.length_append]
  by_cases h : i / 4 % u = c <;> simp [h]
theorem Lc_up (u c : Nat) : ∀ d i : Nat, Lc u i c ≤ Lc u (i + d) c
  | 0, _ => Nat.le_refl _
  | d + 1, i => by
    have := Lc_up u c d i
    rw [← Nat.add_assoc, Lc_step]
    omega
theorem Lc_lt (u i j : Nat) (h : i < j) : Lc u i (i / 4 % u) < Lc u j (i / 4 % u) := by
  obtain ⟨d, rfl⟩ : ∃ d, j = i + 1 + d := ⟨j - i - 1, by omega⟩
  have h1 := Lc_up u (i / 4 % u) d (i + 1)
  have h2 := Lc_step u i (i / 4 % u)
  rw [if_pos rfl] at h2
  omega
theorem Lc_row (u : Nat) (hu : u = 2 ∨ u = 3 ∨ u = 4) (n : Nat) (hn : n < 8 * u) : Lc u n (n / 4 % u) = n / 4 / u * 4 + n % 4 := by
  rcases hu with rfl | rfl | rfl
  · exact (by decide : ∀ n < 8 * 2, Lc 2 n (n / 4 % 2) = n / 4 / 2 * 4 + n % 4) n hn
  · exact (by decide +kernel : ∀ n < 8 * 3, Lc 3 n (n / 4 % 3) = n / 4 / 3 * 4 + n % 4) n hn
  · exact (by decide +kernel : ∀ n < 8 * 4, Lc 4 n (n / 4 % 4) = n / 4 / 4 * 4 + n % 4) n hn
theorem Lc_eight (u : Nat) (hu : u = 2 ∨ u = 3 ∨ u = 4) (n : Nat) (hn : n < 8 * u + 1) (c : Nat) (hc : c < u) : Lc u n c ≤ 8 := by
  rcases hu with rfl | rfl | rfl
  · exact (by decide +kernel : ∀ n < 8 * 2 + 1, ∀ c < 2, Lc 2 n c ≤ 8) n hn c hc
  · exact (by decide +kernel : ∀ n < 8 * 3 + 1, ∀ c < 3, Lc 3 n c ≤ 8) n hn c hc
  · exact (by decide +kernel : ∀ n < 8 * 4 + 1, ∀ c < 4, Lc 4 n c ≤ 8) n hn c hc
theorem Lc_all (u : Nat) (hu : u = 2 ∨ u = 3 ∨ u = 4) (n : Nat) (hn : n < 8 * u + 1) : ((List.range u).map (Lc u n)).sum = n := by
  rcases hu with rfl | rfl | rfl
  · exact (by decide +kernel : ∀ n < 8 * 2 + 1, ((List.range 2).map (Lc 2 n)).sum = n) n hn
  · exact (by decide +kernel : ∀ n < 8 * 3 + 1, ((List.range 3).map (Lc 3 n)).sum = n) n hn
  · exact (by decide +kernel : ∀ n < 8 * 4 + 1, ((List.range 4).map (Lc 4 n)).sum = n) n hn

attribute [local irreducible] Lc

theorem bt_left (a b : ByteArray) (i : Nat) (h : i < a.size) : bt (a ++ b) (i : Int) = bt a (i : Int) := by
  unfold bt
  simp only [Int.toNat_natCast]
  rw [dif_pos h, dif_pos (by rw [ByteArray.size_append]; omega), ByteArray.getElem_append_left h]
theorem bt_new (a t : ByteArray) (m : Nat) (h : m < t.size) : bt (a ++ t.extract m (m + 1)) (a.size : Int) = bt t (m : Int) := by
  have hs : (t.extract m (m + 1)).size = 1 := by rw [ByteArray.size_extract]; omega
  unfold bt
  simp only [Int.toNat_natCast]
  rw [dif_pos h, dif_pos (by rw [ByteArray.size_append]; omega), ByteArray.getElem_append_right (Nat.le_refl _), ByteArray.getElem_extract]
  simp
/-- The text of the first bytes of a text. -/
theorem str_of (t : ByteArray) (n : Nat) (hn : n ≤ t.size) : strOfNums ((List.range n).map fun (j : Nat) => bt t (j : Int)) = t.extract 0 n := by
  have hs : (strOfNums ((List.range n).map fun (j : Nat) => bt t (j : Int))).size = n := by simp [strOfNums, ByteArray.size]
  refine ByteArray.ext_getElem (by rw [hs, ByteArray.size_extract]; omega) fun i hi hi' => ?_
  rw [hs] at hi
  rw [ByteArray.getElem_extract, ByteArray.getElem_eq_getElem_data]
  simp only [strOfNums, List.getElem_toArray, List.getElem_map, List.getElem_range, bt, Int.toNat_natCast, Nat.zero_add]
  rw [dif_pos (by omega)]
  simp

def cl (u n : Nat) : Nat := n / 4 % u
def rw_ (u n : Nat) : Nat := n / 4 / u * 4 + n % 4
theorem pl_is (s v : Int) (u n : Nat) (h1 : impl_SchemaOf.f s = some ((u : Int), v, true)) (h2 : impl_GroupSize.f s = some (8 * (u : Int))) (hu : u = 2 ∨ u = 3 ∨ u = 4) (hn : n < 8 * u) (k : Nat) (hk : 0 < k) :
    impl_PlaceOf.f k s (n : Int) = some (0, (cl u n : Int), (rw_ u n : Int)) := by
  rw [place_is s u v n h1 h2 (by omega) (by omega) (by omega) k hk]
  unfold cl rw_
  simp only [Option.some.injEq, Prod.mk.injEq]
  rcases hu with rfl | rfl | rfl
  · exact ⟨by omega, by omega, by omega⟩
  · exact ⟨by omega, by omega, by omega⟩
  · exact ⟨by omega, by omega, by omega⟩
theorem rd_of (l : List ByteArray) (i : Nat) : rdOf ByteArray.empty l (i : Int) = l.getD i ByteArray.empty := by
  unfold rdOf
  rw [Int.toNat_natCast]
/-- How far the cut is. -/
def Cut (u : Nat) (t : ByteArray) (m : Nat) (l : List ByteArray) : Prop := l.length = u ∧ (∀ c < u, (l.getD c ByteArray.empty).size = Lc u m c) ∧ ∀ n < m, bt (l.getD (cl u n) ByteArray.empty) (rw_ u n : Int) = bt t (n : Int)
theorem set_get (l : List ByteArray) (i j : Nat) (x : ByteArray) (hi : i < l.length) : (l.set i x).getD j ByteArray.empty = if i = j then x else l.getD j ByteArray.empty := by
  rw [List.getD_eq_getElem?_getD, List.getElem?_set]
  by_cases h : i = j
  · rw [if_pos h, if_pos hi, if_pos h]; rfl
  · rw [if_neg h, if_neg h, List.getD_eq_getElem?_getD]
theorem cut_step (u : Nat) (hu : u = 2 ∨ u = 3 ∨ u = 4) (t : ByteArray) (m : Nat) (hm : m < 8 * u) (ht : m < t.size) (l : List ByteArray) (h : Cut u t m l) :
    Cut u t (m + 1) (l.set (cl u m) (l.getD (cl u m) ByteArray.empty ++ t.extract m (m + 1))) := by
  obtain ⟨h1, h2, h3⟩ := h
  have hc : cl u m < u := Nat.mod_lt _ (by omega)
  have hx : (t.extract m (m + 1)).size = 1 := by rw [ByteArray.size_extract]; omega
  refine ⟨by rw [List.length_set, h1], fun c hcu => ?_, fun n hn => ?_⟩
  · rw [set_get _ _ _ _ (by omega), Lc_step]
    by_cases e : cl u m = c
    · have e' : m / 4 % u = c := e
      rw [if_pos e, if_pos e', ByteArray.size_append, hx, ← h2 c hcu, ← e]
    · have e' : ¬ m / 4 % u = c := e
      rw [if_neg e, if_neg e', h2 c hcu]
      rfl
  · rw [set_get _ _ _ _ (by omega)]
    by_cases hnm : n = m
    · subst hnm
      have hr := Lc_row u hu n hm
      have h4 := h2 (cl u n) hc
      rw [show Lc u n (cl u n) = rw_ u n from hr] at h4
      rw [if_pos rfl, ← h4]
      exact bt_new _ _ _ ht
    · have hlt : n < m := by omega
      have hcn : cl u n < u := Nat.mod_lt _ (by omega)
      by_cases e : cl u m = cl u n
      · rw [if_pos e, e, bt_left, h3 n hlt]
        rw [h2 _ hcn]
        have := Lc_lt u n m hlt
        rw [Lc_row u hu n (by omega)] at this
        exact this
      · rw [if_neg e]
        exact h3 n hlt

theorem cut_loop (s v : Int) (u : Nat) (h1 : impl_SchemaOf.f s = some ((u : Int), v, true)) (h2 : impl_GroupSize.f s = some (8 * (u : Int))) (hu : u = 2 ∨ u = 3 ∨ u = 4) (t : ByteArray) (ht : t.size ≤ 8 * u) :
    ∀ (d k m : Nat) (acc : List ByteArray), m + d = t.size → Cut u t m acc → d + 1 < k → ∃ r, impl_CutUnits.l0 k s t acc (m : Int) = some (r, true) ∧ Cut u t t.size r := by
  intro d
  induction d with
  | zero =>
    intro k m acc g1 g2 hk
    obtain ⟨k, rfl⟩ : ∃ m, k = m + 1 := ⟨k - 1, by omega⟩
    refine ⟨acc, ?_, by rw [← g1]; exact g2⟩
    simp only [impl_CutUnits.l0]
    rw [if_neg (by omega)]
  | succ d ih =>
    intro k m acc g1 g2 hk
    obtain ⟨k, rfl⟩ : ∃ m, k = m + 1 := ⟨k - 1, by omega⟩
    have hw : wrap64 ((m : Int) + 1) = ((m + 1 : Nat) : Int) := by unfold wrap64; omega
    have hc : cl u m < u := Nat.mod_lt _ (by omega)
    obtain ⟨r, e1, e2⟩ := ih k (m + 1) _ (by omega) (cut_step u hu t m (by omega) (by omega) acc g2) (by omega)
    refine ⟨r, ?_, e2⟩
    have l1 := g2.1
    have l2 := g2.2.1 _ hc
    have l3 := Lc_eight u hu m (by omega) _ hc
    have hx : (t.extract m (m + 1)).size = 1 := by rw [ByteArray.size_extract]; omega
    simp only [impl_CutUnits.l0, hw, pl_is s v u m h1 h2 hu (by omega) k (by omega), Option.bind_some, rd_of, Int.toNat_natCast]
    rw [if_pos (by omega), if_pos (by omega), if_pos (by omega), if_pos (by omega), if_pos (by omega), if_pos (by omega), if_pos (by omega)]
    exact e1
theorem cut_is (s v : Int) (u : Nat) (h1 : impl_SchemaOf.f s = some ((u : Int), v, true)) (h2 : impl_GroupSize.f s = some (8 * (u : Int))) (hu : u = 2 ∨ u = 3 ∨ u = 4) (t : ByteArray) (ht : t.size ≤ 8 * u) (k : Nat) (hk : 100 < k) :
    ∃ r, impl_CutUnits.f k s t = some (r, true) ∧ Cut u t t.size r := by
  obtain ⟨k, rfl⟩ : ∃ m, k = m + 1 := ⟨k - 1, by omega⟩
  obtain ⟨r, e1, e2⟩ := cut_loop s v u h1 h2 hu t ht t.size k 0 (List.replicate u ⟨#[]⟩) (by omega) ⟨by simp, fun c hc => by
    rw [List.getD_eq_getElem?_getD, List.getElem?_replicate, if_pos hc]
    exact (Lc_zero u c).symm, fun n hn => by omega⟩ (by omega)
  refine ⟨r, ?_, e2⟩
  unfold impl_CutUnits.f
  have c : ¬ (t.size : Int) > 8 * (u : Int) := by omega
  simp only [h1, h2, Option.bind_some, if_true, c, decide_false, impl_CutUnits.j0, Bool.false_eq_true, if_false, Int.toNat_natCast]
  rw [if_pos (by omega), if_pos (by omega)]
  exact e1
theorem cut_not (s v : Int) (u : Nat) (h1 : impl_SchemaOf.f s = some ((u : Int), v, true)) (h2 : impl_GroupSize.f s = some (8 * (u : Int))) (t : ByteArray) (ht : 8 * u < t.size) (k : Nat) (hk : 100 < k) : impl_CutUnits.f k s t = some ([], false) := by
  obtain ⟨k, rfl⟩ : ∃ m, k = m + 1 := ⟨k - 1, by omega⟩
  unfold impl_CutUnits.f
  have c : (t.size : Int) > 8 * (u : Int) := by omega
  simp only [h1, h2, Option.bind_some, if_true, c, decide_true, impl_CutUnits.j0]

theorem set_mid (f : Nat → Int) (m d : Nat) : ((List.range m).map f ++ List.replicate (d + 1) 0).set m (f m) = (List.range (m + 1)).map f ++ List.replicate d 0 := by
  rw [List.set_append_right _ _ (by simp), List.range_succ, List.map_append, List.append_assoc]
  simp [List.replicate_succ]
theorem join_loop (s v : Int) (u : Nat) (h1 : impl_SchemaOf.f s = some ((u : Int), v, true)) (h2 : impl_GroupSize.f s = some (8 * (u : Int))) (hu : u = 2 ∨ u = 3 ∨ u = 4) (t : ByteArray) (ht : t.size ≤ 8 * u) (l : List ByteArray) (hl : Cut u t t.size l) (N : Nat) (hN : N ≤ t.size) :
    ∀ (d k m : Nat), m + d = N → d + 1 < k → impl_JoinUnits.l0 k s l ((List.range m).map (fun (j : Nat) => bt t (j : Int)) ++ List.replicate d 0) (N : Int) (m : Int) = some (t.extract 0 N, true) := by
  intro d
  induction d with
  | zero =>
    intro k m g1 hk
    obtain ⟨k, rfl⟩ : ∃ m, k = m + 1 := ⟨k - 1, by omega⟩
    simp only [impl_JoinUnits.l0, List.replicate_zero, List.append_nil]
    rw [if_neg (by omega), str_of t m (by omega), show m = N by omega]
  | succ d ih =>
    intro k m g1 hk
    obtain ⟨k, rfl⟩ : ∃ m, k = m + 1 := ⟨k - 1, by omega⟩
    have hw : wrap64 ((m : Int) + 1) = ((m + 1 : Nat) : Int) := by unfold wrap64; omega
    have hc : cl u m < u := Nat.mod_lt _ (by omega)
    have l1 := hl.1
    have l2 := hl.2.1 _ hc
    have l3 := hl.2.2 m (by omega)
    have l4 : rw_ u m < Lc u t.size (cl u m) := by
      have := Lc_lt u m t.size (by omega)
      rw [Lc_row u hu m (by omega)] at this
      exact this
    have hlen : ((List.range m).map (fun (j : Nat) => bt t (j : Int)) ++ List.replicate (d + 1) 0).length = N := by simp; omega
    simp only [impl_JoinUnits.l0, hw, pl_is s v u m h1 h2 hu (by omega) k (by omega), Option.bind_some, rd_of, Int.toNat_natCast, l3, hlen]
    rw [if_pos (by omega), if_pos (by omega), if_pos (by omega), if_pos (by omega), if_pos (by omega), if_pos (by omega), if_pos (by omega), set_mid (fun (j : Nat) => bt t (j : Int))]
    exact ih k (m + 1) (by omega) (by omega)
theorem join_is (s v : Int) (u : Nat) (h1 : impl_SchemaOf.f s = some ((u : Int), v, true)) (h2 : impl_GroupSize.f s = some (8 * (u : Int))) (hu : u = 2 ∨ u = 3 ∨ u = 4) (t : ByteArray) (ht : t.size ≤ 8 * u) (l : List ByteArray) (hl : Cut u t t.size l) (N : Nat) (hN : N ≤ t.size) (k : Nat) (hk : 100 < k) :
    impl_JoinUnits.f k s l (N : Int) = some (t.extract 0 N, true) := by
  obtain ⟨k, rfl⟩ : ∃ m, k = m + 1 := ⟨k - 1, by omega⟩
  have l1 := hl.1
  have c1 : (l.length : Int) = (u : Int) := by omega
  have c2 : (N : Int) ≤ 8 * (u : Int) := by omega
  have c3 : (N : Int) ≥ 0 := by omega
  unfold impl_JoinUnits.f impl_within.f
  simp only [h1, h2, Option.bind_some, if_true, if_pos c1, if_pos c3, c2, decide_true, impl_JoinUnits.j0, Bool.not_true, Bool.false_eq_true, if_false, Int.toNat_natCast, List.length_replicate]
  rw [if_pos (by omega)]
  exact join_loop s v u h1 h2 hu t ht l hl N hN N k 0 (by omega) (by omega)

theorem text_loop (l : List Int) (hl : l.length ≤ 1048576) (n : Nat) (hn : n ≤ 5000) : ∀ (d k : Nat) (acc : List Int) (x i h : Int), 0 ≤ x → (n : Int) - x = d → (acc.length : Int) = x → 0 ≤ i → i ≤ 1048576 → d < k →
    ∃ r i' h', spec_l01Text.l0 k (n : Int) acc x l i h = some (strOfNums r, i', h') ∧ r.length = n ∧ 0 ≤ i' ∧ i' ≤ 1048576 := by
  intro d
  induction d with
  | zero =>
    intro k acc x i h h0 h1 ha hi hb hk
    obtain ⟨k, rfl⟩ : ∃ m, k = m + 1 := ⟨k - 1, by omega⟩
    refine ⟨acc, i, h, ?_, by omega, hi, hb⟩
    simp only [spec_l01Text.l0]
    rw [if_neg (by omega)]
  | succ d ih =>
    intro k acc x i h h0 h1 ha hi hb hk
    obtain ⟨k, rfl⟩ : ∃ m, k = m + 1 := ⟨k - 1, by omega⟩
    have hw : wrap64 (x + 1) = x + 1 := by unfold wrap64; omega
    obtain ⟨v, i', h', e, a, b, c, d'⟩ := byte_some l i h hi hb hl
    obtain ⟨r, i2, h2, er, e2, e3, e4⟩ := ih k (acc ++ [v % 256]) (x + 1) i' h' (by omega) (by omega) (by simp; omega) c d' (by omega)
    refine ⟨r, i2, h2, ?_, e2, e3, e4⟩
    simp only [spec_l01Text.l0, hw, e, Option.bind_some]
    rw [if_pos (by omega), if_pos (by omega)]
    exact er
theorem text_some (l : List Int) (hl : l.length ≤ 1048576) (n : Nat) (hn : n ≤ 5000) (i h : Int) (hi : 0 ≤ i) (hb : i ≤ 1048576) (k : Nat) (hk : 5001 < k) :
    ∃ r i' h', spec_l01Text.f k l i h (n : Int) = some (r, i', h') ∧ r.size = n ∧ 0 ≤ i' ∧ i' ≤ 1048576 := by
  obtain ⟨k, rfl⟩ : ∃ m, k = m + 1 := ⟨k - 1, by omega⟩
  obtain ⟨r, i', h', e, e2, e3, e4⟩ := text_loop l hl n hn n k [] 0 i h (by omega) (by omega) (by simp) hi hb (by omega)
  refine ⟨strOfNums r, i', h', ?_, by simp [strOfNums, ByteArray.size, e2], e3, e4⟩
  unfold spec_l01Text.f
  rw [if_neg (by omega)]
  simp only [spec_l01Text.j0]
  exact e
theorem group_some (l : List Int) (hl : l.length ≤ 1048576) (k : Nat) (hk : 1048590 < k) :
    ∃ (s v : Int) (u : Nat) (t : ByteArray), spec_DrawGroup.f k l = some (s, t) ∧ impl_SchemaOf.f s = some ((u : Int), v, true) ∧ impl_GroupSize.f s = some (8 * (u : Int)) ∧ (u = 2 ∨ u = 3 ∨ u = 4) ∧ t.size ≤ 8 * u := by
  obtain ⟨h', e⟩ := new_ends l hl l.length k (wrap64 (36801 + (l.length : Int))) 0 (by omega) (by omega) (by omega)
  obtain ⟨x, i1, h1, e1, a1, b1, c1, d1⟩ := below_some l 0 h' 3 (by omega) (by omega) hl (by omega) (by omega)
  have hw : wrap64 (1 + x) = 1 + x := by unfold wrap64; omega
  obtain ⟨u, v, g1, g2, g3, hu⟩ := size_of (1 + x) (by omega)
  have hw2 : wrap64 (8 * u + 1) = 8 * u + 1 := by unfold wrap64; omega
  obtain ⟨y, i2, h2, e2, a2, b2, c2, d2⟩ := below_some l i1 h1 (8 * u + 1) c1 d1 hl (by omega) (by omega)
  obtain ⟨r, i3, h3, e3, e4, _, _⟩ := text_some l hl y.toNat (by omega) i2 h2 c2 d2 k (by omega)
  rw [show ((y.toNat : Nat) : Int) = y by omega] at e3
  refine ⟨1 + x, v, u.toNat, r, ?_, by rw [g1, show ((u.toNat : Nat) : Int) = u by omega], by rw [g2, show ((u.toNat : Nat) : Int) = u by omega], by omega, by omega⟩
  unfold spec_DrawGroup.f spec_l01New.f
  rw [e]
  simp only [Option.bind_some, e1, hw, g3, hw2, e2, e3]

theorem w_i (i : Nat) (h : i < 4) : wrap64 ((i : Int) + 1) = ((i + 1 : Nat) : Int) := by unfold wrap64; omega
theorem w_s (s : Int) (L : Nat) (h0 : 0 ≤ s) (h : s ≤ 32) (hl : L ≤ 8) : wrap64 (s + (L : Int)) = s + (L : Int) := by unfold wrap64; omega
theorem sum_loop (u : Nat) (hu : u = 2 ∨ u = 3 ∨ u = 4) (t : ByteArray) (ht : t.size ≤ 8 * u) (l : List ByteArray) (hl : Cut u t t.size l) (x : Int) (hx : 0 ≤ x) (hx' : x ≤ t.size) :
    ∀ (d k i : Nat) (sum : Int), i + d = u → d < k → sum = (((List.range i).map (Lc u t.size)).sum : Nat) → laws_FnCuts.l0 k t l true (t.extract 0 t.size) true x (t.extract 0 x.toNat) true false sum (i : Int) = some true := by
  intro d
  induction d with
  | zero =>
    intro k i sum g1 hk hs
    obtain ⟨k, rfl⟩ : ∃ m, k = m + 1 := ⟨k - 1, by omega⟩
    have l1 := hl.1
    obtain rfl : i = u := by clear hs; omega
    rw [Lc_all i hu t.size (by clear hs; omega)] at hs
    have c : ¬ (i : Int) < (l.length : Int) := by clear hs; omega
    simp only [laws_FnCuts.l0, ByteArray.extract_zero_size, if_true, Bool.false_eq_true, if_false, if_neg c, if_pos hx, if_pos hx', hs]
    simp
  | succ d ih =>
    intro k i sum g1 hk hs
    obtain ⟨k, rfl⟩ : ∃ m, k = m + 1 := ⟨k - 1, by omega⟩
    have l1 := hl.1
    have l2 := hl.2.1 i (by clear hs; omega)
    have l3 := Lc_eight u hu t.size (by clear hs l2; omega) i (by clear hs l2; omega)
    have l4 : ((List.range (i + 1)).map (Lc u t.size)).sum = ((List.range i).map (Lc u t.size)).sum + Lc u t.size i := by rw [List.range_succ]; simp
    have l5 : ((List.range i).map (Lc u t.size)).sum ≤ 8 * i := by
      have : ∀ i : Nat, i ≤ u → ((List.range i).map (Lc u t.size)).sum ≤ 8 * i := by
        intro i
        induction i with
        | zero => intro _; simp
        | succ i ih =>
          intro h
          have a1 := ih (by clear hs l2 l3 l4; omega)
          have a2 := Lc_eight u hu t.size (by clear hs l2 l3 l4 a1; omega) i (by clear hs l2 l3 l4 a1; omega)
          rw [List.range_succ, List.map_append, List.sum_append]
          simp only [List.map_cons, List.map_nil, List.sum_cons, List.sum_nil]
          clear hs l2 l3 l4
          generalize ((List.range i).map (Lc u t.size)).sum = S at a1 ⊢
          generalize Lc u t.size i = L at a2 ⊢
          omega
      exact this i (by clear hs l2 l3 l4; omega)
    have hrec := ih k (i + 1) (sum + (Lc u t.size i : Int)) (by clear l2 l3 l4 l5 hs; omega) (by clear l2 l3 l4 l5 hs; omega) (by rw [hs, l4]; exact (Int.natCast_add _ _).symm)
    clear l4 ih hl
    generalize ((List.range i).map (Lc u t.size)).sum = S at hs l5
    generalize Lc u t.size i = L at l2 l3 hrec
    have b1 : i < 4 := by clear hs l2 l3 l5 hrec hx hx' ht; omega
    have c1 : (i : Int) < (l.length : Int) := by clear hs l2 l3 l5 hrec hx hx' ht; omega
    have b2 : 0 ≤ sum ∧ sum ≤ 32 := by clear hrec l2 l3 hx hx' ht hu g1 l1; omega
    have hw : wrap64 ((i : Int) + 1) = ((i + 1 : Nat) : Int) := w_i i b1
    have hw2 : wrap64 (sum + (L : Int)) = sum + (L : Int) := w_s sum L b2.1 b2.2 l3
    have c2 : (0 : Int) ≤ (i : Int) := Int.natCast_nonneg i
    have c3 : ¬ (L : Int) > 8 := by clear hrec l2 l5 hs b2 hx hx' ht hu g1 l1; omega
    simp only [laws_FnCuts.l0, hw, rd_of, l2, hw2, if_pos c1, if_pos c2, if_neg c3]
    exact hrec

theorem FnCuts : laws_FnCuts.Pure := by
  intro l _ _ _
  by_cases hb : (l.length : Int) > 1048576
  · refine ⟨0, ?_⟩
    unfold laws_FnCuts.f laws_big.f
    simp [hb]
  · obtain ⟨K, hK⟩ : ∃ K : Nat, 1048600 = K := ⟨_, rfl⟩
    refine ⟨K, ?_⟩
    obtain ⟨s, v, u, t, e, h1, h2, hu, ht⟩ := group_some l (by omega) K (by omega)
    obtain ⟨r, e1, hr⟩ := cut_is s v u h1 h2 hu t ht K (by omega)
    obtain ⟨ps, e2, hp, hall⟩ := places_some l (by omega) K (by omega)
    have r0 : 0 ≤ rd ps 0 ∧ rd ps 0 ≤ 9999 := rd_range ps hall 0 (by omega)
    have hw : wrap64 ((t.size : Int) + 1) = (t.size : Int) + 1 := by unfold wrap64; omega
    have ht0 : Int.tmod (rd ps 0) ((t.size : Int) + 1) = rd ps 0 % ((t.size : Int) + 1) := Int.tmod_eq_emod_of_nonneg r0.1
    have m0 : 0 ≤ rd ps 0 % ((t.size : Int) + 1) := Int.emod_nonneg _ (by omega)
    have m1 : rd ps 0 % ((t.size : Int) + 1) < (t.size : Int) + 1 := Int.emod_lt_of_pos _ (by omega)
    have e3 := join_is s v u h1 h2 hu t ht r hr t.size (Nat.le_refl _) K (by omega)
    have e4 := join_is s v u h1 h2 hu t ht r hr (rd ps 0 % ((t.size : Int) + 1)).toNat (by omega) K (by omega)
    rw [show (((rd ps 0 % ((t.size : Int) + 1)).toNat : Nat) : Int) = rd ps 0 % ((t.size : Int) + 1) by omega] at e4
    have e5 := cut_not s v u h1 h2 (t ++ (⟨#[48, 49, 50, 51, 52, 53, 54, 55, 56, 57, 48, 49, 50, 51, 52, 53, 54, 55, 56, 57, 48, 49, 50, 51, 52, 53, 54, 55, 56, 57, 48, 49, 50, 51, 52, 53, 54, 55, 56, 57]⟩ : ByteArray)) (by
      rw [ByteArray.size_append, show (ByteArray.mk #[48, 49, 50, 51, 52, 53, 54, 55, 56, 57, 48, 49, 50, 51, 52, 53, 54, 55, 56, 57, 48, 49, 50, 51, 52, 53, 54, 55, 56, 57, 48, 49, 50, 51, 52, 53, 54, 55, 56, 57]).size = 40 from rfl]
      omega) K (by omega)
    unfold laws_FnCuts.f laws_big.f
    simp only [hb, decide_false, Option.bind_some, Bool.false_eq_true, if_false, e, e1, e2, e3, hw, ht0, e4, e5]
    rw [if_pos (by omega), if_neg (by omega), if_pos (by omega)]
    exact sum_loop u hu t ht r hr _ m0 (by omega) u K 0 0 (by omega) (by omega) (by simp)

end Go.Proofs.Ytgmmihbogfcppaa.Pure
