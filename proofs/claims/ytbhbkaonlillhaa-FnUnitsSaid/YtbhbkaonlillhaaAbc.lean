/- Abstract states of Go's memory: what frames hold, and rules for code over them (part 3). -/
import Derived.Test.YtbhbkaonlillhaaAbb
/- A drawn region with one store (or append) that some quiet operations may come behind. -/
namespace Go.Abs
open Go
set_option linter.unusedVariables false
set_option linter.unusedSimpArgs false
variable {Z : TypeId → Nat}
theorem ready_all {ops : Array Oper} (hpre : ∀ (i : Nat) (o : Oper), ops[i]? = some o → ∀ e ∈ o.after, Region.binds .any e = true → e.on < i) : ∀ listed : Array Bool, listed.size = ops.size → Region.ready .any ops listed = [] → ∀ i, i < ops.size → listed.getD i false = true := by
  intro listed hsz hr i
  induction i using Nat.strongRecOn with
  | ind i ih =>
    intro hi
    cases hli : listed.getD i false with
    | true => rfl
    | false =>
      exfalso
      have hmem : i ∈ Region.ready .any ops listed := by
        unfold Region.ready
        rw [List.mem_filter]
        refine ⟨by simpa using hi, ?_⟩
        have ho : ops[i]? = some ops[i] := Array.getElem?_eq_getElem hi
        have h1 : listed.getD i true = false := by
          have : i < listed.size := by omega
          simp [Array.getD_eq_getD_getElem?, this] at hli ⊢
          exact hli
        simp only [h1, ho, Option.map_some, Option.getD_some, Bool.not_false, Bool.true_and, Array.all_eq_true]
        intro j hj
        cases hb : Region.binds .any ops[i].after[j] with
        | false => simp
        | true =>
          have hlt := hpre i _ ho _ (Array.getElem_mem hj) hb
          simp [ih _ hlt (by omega)]
      rw [hr] at hmem
      cases hmem
/-- What being ready says. -/
theorem ready_inv {ops : Array Oper} {listed : Array Bool} (hsz : listed.size = ops.size) {i : Nat} (h : i ∈ Region.ready .any ops listed) : i < ops.size ∧ listed.getD i false = false ∧ ∀ o, ops[i]? = some o → ∀ e ∈ o.after, Region.binds .any e = true → listed.getD e.on false = true := by
  unfold Region.ready at h
  rw [List.mem_filter] at h
  obtain ⟨hi1, hi2⟩ := h
  have hin : i < ops.size := by simpa using hi1
  have ho : ops[i]? = some ops[i] := Array.getElem?_eq_getElem hin
  simp only [ho, Option.map_some, Option.getD_some, Bool.and_eq_true, Bool.not_eq_true', Array.all_eq_true, Bool.or_eq_true] at hi2
  refine ⟨hin, ?_, fun o ho2 e he hb => ?_⟩
  · have : i < listed.size := by omega
    have h3 := hi2.1
    simp [Array.getD_eq_getD_getElem?, this] at h3 ⊢
    exact h3
  · rw [ho] at ho2; cases ho2
    obtain ⟨m, hm, rfl⟩ := Array.getElem_of_mem he
    have := hi2.2 m hm
    rw [hb] at this
    simpa using this
/-- What it waits for is done; what waits for it is not. -/
theorem ready_anc {ops : Array Oper} {listed : Array Bool} (hsz : listed.size = ops.size) (hcl : ∀ j o, ops[j]? = some o → listed.getD j false = true → ∀ e ∈ o.after, Region.binds .any e = true → listed.getD e.on false = true) {i : Nat} (h : i ∈ Region.ready .any ops listed) :
    (∀ k, Anc ops k i → listed.getD k false = false) ∧ ∀ k, Anc ops i k → k ≠ i → listed.getD k false = true := by
  obtain ⟨h1, h2, h3⟩ := ready_inv hsz h
  refine ⟨fun k hk => ?_, fun k hk hne => ?_⟩
  · cases hf : listed.getD k false with
    | false => rfl
    | true => have := hk (fun j => listed.getD j false) hcl hf; rw [h2] at this; cases this
  · have := hk (fun j => listed.getD j false || j == i) (fun j o hj hfj ed hed hb => by
      simp only [Bool.or_eq_true, beq_iff_eq] at hfj ⊢
      rcases hfj with h4 | rfl
      · exact .inl (hcl j o hj h4 ed hed hb)
      · exact .inl (h3 o hj ed hed hb)) (by simp)
    simpa [hne] using this
theorem listed_set {listed : Array Bool} {i : Nat} (hi : i < listed.size) (j : Nat) : (listed.setIfInBounds i true).getD j false = (listed.getD j false || j == i) := by
  simp only [Array.getD_eq_getD_getElem?, Array.getElem?_setIfInBounds]
  by_cases hj : i = j
  · subst hj; simp [hi]
  · have : ¬ j = i := fun e => hj e.symm
    simp [hj, this]
theorem count_set {n : Nat} {listed : Array Bool} {i : Nat} (hi : i < listed.size) (hin : i < n) (hf : listed.getD i false = false) {c : Nat} (hc : ((List.range n).filter fun j => !listed.getD j false).length ≤ c + 1) :
    ((List.range n).filter fun j => !(listed.setIfInBounds i true).getD j false).length ≤ c := by
  have hsub : ((List.range n).filter fun j => !(listed.setIfInBounds i true).getD j false) = ((List.range n).filter fun j => !listed.getD j false).filter fun j => !(j == i) := by
    rw [List.filter_filter]
    congr 1
    funext j
    rw [listed_set hi]
    cases listed.getD j false <;> cases (j == i) <;> rfl
  rw [hsub]
  have hmem : i ∈ (List.range n).filter fun j => !listed.getD j false := by
    rw [List.mem_filter]; exact ⟨by simpa using hin, by simp [hf]⟩
  have hlt := (List.length_filter_lt_length_iff_exists (p := fun j => !(j == i))).2 ⟨i, hmem, by simp⟩
  omega
section
variable {P : Program} {G : World → Prop} {B0 : Nat}
theorem absorbL_frame : ∀ (xs : List AV) (es : List TypeId) (st st' : St) (tr : AV → AV) (cells : List Cell), absorbL es st tr xs = some (st', cells) → ∃ κ, Moves st st' κ ∧ ∀ sl1, absorbL es { st with sl := sl1 } tr xs = some ({ st' with sl := mapS κ sl1 }, cells)
  | [], es, st, st', tr, cells, h => by
    simp only [absorbL, Option.some.injEq, Prod.mk.injEq] at h
    obtain ⟨rfl, rfl⟩ := h
    exact ⟨id, .refl _, fun sl1 => by rw [mapS_id]; rfl⟩
  | x :: xs, es, st, st', tr, cells, h => by
    simp only [absorbL] at h
    split at h
    · rename_i st1 cell q h1
      split at h
      · rename_i st2 cells2 h2
        cases h
        obtain ⟨κ1, m1, f1⟩ := absorb_frame h1
        obtain ⟨κ2, m2, f2⟩ := absorbL_frame xs _ _ _ _ _ h2
        refine ⟨_, m1.trans m2, fun sl1 => ?_⟩
        simp only [absorbL, f1]
        have := f2 (mapS κ1 sl1)
        rw [mapS_comp] at this
        simp only [this]
      · cases h
    · cases h
theorem buildSliceA_frame {st st' : St} {nid len : Nat} {t : TypeId} {parts : List (Nat × Operand)} {av : AV} (h : buildSliceA P st nid t len parts = some (av, st')) :
    ∃ κ, Moves st st' κ ∧ ∀ sl1, (∀ p ∈ parts, evA { st with sl := sl1 } p.2 = evA st p.2) → buildSliceA P { st with sl := sl1 } nid t len parts = some (av, { st' with sl := mapS κ sl1 }) := by
  unfold buildSliceA at h
  split at h
  · rename_i e he
    split at h
    · rename_i sz by_ zs hi
      split at h
      · rename_i hc
        split at h
        · rename_i r hr
          split at h
          · rename_i st1 cells hb
            cases h
            obtain ⟨κ, m, f⟩ := absorbL_frame _ _ _ _ _ _ hb
            refine ⟨κ, m.trans (.fill _ _ _ _), fun sl1 hp => ?_⟩
            have hm : (parts.map fun p => (p.1, evA { st with sl := sl1 } p.2)) = parts.map fun p => (p.1, evA st p.2) := List.map_congr_left fun p h => by rw [hp p h]
            unfold buildSliceA
            simp only [he, hi, hm, if_pos hc, hr, f sl1]
            rfl
          · cases h
        · cases h
      · cases h
    · cases h
  · cases h
def isM : Op → Bool
  | .store _ _ _ => true
  | .buildSlice _ _ _ => true
  | .call { callee := .builtin .append, .. } => true
  | _ => false
theorem evalM_frame {st s : St} {nid : Nat} {op : Op} {av : AV} (hm : isM op = true) (hb : evalOp P st nid op = some (av, s)) :
    ∃ κ, Moves st s κ ∧ ∀ sl1, (∀ o ∈ op.operands.toList, evA { st with sl := sl1 } o = evA st o) → evalOp P { st with sl := sl1 } nid op = some (av, { s with sl := mapS κ sl1 }) := by
  cases op with
  | store t x y =>
    simp only [evalOp, Option.map_eq_some_iff, Prod.mk.injEq] at hb
    obtain ⟨s', h1, rfl, rfl⟩ := hb
    obtain ⟨κ, m, f⟩ := storeA_frame h1
    refine ⟨κ, m, fun sl1 ho => ?_⟩
    simp [Op.operands] at ho
    simp only [evalOp]
    rw [ho.1, ho.2, f sl1]
    rfl
  | buildSlice t n parts =>
    simp only [evalOp] at hb ⊢
    obtain ⟨κ, m, f⟩ := buildSliceA_frame hb
    exact ⟨κ, m, fun sl1 ho => f sl1 fun p hp => ho p.2 (by simp [Op.operands]; exact ⟨p.1, by simpa using hp⟩)⟩
  | call c =>
    obtain ⟨cal, args, tys⟩ := c
    cases cal with
    | builtin b =>
      cases b <;> simp only [isM, Bool.false_eq_true] at hm
      simp only [evalOp] at hb ⊢
      unfold builtinA at hb
      split at hb <;> first | contradiction | skip
      rename_i s0 x0 t0 t1 h1 h2 h3
      split at hb
      · rename_i ht
        obtain ⟨κ, m, f⟩ := appendA_frame hb
        refine ⟨κ, m, fun sl1 ho => ?_⟩
        have ha : args.toList.map (evA { st with sl := sl1 }) = args.toList.map (evA st) := List.map_congr_left fun o hoo => ho o (by simp [Op.operands, Call.operands]; simpa using hoo)
        rw [ha, h2, h3]
        simp only [builtinA, if_pos ht]
        exact f sl1
      · cases hb
    | _ => simp [isM] at hm
  | _ => simp [isM] at hm
end
end Go.Abs

/- Such a region: every order. -/
namespace Go.Abs
open Go
set_option linter.unusedVariables false
set_option linter.unusedSimpArgs false
variable {Z : TypeId → Nat}
section
variable {P : Program} {G : World → Prop} {B0 : Nat}
def dstAt (ops : Array Oper) (k : Nat) : Option Nat := (ops[k]?).bind (·.dst)
/-- B, but for what is not done yet. -/
def Near (ops : Array Oper) (m : Nat) (U f : Nat → Bool) (B st : St) : Prop :=
  st.nt = B.nt ∧ st.rt = B.rt ∧ st.bx = B.bx ∧ ∀ t, getA st.sl t = getA B.sl t ∨ ∃ u, u < m ∧ U u = true ∧ f u = false ∧ dstAt ops u = some t
theorem phase2 (hZ : ZOk P Z) {E : Ent} (hE : EOk G B0 E) {ops : Array Oper} {m : Nat} (hms : m < ops.size) {U : Nat → Bool} {B : St} {N : Exit → Act → World → Prop}
    (hpre : ∀ (i : Nat) (o : Oper), ops[i]? = some o → ∀ e ∈ o.after, Region.binds .any e = true → e.on < i)
    (hUB : ∀ u, u < m → U u = true → ∃ o e nid, ops[u]? = some o ∧ StepD Z P G B0 (ops.toList.map (·.dst)) (fun _ => true) nid o B e ∧ e.fill = none ∧ (∀ t, o.dst = some t → e.av = getA B.sl t) ∧ E.nl ≤ nid)
    (hUr : ∀ u u' o, u < m → u' < m → U u = true → U u' = true → ops[u]? = some o → ∀ t ∈ readsOf (ops.toList.map (·.dst)) o, dstAt ops u' = some t → Anc ops u u' ∧ u' ≠ u)
    (htail : ∀ i k, i < ops.size → m < i → k < i → Anc ops i k)
    (hN : ∀ (fuel : Nat) (listed : Array Bool) (a' : Act) (w' : World), listed.size = ops.size → (∀ j, listed.getD j false = decide (j < m + 1)) → ops.size - (m + 1) ≤ fuel → Holds Z E B a' w' → wpAny P .any ops N fuel listed a' w') :
    ∀ (fuel : Nat) (listed : Array Bool) (st : St) (a : Act) (w : World), listed.size = ops.size → ((List.range ops.size).filter fun i => !listed.getD i false).length ≤ fuel → (∀ j, listed.getD j false = true → j < m + 1) → listed.getD m false = true → (∀ k, k < m → U k = false → listed.getD k false = true) →
      (∀ j o, ops[j]? = some o → listed.getD j false = true → ∀ e ∈ o.after, Region.binds .any e = true → listed.getD e.on false = true) → Near ops m U (fun j => listed.getD j false) B st → Holds Z E st a w → wpAny P .any ops N fuel listed a w := by
  have hdone : ∀ (fuel : Nat) (listed : Array Bool) (st : St) (a : Act) (w : World), listed.size = ops.size → ((List.range ops.size).filter fun i => !listed.getD i false).length ≤ fuel → (∀ j, listed.getD j false = true → j < m + 1) → listed.getD m false = true → (∀ k, k < m → listed.getD k false = true) →
      Near ops m U (fun j => listed.getD j false) B st → Holds Z E st a w → wpAny P .any ops N fuel listed a w := by
    intro fuel listed st a w hsz hc hle hlm hall hn hh
    have hj : ∀ j, listed.getD j false = decide (j < m + 1) := fun j => by
      by_cases h : j < m + 1
      · have : listed.getD j false = true := by
          rcases Nat.lt_or_ge j m with h2 | h2
          · exact hall j h2
          · have : j = m := by omega
            subst this; exact hlm
        rw [this]; simp [h]
      · cases hv : listed.getD j false with
        | false => simp [h]
        | true => exact absurd (hle j hv) h
    refine hN fuel listed a w hsz hj (by rw [← count_rest ops.size (m + 1) _ (by omega) hj]; exact hc) (Eqv.holds ⟨hn.1, hn.2.1, hn.2.2.1, fun t => ?_⟩ hh)
    rcases hn.2.2.2 t with h | ⟨u, h1, _, h3, _⟩
    · exact h
    · simp only [hall u h1, Bool.true_eq_false] at h3
  intro fuel
  induction fuel with
  | zero =>
    intro listed st a w hsz hc hle hlm hall hcl hn hh
    refine hdone 0 listed st a w hsz hc hle hlm (fun k hk => ?_) hn hh
    have h0 := List.eq_nil_of_length_eq_zero (Nat.le_zero.1 hc)
    rw [List.filter_eq_nil_iff] at h0
    have := h0 k (by simp; omega)
    simpa using this
  | succ fuel ih =>
    intro listed st a w hsz hc hle hlm hall hcl hn hh
    by_cases hd : ∀ k, k < m → listed.getD k false = true
    · exact hdone _ listed st a w hsz hc hle hlm hd hn hh
    refine ⟨fun hr => absurd (fun k hk => ready_all hpre listed hsz hr k (by omega)) hd, fun i hi => ?_⟩
    obtain ⟨hin, hfi, hpl⟩ := ready_inv hsz hi
    obtain ⟨hla, hea⟩ := ready_anc hsz hcl hi
    have him : i < m := by
      rcases Nat.lt_trichotomy i m with h | h | h
      · exact h
      · subst h; rw [hlm] at hfi; cases hfi
      · exact absurd (fun k hk => hea k (htail i k hin h (by omega)) (by omega)) hd
    have hUi : U i = true := by
      cases hu : U i with
      | true => rfl
      | false => rw [hall i him hu] at hfi; cases hfi
    obtain ⟨o, e, nid, ho, hs, hf, hav, hnl⟩ := hUB i him hUi
    have hset := listed_set (listed := listed) (i := i) (by omega)
    have hgo := stepD_ok (H := fun _ => true) hZ hE hnl hs (st1 := st) (fun t ht => by
        rcases hn.2.2.2 t with h | ⟨u, h1, h2, h3, h4⟩
        · exact h
        · obtain ⟨h5, h6⟩ := hUr i u o him h1 hUi h2 ho t ht h4
          have := hea u h5 h6
          simp only [this, Bool.true_eq_false] at h3) (fun r _ => by rw [hn.2.1, hn.2.2.1]; exact ⟨rfl, rfl⟩) hn.1 (fun n hn2 => by simp [Eff.root, hf] at hn2) hh (K := wpAny P .any ops N fuel (listed.setIfInBounds i true)) (N := N) (fun a' w' hh' => by
        have hr := on_rt e st
        rw [hf] at hr
        refine ih _ (e.on st) a' w' (by simpa using hsz) (count_set (by omega) hin hfi hc) (fun j hj => ?_) (by rw [hset, hlm]; rfl) (fun k hk hu => by rw [hset, hall k hk hu]; rfl) (fun j o' hj hfj ed hed hb => ?_) ⟨hr.2.2.trans hn.1, hr.1.trans hn.2.1, hr.2.1.trans hn.2.2.1, fun t => ?_⟩ hh'
        · rw [hset] at hj
          simp only [Bool.or_eq_true, beq_iff_eq] at hj
          rcases hj with h | rfl
          · exact hle j h
          · omega
        · rw [hset] at hfj ⊢
          simp only [Bool.or_eq_true, beq_iff_eq] at hfj ⊢
          rcases hfj with h | rfl
          · exact .inl (hcl j o' hj h ed hed hb)
          · exact .inl (hpl o' hj ed hed hb)
        · rw [on_getA]
          by_cases hd2 : e.dst = some t
          · rw [if_pos hd2]
            exact .inl (hav t (hs.dst ▸ hd2))
          · rw [if_neg hd2]
            rcases hn.2.2.2 t with h | ⟨u, h1, h2, h3, h4⟩
            · exact .inl h
            · refine .inr ⟨u, h1, h2, ?_, h4⟩
              simp only [hset, h3, Bool.false_or, beq_eq_false_iff_ne]
              rintro rfl
              refine hd2 ?_
              rw [hs.dst]
              simpa [dstAt, ho] using h4)
    unfold wpOp
    simp only [ho]
    split
    · rename_i hw; rw [if_pos hw] at hgo; exact .inl hgo
    · rename_i hw; rw [if_neg hw] at hgo; exact hgo
end
end Go.Abs

/- Such a region's rule. -/
namespace Go.Abs
open Go
set_option linter.unusedVariables false
set_option linter.unusedSimpArgs false
variable {Z : TypeId → Nat}
def postU (P : Program) (nid : Nat) (B : St) (o : Oper) : Prop :=
  o.guard = none ∧ quiet o.op = true ∧ B.can o.dst = true ∧ match evalOp P B nid o.op with
    | some (av, _) => match o.dst with
      | some t => av = getA B.sl t
      | none => True
    | none => False
/-- The store, then the checks, then the tail. -/
def regM (Z : TypeId → Nat) (P : Program) (G : World → Prop) (B0 nid : Nat) (dsts : List (Option Nat)) (us : List Oper) (om : Oper) (tail : List Oper) (K : St → Prop) (A : St) : Prop :=
  om.guard = none ∧ isM om.op = true ∧ A.can om.dst = true ∧ (makes om.op = true → A.free nid) ∧ match evalOp P A nid om.op with
    | some (av, s) => (∀ o ∈ us, postU P nid (s.put om.dst av) o) ∧ regA Z P G B0 dsts K tail (s.put om.dst av)
    | none => False
def planOkM (base n m : Nat) (ops : List Oper) (xs : List (Nat × List Nat)) (us : List Nat) (nid : Nat) : Bool :=
  okD ops && decide (m < ops.length) && decide (base ≤ nid) &&
  (xs.zipIdx.all fun x => decide (base ≤ x.1.1) && (!fillsAt ops x.2 || decide (x.1.1 < base + n)) &&
    (x.1.2.all fun r => (List.range x.2).any fun k => fillsAt ops k && ((xs.getD k (0, [])).1 == r) && ((ancs ops).getD x.2 0).testBit k)) &&
  (xs.zipIdx.all fun x => xs.zipIdx.all fun y => (x.2 == y.2) || !(fillsAt ops x.2 && fillsAt ops y.2) || !(x.1.1 == y.1.1)) &&
  ((List.range ops.length).all fun i => decide (i ≤ m) || (List.range i).all fun k => ((ancs ops).getD i 0).testBit k) &&
  ((List.range m).all fun k => us.contains k || ((ancs ops).getD m 0).testBit k) &&
  (us.all fun u => decide (u < m) && !fillsAt ops u) &&
  (us.all fun u => us.all fun v => ((ops[u]?).map fun o => (readsOf (ops.map (·.dst)) o).all fun t => !(((ops[v]?).bind (·.dst)) == some t) || (((ancs ops).getD u 0).testBit v && !(v == u))).getD true)
section
variable {P : Program} {G : World → Prop} {B0 nl : Nat} {Q : Exit → St → Prop}
theorem hin_true : ∀ (x : AV), hin (fun _ => true) x = true := by
  intro x
  exact AV.rec (motive_1 := fun x => hin (fun _ => true) x = true) (motive_2 := fun l => hinL (fun _ => true) l = true)
    (fun _ => rfl) rfl (fun p => by cases p <;> rfl) (fun _ _ => rfl) (fun p _ _ => by cases p <;> rfl) (fun _ h => h) (fun _ h => h) (fun _ _ _ h1 h2 => by simp [hin, h1, h2]) (fun _ => rfl) rfl rfl (fun x l h1 h2 => by simp [hinL, h1, h2]) x
theorem W_drawM (hZ : ZOk P Z) (hmo : P.follows .mixedOrders = true) {ops : Array Oper} {st : St} (n m : Nat) (xs : List (Nat × List Nat)) (us : List Nat) (nid : Nat) (hok : planOkM st.rt.length n m ops.toList xs us nid = true) {om : Oper} (hom : ops[m]? = some om)
    (h : regD Z P G B0 st.rt.length (ops.toList.map (·.dst)) (regM Z P G B0 nid (ops.toList.map (·.dst)) (us.filterMap (ops.toList[·]?)) om (ops.toList.drop (m + 1)) (Q .normal)) xs (ops.toList.take m) (st.ext n)) : DrawA Z P G B0 nl ops Q st := by
  intro id E a w hE hnl hh
  refine wp_region_any hmo ?_
  simp only [planOkM, Bool.and_eq_true, decide_eq_true_eq, List.all_eq_true] at hok
  obtain ⟨⟨⟨⟨⟨⟨⟨⟨hD, hml⟩, hbn2⟩, hx⟩, hdj⟩, htl⟩, hUm⟩, hUs⟩, hUr⟩ := hok
  have hbn : E.nl ≤ st.rt.length ∧ st.bx.length = st.rt.length := by
    obtain ⟨S, vals, fps, cb, hI⟩ := hh
    exact ⟨hI.lnl, hI.bxn⟩
  have hh0 : Holds Z E (st.ext n) a { w with drawn := w.drawn + 1 } := by
    obtain ⟨S, vals, fps, cb, hI⟩ := hh
    exact ⟨S, vals, fps, cb, (hI.grow (w' := { w with drawn := w.drawn + 1 }) ⟨rfl, rfl, rfl, Nat.le_refl _, fun _ _ _ => rfl⟩).ext n⟩
  obtain ⟨es, h1, h2, h3, h4⟩ := regD_effs xs (ops.toList.take m) 0 (st.ext n) h
  have hmz : m < ops.size := by simpa using hml
  have hm : (ops.toList.take m).length = m := by rw [List.length_take]; simp; omega
  have hes : es.length = m := by omega
  have hxs : xs.length = m := by omega
  have hpre := okD_pre (ops := ops) hD
  have hget : ∀ {i : Nat} {e : Eff}, es[i]? = some e → ∃ o x, ops[i]? = some o ∧ xs[i]? = some x ∧ i < m ∧ StepD Z P G B0 (ops.toList.map (·.dst)) (Hof st.rt.length x.2) x.1 o (applyF (fun k => decide (k < i)) 0 es (st.ext n)) e ∧ (∀ n, e.root = some n → n = x.1 ∧ fills o.op = true) := by
    intro i e he
    have hi : i < m := by have := (List.getElem?_eq_some_iff.1 he).1; omega
    have ho : ops[i]? = some (ops[i]'(by omega)) := Array.getElem?_eq_getElem (by omega)
    have hxi : xs[i]? = some (xs[i]'(by omega)) := List.getElem?_eq_getElem (by omega)
    have ht : (ops.toList.take m)[i]? = some (ops[i]'(by omega)) := by rw [List.getElem?_take, if_pos hi]; simp [ho]
    obtain ⟨g1, g2⟩ := h4 i _ _ e ht hxi he
    rw [Nat.zero_add] at g1
    exact ⟨_, _, ho, hxi, hi, g1, g2⟩
  have hfa : ∀ {i : Nat} {o : Oper}, ops[i]? = some o → fills o.op = true → fillsAt ops.toList i = true := by
    intro i o ho hf
    unfold fillsAt
    rw [Array.getElem?_toList, ho]
    simpa using hf
  have hdist : ∀ {i k : Nat} {x y : Nat × List Nat}, xs[i]? = some x → xs[k]? = some y → k ≠ i → fillsAt ops.toList i = true → fillsAt ops.toList k = true → x.1 ≠ y.1 := by
    intro i k x y hxi hyk hne f1 f2 e
    have := hdj (x, i) (by rw [List.mem_zipIdx_iff_getElem?]; exact hxi) (y, k) (by rw [List.mem_zipIdx_iff_getElem?]; exact hyk)
    simp [f1, f2, e, show ¬ i = k from fun e => hne e.symm] at this
  have hmAnc : ∀ k, k < m → us.contains k = false → Anc ops m k := fun k hk hu => by
    have := hUm k (by simpa using hk)
    simp only [hu, Bool.false_or] at this
    exact ancs_ok this
  have hUroot : ∀ k e, es[k]? = some e → us.contains k = true → e.root = none := by
    intro k e he hu
    obtain ⟨o, x, ho, hxi, hi, g1, g2⟩ := hget he
    cases hr : e.root with
    | none => rfl
    | some r =>
      obtain ⟨e1, e2⟩ := g2 r hr
      have := (hUs k (by simpa using hu)).2
      rw [hfa ho e2] at this
      simp at this
  have htail : ∀ i k, i < ops.size → m < i → k < i → Anc ops i k := fun i k hi hmi hk => by
    have := htl i (by simpa using hi)
    simp only [Bool.or_eq_true, decide_eq_true_eq, List.all_eq_true, List.mem_range] at this
    rcases this with h9 | h9
    · omega
    · exact ancs_ok (h9 k hk)
  -- the store
  obtain ⟨k1, k2, k3, k4, k5⟩ := h3
  split at k5
  rotate_left
  · exact k5.elim
  rename_i avm s hb
  obtain ⟨k6, k7⟩ := k5
  obtain ⟨κ, hmv, hfr⟩ := evalM_frame k2 hb
  refine draw_gen es (by omega) (st.ext n) (fun i => match ops[i]? with | some o => readsOf (ops.toList.map (·.dst)) o | none => []) (fun i => match xs[i]? with | some x => Hof st.rt.length x.2 | none => fun _ => false)
    (fun i o e ho he f hr hag hfr a w hh K N hK => ?_) hpre (fun i k e e' he he' hne t ht hd => ?_) (fun i k e' he' hi r hr hroot => ?_) (fun i k e e' he he' hne hr => ?_) (fun i e r he hr => ?_) hh0 (fun hsz => by omega) (fun fuel i listed a' w' hsz hc hle hcl hh' hi hge => ?_)
  · obtain ⟨o2, x, ho2, hxi, hi, g1, g2⟩ := hget he
    rw [ho] at ho2; cases ho2
    simp only [ho] at hr
    simp only [hxi] at hag
    have hnid : E.nl ≤ x.1 := by
      have := (hx (x, i) (by rw [List.mem_zipIdx_iff_getElem?]; exact hxi)).1.1
      simp only at this
      omega
    exact stepD_ok hZ hE hnid g1 hr hag (by rw [(applyF_len f es 0 (st.ext n)).2.2, (applyF_len _ es 0 (st.ext n)).2.2]) hfr hh hK
  · obtain ⟨o, x, ho, hxi, hi, g1, g2⟩ := hget he
    obtain ⟨o', x', ho', hxi', hi', g1', g2'⟩ := hget he'
    simp only [ho] at ht
    refine okD_cmp hD ho ho' hne (t := t) (ht.imp (fun h => h) fun h => by rw [← g1.dst]; exact h) (by rw [← g1'.dst]; exact hd)
  · obtain ⟨o', x', ho', hxi', hi', g1', g2'⟩ := hget he'
    obtain ⟨e1, e2⟩ := g2' r hroot
    have hil : i < xs.length := by omega
    have hxi : xs[i]? = some xs[i] := List.getElem?_eq_getElem hil
    simp only [hxi, Hof, Bool.or_eq_true, decide_eq_true_eq] at hr
    have hb := (hx (x', k) (by rw [List.mem_zipIdx_iff_getElem?]; exact hxi')).1.1
    simp only at hb
    rcases hr with hr | hr
    · omega
    · have h7 := (hx (xs[i], i) (by rw [List.mem_zipIdx_iff_getElem?]; exact hxi)).2 r (by simpa using hr)
      simp only [List.any_eq_true, List.mem_range, Bool.and_eq_true, beq_iff_eq] at h7
      obtain ⟨k', hk', ⟨f1, f2⟩, f3⟩ := h7
      have hk'x : xs[k']? = some (xs[k']'(by omega)) := List.getElem?_eq_getElem (by omega)
      have f4 : (xs[k']'(by omega)).1 = r := by rw [← f2, List.getD_eq_getElem?_getD, hk'x]; rfl
      have hkk : k' = k := by
        rcases Decidable.em (k' = k) with h | h
        · exact h
        · exact absurd (by rw [f4, e1]) (hdist hk'x hxi' (fun e => h e.symm) f1 (hfa ho' e2))
      subst hkk
      exact ⟨hk', ancs_ok f3⟩
  · obtain ⟨o, x, ho, hxi, hi, g1, g2⟩ := hget he
    obtain ⟨o', x', ho', hxi', hi', g1', g2'⟩ := hget he'
    cases hr2 : e.root with
    | none => exact absurd hr2 hr
    | some r =>
      intro hr3
      obtain ⟨e1, e2⟩ := g2 r hr2
      obtain ⟨e3, e4⟩ := g2' r hr3
      exact hdist hxi hxi' hne (hfa ho e2) (hfa ho' e4) (e1.symm.trans e3)
  · obtain ⟨o, x, ho, hxi, hi, g1, g2⟩ := hget he
    obtain ⟨e1, e2⟩ := g2 r hr
    have h8 := (hx (x, i) (by rw [List.mem_zipIdx_iff_getElem?]; exact hxi)).1
    simp only [hfa ho e2, Bool.not_true, Bool.false_or, decide_eq_true_eq] at h8
    subst e1
    refine ⟨⟨?_, ?_⟩, ?_⟩
    · simp only [St.ext]
      rw [List.getElem?_append_right h8.1, List.getElem?_replicate, if_pos (by omega)]
    · simp only [St.ext, List.getD_eq_getElem?_getD]
      rw [List.getElem?_append_right (by omega), List.getElem?_replicate]
      split <;> rfl
    · simp only [St.ext, List.length_append, List.length_replicate]; omega
  · -- the store's turn
    obtain ⟨hin, hfi, hpl⟩ := ready_inv hsz hi
    obtain ⟨hla, hea⟩ := ready_anc hsz hcl hi
    have him : i = m := by
      rcases Nat.lt_or_ge m i with h | h
      · have := hle m (hea m (htail i m hin h h) (by omega)); omega
      · omega
    subst him
    have hdn : ∀ k, k < i → us.contains k = false → listed.getD k false = true := fun k hk hu => hea k (hmAnc k hk hu) (by omega)
    let f : Nat → Bool := fun j => listed.getD j false
    let A := applyF (fun _ => true) 0 es (st.ext n)
    have hroots : ∀ r : Nat, (applyF f 0 es (st.ext n)).rt[r]? = A.rt[r]? ∧ (applyF f 0 es (st.ext n)).bx[r]? = A.bx[r]? := fun r =>
      applyF_rt r es 0 f (fun _ => true) _ _ (fun k e hk hr => by
        have hk2 : k < i := by have := (List.getElem?_eq_some_iff.1 hk).1; omega
        cases hu : us.contains k with
        | true => rw [hUroot k e hk hu] at hr; cases hr
        | false => simp only [f, Nat.zero_add, hdn k hk2 hu]) rfl rfl ⟨rfl, rfl⟩
    have hsA : applyF f 0 es (st.ext n) = { A with sl := (applyF f 0 es (st.ext n)).sl } := by
      have e1 : (applyF f 0 es (st.ext n)).rt = A.rt := List.ext_getElem? fun r => (hroots r).1
      have e2 : (applyF f 0 es (st.ext n)).bx = A.bx := List.ext_getElem? fun r => (hroots r).2
      have e3 : (applyF f 0 es (st.ext n)).nt = A.nt := (applyF_len _ _ _ _).2.2.trans (applyF_len _ _ _ _).2.2.symm
      rw [← e1, ← e2, ← e3]
    have hev : ∀ x ∈ om.op.operands.toList, evA { A with sl := (applyF f 0 es (st.ext n)).sl } x = evA A x := by
      intro x hxm
      cases x with
      | tmp t =>
        refine applyF_getA t es 0 f (fun _ => true) _ _ (fun k e hk hd => ?_) rfl
        obtain ⟨o, x, ho, hxi, hki, g1, g2⟩ := hget hk
        have := okD_cmp hD hom ho (by omega) (t := t) (.inl (by unfold readsOf; rw [List.mem_append]; left; exact List.mem_flatMap.2 ⟨_, hxm, by simp [slotOf]⟩)) (by rw [← g1.dst]; exact hd)
        simp only [f, Nat.zero_add]
        exact hea k (this.1 hki) (by omega)
      | _ => rfl
    have hbm := hfr (applyF f 0 es (st.ext n)).sl hev
    rw [← hsA] at hbm
    obtain ⟨S, vals, fps, cb, hI⟩ := hh'
    obtain ⟨v, w2, S', vals', fps', cb', hrun, hI2, hR⟩ := evalOp_ok hZ hI om (fun hmk => by
      have := k4 hmk
      refine ⟨by rw [(hroots nid).1]; exact this.1, ?_⟩
      rw [List.getD_eq_getElem?_getD, (hroots nid).2, ← List.getD_eq_getElem?_getD]; exact this.2) (by omega) hbm
    have hnt : ({ s with sl := mapS κ (applyF f 0 es (st.ext n)).sl } : St).nt = A.nt := hmv.1
    have hput : Holds Z E (({ s with sl := mapS κ (applyF f 0 es (st.ext n)).sl } : St).put om.dst avm) (a'.put om.dst v) w2 :=
      ⟨S', vals', fps', cb', hI2.put (by have := k3; unfold St.can at this ⊢; rw [hnt]; exact this) hR⟩
    have hset := listed_set (listed := listed) (i := i) (by omega)
    have hcont : wpAny P .any ops (fun ex a' w' => ∃ st', Holds Z E st' a' w' ∧ Q ex st') fuel (listed.setIfInBounds i true) (a'.put om.dst v) w2 := by
      refine phase2 hZ hE hin (U := fun k => us.contains k) (B := s.put om.dst avm) hpre (fun u hu hUu => ?_) (fun u u' o hu hu' hUu hUu' ho t ht hd => ?_) htail (fun fuel listed a2 w3 hsz hl hf hB => ?_) fuel _ _ _ _ (by simpa using hsz) (count_set (by omega) hin hfi hc) (fun j hj => ?_) (by rw [hset]; simp) (fun k hk hu => by rw [hset, hdn k hk hu]; rfl) (fun j o hj hfj ed hed hb => ?_) ?_ hput
      · have ho : ops[u]? = some (ops[u]'(by omega)) := Array.getElem?_eq_getElem (by omega)
        obtain ⟨p1, p2, p3, p4⟩ := k6 _ (List.mem_filterMap.2 ⟨u, by simpa using hUu, by rw [Array.getElem?_toList]; exact ho⟩)
        split at p4
        · rename_i av s2 hev2
          have hq := (evalQ_ag (H := fun _ => true) (st1 := s.put om.dst avm) (fun r _ => ⟨rfl, rfl⟩) p2 (fun x _ => ⟨rfl, hin_true _⟩) hev2).2
          refine ⟨_, ⟨(ops[u]'(by omega)).dst, av, none⟩, nid, ho, ⟨rfl, p3, fun x _ => hin_true _, .inr ⟨by rw [p1]; rfl, .quiet p2 hq rfl⟩⟩, rfl, fun t ht => ?_, by omega⟩
          rw [ht] at p4
          exact p4
        · exact p4.elim
      · have := hUr u (by simpa using hUu) u' (by simpa using hUu')
        have ho2 : ops.toList[u]? = some o := by rw [Array.getElem?_toList]; exact ho
        rw [ho2] at this
        simp only [Option.map_some, Option.getD_some, List.all_eq_true] at this
        have h9 := this t ht
        have hd2 : ((ops.toList[u']?).bind (·.dst)) = some t := by rw [Array.getElem?_toList]; exact hd
        rw [hd2] at h9
        simp only [beq_self_eq_true, Bool.not_true, Bool.false_or, Bool.and_eq_true, Bool.not_eq_true', beq_eq_false_iff_ne] at h9
        exact ⟨ancs_ok h9.1, h9.2⟩
      · exact tail_ok hZ hE (m := i + 1) (fun i2 k hi2 hmi hk => htail i2 k hi2 (by omega) hk) hpre (ops.size - (i + 1)) (i + 1) fuel listed _ a2 w3 (by omega) (Nat.le_refl _) hsz hl hf hB k7
      · rw [hset] at hj
        simp only [Bool.or_eq_true, beq_iff_eq] at hj
        rcases hj with h | rfl
        · have := hle j h; omega
        · omega
      · rw [hset] at hfj ⊢
        simp only [Bool.or_eq_true, beq_iff_eq] at hfj ⊢
        rcases hfj with h | rfl
        · exact .inl (hcl j o hj h ed hed hb)
        · exact .inl (hpl o hj ed hed hb)
      · have e0 := put_rt ({ s with sl := mapS κ (applyF f 0 es (st.ext n)).sl } : St) om.dst avm
        have e1 := put_rt s om.dst avm
        refine ⟨e0.2.2.trans e1.2.2.symm, e0.1.trans e1.1.symm, e0.2.1.trans e1.2.1.symm, fun t => ?_⟩
        by_cases hun : ∃ u, u < i ∧ us.contains u = true ∧ listed.getD u false = false ∧ dstAt ops u = some t
        · right
          obtain ⟨u, g1, g2, g3, g4⟩ := hun
          exact ⟨u, g1, g2, by simp only [hset, g3, Bool.false_or, beq_eq_false_iff_ne]; omega, g4⟩
        · left
          have hgetA : getA (applyF f 0 es (st.ext n)).sl t = getA A.sl t := by
            refine applyF_getA t es 0 f (fun _ => true) _ _ (fun k e hk hd => ?_) rfl
            obtain ⟨o, x, ho, hxi, hki, g1, g2⟩ := hget hk
            simp only [f, Nat.zero_add]
            cases hlk : listed.getD k false with
            | true => rfl
            | false =>
              exfalso
              refine hun ⟨k, hki, ?_, hlk, by simp [dstAt, ho, ← g1.dst, hd]⟩
              cases hu : us.contains k with
              | true => rfl
              | false => rw [hdn k hki hu] at hlk; cases hlk
          have hmapS : ∀ sl, getA (mapS κ sl) t = κ (getA sl t) := fun sl => getA_map κ hmv.2.2 t sl
          cases hdst : om.dst with
          | none =>
            simp only [St.put]
            rw [hmapS, hgetA, hmv.2.1, hmapS]
          | some d =>
            simp only [St.put, getA]
            split
            · rfl
            · rw [hmapS, hgetA, hmv.2.1, hmapS]
    unfold wpOp
    simp only [hom]
    rw [if_pos (by simp [Region.wanted, k1])]
    left
    rcases hrun with hrun | ⟨hrun, rfl⟩
    · simp only [Oper.wp, hrun, Oper.upon]; exact hcont
    · simp only [Oper.wp, hrun, Oper.upon]; exact hcont
end
end Go.Abs

/- The formula of a body, step by step: rules for simp. -/
namespace Go.Abs
open Go
set_option linter.unusedVariables false
set_option linter.unusedSimpArgs false
section
variable {Z : TypeId → Nat} {P : Program} {G : World → Prop} {B0 nl : Nat} {Q : Exit → St → Prop} {st : St}
@[simp] theorem thenQ_n {n : St → Prop} : thenQ n Q .normal = n := rfl
@[simp] theorem thenQ_r {n : St → Prop} : thenQ n Q .ret = Q .ret := rfl
@[simp] theorem thenQ_e {n : St → Prop} {i : Nat} : thenQ n Q (.exit i) = Q (.exit i) := rfl
@[simp] theorem blockQ_n {i : Nat} : blockQ i Q .normal = Q .normal := rfl
@[simp] theorem blockQ_r {i : Nat} : blockQ i Q .ret = Q .ret := rfl
@[simp] theorem blockQ_e {i j : Nat} : blockQ i Q (.exit j) = if j = i then Q .normal else Q (.exit j) := by
  funext s; simp only [blockQ]; split <;> rfl
@[simp] theorem wpA_skip : wpA Z P G B0 nl .skip Q st = Q .normal st := rfl
@[simp] theorem wpA_label {l : Nat} : wpA Z P G B0 nl (.label l) Q st = Q .normal st := rfl
@[simp] theorem wpA_exit {l : Nat} : wpA Z P G B0 nl (.exit l) Q st = Q (.exit l) st := rfl
@[simp] theorem wpA_ret : wpA Z P G B0 nl .ret Q st = Q .ret st := rfl
@[simp] theorem wpA_seq {x y : Code} : wpA Z P G B0 nl (.seq x y) Q st = wpA Z P G B0 nl x (thenQ (wpA Z P G B0 nl y Q) Q) st := rfl
@[simp] theorem wpA_block {i : Nat} {c : Code} : wpA Z P G B0 nl (.block i c) Q st = wpA Z P G B0 nl c (blockQ i Q) st := rfl
@[simp] theorem wpA_region {i : Nat} {l : List Oper} : wpA Z P G B0 nl (.region i l.toArray false) Q st = regA Z P G B0 (l.map (·.dst)) (Q .normal) l st := rfl
@[simp] theorem wpA_draw {i : Nat} {ops : Array Oper} : wpA Z P G B0 nl (.region i ops true) Q st = DrawA Z P G B0 nl ops Q st := rfl
@[simp] theorem wpA_loop {c : Code} : wpA Z P G B0 nl (.loop c) Q st = LoopA Z P G B0 nl c Q st := rfl
/-- A mark on what simp shall leave as it is until its time has come. -/
structure Dm {α : Sort _} (x : α) : Type where
/-- Two ways. -/
def Br (t : Bool) (A B : Prop) (_ : Dm A) (_ : Dm B) : Prop := (t = true → A) ∧ (t = false → B)
@[simp] theorem Br_true {A B : Prop} : Br true A B ⟨⟩ ⟨⟩ = A := by simp [Br]
@[simp] theorem Br_false {A B : Prop} : Br false A B ⟨⟩ ⟨⟩ = B := by simp [Br]
@[simp] theorem Br_not {t : Bool} {A B : Prop} : Br (!t) A B ⟨⟩ ⟨⟩ = Br t B A ⟨⟩ ⟨⟩ := by cases t <;> simp
theorem Br.dec {c : Prop} [Decidable c] {A B : Prop} (h1 : c → A) (h2 : ¬ c → B) : Br (decide c) A B ⟨⟩ ⟨⟩ := ⟨fun h => h1 (of_decide_eq_true h), fun h => h2 (of_decide_eq_false h)⟩
theorem Br.bool {t : Bool} {A B : Prop} (h1 : t = true → A) (h2 : t = false → B) : Br t A B ⟨⟩ ⟨⟩ := ⟨h1, h2⟩
/-- What an operation needs. -/
def optK {α : Type} (o : Option α) (K : α → Prop) (_ : Dm K) : Prop :=
  match o with
  | some a => K a
  | none => False
@[simp] theorem optK_some {α : Type} {a : α} {K : α → Prop} : optK (some a) K ⟨⟩ = K a := rfl
@[simp] theorem optK_none {α : Type} {K : α → Prop} : optK none K ⟨⟩ = False := rfl
@[simp] theorem optK_map {α β : Type} {o : Option α} {f : α → β} {K : β → Prop} : optK (o.map f) K ⟨⟩ = optK o (fun a => K (f a)) ⟨⟩ := by cases o <;> rfl
/-- What must hold, ahead of the rest. -/
def Need (c A : Prop) (_ : Dm A) : Prop := c ∧ A
@[simp] theorem Need_true {A : Prop} : Need True A ⟨⟩ = A := by simp [Need]
theorem Need.mk {c A : Prop} (h : c) (k : A) : Need c A ⟨⟩ := ⟨h, k⟩
@[simp] theorem optK_ite {α : Type} {c : Prop} [Decidable c] {a : Option α} {K : α → Prop} : optK (if c then a else none) K ⟨⟩ = Need c (optK a K ⟨⟩) ⟨⟩ := by
  by_cases h : c <;> simp [h, Need]
@[simp] theorem wpA_cond {c : Operand} {x y : Code} : wpA Z P G B0 nl (.cond c x y) Q st = match evA st c with
    | .c (.sc (.bool t)) => Br t (wpA Z P G B0 nl x Q st) (wpA Z P G B0 nl y Q st) ⟨⟩ ⟨⟩
    | _ => False := rfl
variable {d : List (Option Nat)} {K : St → Prop} {dst : Option Nat} {op : Op} {ty : TypeId} {pos : String} {af : Array Edge} {rest : List Oper}
@[simp] theorem regA_nil : regA Z P G B0 d K [] st = K st := rfl
@[simp] theorem regA_plain : regA Z P G B0 d K (⟨dst, op, ty, pos, af, none⟩ :: rest) st = stepA Z P G B0 st ⟨dst, op, ty, pos, af, none⟩ (regA Z P G B0 d K rest) := rfl
@[simp] theorem regA_guard {j : Nat} {want : Bool} : regA Z P G B0 d K (⟨dst, op, ty, pos, af, some (j, want)⟩ :: rest) st = match (d[j]?).bind id with
    | none => st.can dst = true ∧ regA Z P G B0 d K rest (st.put dst (.tup []))
    | some s => match getA st.sl s with
      | .c (.sc (.bool b)) => Br (if want then b else !b) (stepA Z P G B0 st ⟨dst, op, ty, pos, af, none⟩ (regA Z P G B0 d K rest)) (st.can dst = true ∧ regA Z P G B0 d K rest (st.put dst (.tup []))) ⟨⟩ ⟨⟩
      | .tup [] => st.can dst = true ∧ regA Z P G B0 d K rest (st.put dst (.tup []))
      | _ => False := by
  simp only [regA, gateA]
  cases (d[j]?).bind id with
  | none => rfl
  | some s =>
    simp only
    generalize getA st.sl s = v
    split
    · rename_i b
      cases b <;> cases want <;> simp [stepA, opA]
    · rfl
    · rename_i h1 h2
      first
      | rfl
      | (split
         · rename_i b; exact absurd rfl (h1 b)
         · exact absurd rfl h2
         · rfl)
theorem stepA_op {o : Oper} (h : ∀ fv args tys, o.op ≠ .call { callee := .value fv, args := args, argTypes := tys }) : stepA Z P G B0 st o K = optK (opA P st o.op) (fun r => r.2.can o.dst = true ∧ K (r.2.put o.dst r.1)) ⟨⟩ := by
  unfold stepA optK
  split
  · rename_i fv args tys ho; exact absurd ho (h fv args tys)
  · split <;> rename_i he <;> rw [he]
/-- A call that stays till its contract is told. -/
def CallM (Z : TypeId → Nat) (P : Program) (G : World → Prop) (B0 : Nat) (st : St) (f : FuncId) (args : List AV) (K : AV → St → Prop) (_ : Dm K) : Prop := CallA Z P G B0 st f args K
@[simp] theorem stepA_call {fv : Operand} {args : Array Operand} {tys : Array TypeId} : stepA Z P G B0 st ⟨dst, .call { callee := .value fv, args := args, argTypes := tys }, ty, pos, af, none⟩ K = match evA st fv with
    | .fn f first caps => CallM Z P G B0 st f (first ++ args.toList.map (evA st) ++ caps) (fun av st' => st'.can dst = true ∧ K (st'.put dst av)) ⟨⟩
    | _ => False := rfl
@[simp] theorem stepA_move {x : Operand} : stepA Z P G B0 st ⟨dst, .move x, ty, pos, af, none⟩ K = optK (evalOp P st st.rt.length (.move x)) (fun r => r.2.can dst = true ∧ K (r.2.put dst r.1)) ⟨⟩ := stepA_op (by simp)
@[simp] theorem stepA_assign {x : Operand} : stepA Z P G B0 st ⟨dst, .assign x, ty, pos, af, none⟩ K = optK (evalOp P st st.rt.length (.assign x)) (fun r => r.2.can dst = true ∧ K (r.2.put dst r.1)) ⟨⟩ := stepA_op (by simp)
@[simp] theorem stepA_pick {c x y : Operand} : stepA Z P G B0 st ⟨dst, .pick c x y, ty, pos, af, none⟩ K = optK (evalOp P st st.rt.length (.pick c x y)) (fun r => r.2.can dst = true ∧ K (r.2.put dst r.1)) ⟨⟩ := stepA_op (by simp)
@[simp] theorem stepA_alloc {e : TypeId} : stepA Z P G B0 st ⟨dst, .alloc e, ty, pos, af, none⟩ K = optK (evalOp P (st.ext 1) st.rt.length (.alloc e)) (fun r => r.2.can dst = true ∧ K (r.2.put dst r.1)) ⟨⟩ := stepA_op (by simp)
@[simp] theorem stepA_box {e : TypeId} {x : Operand} : stepA Z P G B0 st ⟨dst, .box e x, ty, pos, af, none⟩ K = optK (evalOp P (st.ext 1) st.rt.length (.box e x)) (fun r => r.2.can dst = true ∧ K (r.2.put dst r.1)) ⟨⟩ := stepA_op (by simp)
@[simp] theorem stepA_build {t : TypeId} {p : Array (Nat × Operand)} : stepA Z P G B0 st ⟨dst, .build t p, ty, pos, af, none⟩ K = optK (evalOp P st st.rt.length (.build t p)) (fun r => r.2.can dst = true ∧ K (r.2.put dst r.1)) ⟨⟩ := stepA_op (by simp)
@[simp] theorem stepA_buildSlice {t : TypeId} {n : Nat} {p : Array (Nat × Operand)} : stepA Z P G B0 st ⟨dst, .buildSlice t n p, ty, pos, af, none⟩ K = optK (evalOp P (st.ext 1) st.rt.length (.buildSlice t n p)) (fun r => r.2.can dst = true ∧ K (r.2.put dst r.1)) ⟨⟩ := stepA_op (by simp)
@[simp] theorem stepA_load {t : TypeId} {x : Operand} : stepA Z P G B0 st ⟨dst, .load t x, ty, pos, af, none⟩ K = optK (evalOp P st st.rt.length (.load t x)) (fun r => r.2.can dst = true ∧ K (r.2.put dst r.1)) ⟨⟩ := stepA_op (by simp)
@[simp] theorem stepA_store {t : TypeId} {x y : Operand} : stepA Z P G B0 st ⟨dst, .store t x y, ty, pos, af, none⟩ K = optK (evalOp P st st.rt.length (.store t x y)) (fun r => r.2.can dst = true ∧ K (r.2.put dst r.1)) ⟨⟩ := stepA_op (by simp)
@[simp] theorem stepA_nilCheck {x : Operand} : stepA Z P G B0 st ⟨dst, .nilCheck x, ty, pos, af, none⟩ K = optK (evalOp P st st.rt.length (.nilCheck x)) (fun r => r.2.can dst = true ∧ K (r.2.put dst r.1)) ⟨⟩ := stepA_op (by simp)
@[simp] theorem stepA_binOp {b : BinOp} {t u : TypeId} {x y : Operand} : stepA Z P G B0 st ⟨dst, .binOp b t x y u, ty, pos, af, none⟩ K = optK (evalOp P st st.rt.length (.binOp b t x y u)) (fun r => r.2.can dst = true ∧ K (r.2.put dst r.1)) ⟨⟩ := stepA_op (by simp)
@[simp] theorem stepA_unOp {b : UnOp} {t : TypeId} {x : Operand} : stepA Z P G B0 st ⟨dst, .unOp b t x, ty, pos, af, none⟩ K = optK (evalOp P st st.rt.length (.unOp b t x)) (fun r => r.2.can dst = true ∧ K (r.2.put dst r.1)) ⟨⟩ := stepA_op (by simp)
@[simp] theorem stepA_convert {t u : TypeId} {x : Operand} : stepA Z P G B0 st ⟨dst, .convert t u x, ty, pos, af, none⟩ K = optK (evalOp P st st.rt.length (.convert t u x)) (fun r => r.2.can dst = true ∧ K (r.2.put dst r.1)) ⟨⟩ := stepA_op (by simp)
@[simp] theorem stepA_makeFunc {f : Fn} {a b : Array Operand} : stepA Z P G B0 st ⟨dst, .makeFunc f a b, ty, pos, af, none⟩ K = optK (evalOp P st st.rt.length (.makeFunc f a b)) (fun r => r.2.can dst = true ∧ K (r.2.put dst r.1)) ⟨⟩ := stepA_op (by simp)
@[simp] theorem stepA_makeSlice {t : TypeId} {x y : Operand} : stepA Z P G B0 st ⟨dst, .makeSlice t x y, ty, pos, af, none⟩ K = optK (evalOp P (st.ext 1) st.rt.length (.makeSlice t x y)) (fun r => r.2.can dst = true ∧ K (r.2.put dst r.1)) ⟨⟩ := stepA_op (by simp)
@[simp] theorem stepA_slice {t : TypeId} {x : Operand} {a b c : Option Operand} : stepA Z P G B0 st ⟨dst, .slice t x a b c, ty, pos, af, none⟩ K = optK (evalOp P st st.rt.length (.slice t x a b c)) (fun r => r.2.can dst = true ∧ K (r.2.put dst r.1)) ⟨⟩ := stepA_op (by simp)
@[simp] theorem stepA_fieldAddr {t : TypeId} {x : Operand} {i : Nat} : stepA Z P G B0 st ⟨dst, .fieldAddr t x i, ty, pos, af, none⟩ K = optK (evalOp P st st.rt.length (.fieldAddr t x i)) (fun r => r.2.can dst = true ∧ K (r.2.put dst r.1)) ⟨⟩ := stepA_op (by simp)
@[simp] theorem stepA_field {t : TypeId} {x : Operand} {i : Nat} : stepA Z P G B0 st ⟨dst, .field t x i, ty, pos, af, none⟩ K = optK (evalOp P st st.rt.length (.field t x i)) (fun r => r.2.can dst = true ∧ K (r.2.put dst r.1)) ⟨⟩ := stepA_op (by simp)
@[simp] theorem stepA_indexAddr {t : TypeId} {x y : Operand} : stepA Z P G B0 st ⟨dst, .indexAddr t x y, ty, pos, af, none⟩ K = optK (evalOp P st st.rt.length (.indexAddr t x y)) (fun r => r.2.can dst = true ∧ K (r.2.put dst r.1)) ⟨⟩ := stepA_op (by simp)
@[simp] theorem stepA_index {t : TypeId} {x y : Operand} : stepA Z P G B0 st ⟨dst, .index t x y, ty, pos, af, none⟩ K = optK (evalOp P st st.rt.length (.index t x y)) (fun r => r.2.can dst = true ∧ K (r.2.put dst r.1)) ⟨⟩ := stepA_op (by simp)
@[simp] theorem stepA_extract {x : Operand} {i : Nat} : stepA Z P G B0 st ⟨dst, .extract x i, ty, pos, af, none⟩ K = optK (evalOp P st st.rt.length (.extract x i)) (fun r => r.2.can dst = true ∧ K (r.2.put dst r.1)) ⟨⟩ := stepA_op (by simp)
@[simp] theorem stepA_builtin {b : Builtin} {args : Array Operand} {tys : Array TypeId} : stepA Z P G B0 st ⟨dst, .call { callee := .builtin b, args := args, argTypes := tys }, ty, pos, af, none⟩ K = optK (opA P st (.call { callee := .builtin b, args := args, argTypes := tys })) (fun r => r.2.can dst = true ∧ K (r.2.put dst r.1)) ⟨⟩ := stepA_op (by simp)
theorem exitQ_eq {fn : Func} {n : Nat} {Post : AV → Rows → Prop} : (∃ av, resA P st fn.results.toList = some av ∧ ∃ st' y, packR n st av = some (st', y) ∧ okRes y = true ∧ Post y (st'.rt.take n)) = optK (resA P st fn.results.toList) (fun av => optK (packR n st av) (fun r => okRes r.2 = true ∧ Post r.2 (r.1.rt.take n)) ⟨⟩) ⟨⟩ := by
  apply propext
  unfold optK
  constructor
  · rintro ⟨av, h1, st', y, h2, h3⟩
    rw [h1]; simp only; rw [h2]; exact h3
  · intro h
    split at h
    · rename_i av h1
      split at h
      · rename_i r h2
        exact ⟨av, h1, r.1, r.2, h2, h⟩
      · exact h.elim
    · exact h.elim
@[simp] theorem exitQ_r {fn : Func} {n : Nat} {Post : AV → Rows → Prop} : exitQ P fn n Post .ret st = optK (resA P st fn.results.toList) (fun av => optK (packR n st av) (fun r => okRes r.2 = true ∧ Post r.2 (r.1.rt.take n)) ⟨⟩) ⟨⟩ := exitQ_eq
@[simp] theorem exitQ_n {fn : Func} {n : Nat} {Post : AV → Rows → Prop} : exitQ P fn n Post .normal st = optK (resA P st fn.results.toList) (fun av => optK (packR n st av) (fun r => okRes r.2 = true ∧ Post r.2 (r.1.rt.take n)) ⟨⟩) ⟨⟩ := exitQ_eq
attribute [simp] opA makes evalOp builtinA evA getA eqS eqL constAV isSc zipSl St.can St.put St.ext St.fill binA unA pickA intS strS resA resL resOne packR pack3 pack2 pack1 packLeaf okRes
end
end Go.Abs

/- What is known of arguments: lengths. -/
namespace Go.Abs
open Go
set_option linter.unusedVariables false
set_option linter.unusedSimpArgs false
variable {Z : TypeId → Nat}
mutual
def factC : Cell → Prop
  | .sc v => ∀ s, v = .string s → s.size ≤ maxLen
  | .hole => True
  | .row _ _ es => es.length ≤ maxLen ∧ factLL es
def factL : List Cell → Prop
  | [] => True
  | c :: r => factC c ∧ factL r
def factLL : List (List Cell) → Prop
  | [] => True
  | x :: r => factL x ∧ factLL r
end
theorem factL_mem : ∀ (l : List Cell), factL l ↔ ∀ c ∈ l, factC c
  | [] => by simp [factL]
  | c :: r => by simp [factL, factL_mem r]
theorem factLL_mem : ∀ (l : List (List Cell)), factLL l ↔ ∀ x ∈ l, ∀ c ∈ x, factC c
  | [] => by simp [factLL]
  | x :: r => by simp [factLL, factLL_mem r, factL_mem]
theorem RC.fact {w : World} {S : Nat → Prop} {c : Cell} {v : Value} {fp : Nat → Prop} (h : RC Z w S c v fp) : factC c := by
  have inner : ∀ {es : Rows}, (∀ i c cell, cellAt es i c = some cell → factC cell) → factLL es := by
    intro es h
    rw [factLL_mem]
    intro x hx c hc
    obtain ⟨i, hi, rfl⟩ := List.getElem_of_mem hx
    obtain ⟨j, hj, rfl⟩ := List.getElem_of_mem hc
    exact h i j _ (by unfold cellAt; simp [List.getElem?_eq_getElem hi])
  induction h with
  | sc h =>
    simp only [factC]
    rintro s rfl
    simpa [isSc] using h
  | hole h => simp [factC]
  | own sz hz xs fps ho hsz hr hout hd hg ih =>
    simp only [factC]
    refine ⟨?_, inner ih⟩
    rcases ho.2 with ⟨_, hn⟩ | ⟨_, _, _, _, _, _, hnc, hcm, _⟩
    · omega
    · omega
  | shr sz hz xs hs hsz hr ih =>
    simp only [factC]
    refine ⟨?_, inner ih⟩
    rcases hs.2 with ⟨_, hn⟩ | ⟨_, _, _, _, _, _, _, _, _, hnc, hcm, _⟩ | ⟨_, _, _, hn, _⟩
    · omega
    · omega
    · omega
def factA : AV → Prop
  | .c c => factC c
  | .agg xs => ∀ x ∈ xs, match x with
    | .c c => factC c
    | _ => True
  | _ => True
theorem RA.fact {w : World} {S : Nat → Prop} {es : Rows} {vals : Nat → Nat → Value} {ad : Nat → Nat → Option Addr} {x : AV} {v : Value} (h : RA Z w S es vals ad x v) : factA x := by
  cases h with
  | c h => exact h.fact
  | @agg xs vs hl h1 h =>
    intro x hx
    obtain ⟨i, hi, rfl⟩ := List.getElem_of_mem hx
    have h2 := h i _ _ (List.getElem?_eq_getElem hi) (List.getElem?_eq_getElem (by omega))
    generalize xs[i] = y at h2 ⊢
    generalize vs[i]'(by omega) = u at h2
    cases h2 with
    | c h => exact h.fact
    | _ => trivial
  | _ => trivial
/-- A body's contract, where the arguments' lengths are known. -/
theorem Does.bodyF {P : Program} (hZ : ZOk P Z) {G : World → Prop} {B0 : Nat} {f : FuncId} {args : List AV} {rts : Rows} {bxs : List Bool} {Post : AV → Rows → Prop} {fn : Func} {c : Code} (hf : P.funcs[f]? = some fn) (hb : fn.body = some c) (hc : (fn.name == "runtime.NumGoroutine") = false) (hn : args.length ≤ fn.ntmps)
    (h : (∀ x ∈ args, factA x) → wpA Z P G B0 rts.length c (exitQ P fn rts.length Post) ⟨fn.ntmps, zipSl 0 args, rts, bxs⟩) : Does Z P G B0 f args rts bxs Post := by
  refine ⟨by unfold callable; rw [hf]; simp only [hb, Option.isSome_some, Bool.true_and, bne, hc, Bool.not_false], ?_⟩
  intro w S vals fps cb vs hK hG hB hL hI hA
  have hfact : ∀ x ∈ args, factA x := by
    intro x hx
    obtain ⟨i, hi, rfl⟩ := List.getElem_of_mem hx
    have hl := hA.1
    exact (hA.2 i _ _ (List.getElem?_eq_getElem hi) (List.getElem?_eq_getElem (by omega))).fact
  exact (Does.body hZ hf hb hc hn (h hfact)).2 w S vals fps cb vs hK hG hB hL hI hA
/-- The same, with the lent roots' lengths. -/
theorem Does.bodyR {P : Program} (hZ : ZOk P Z) {G : World → Prop} {B0 : Nat} {f : FuncId} {args : List AV} {rts : Rows} {bxs : List Bool} {Post : AV → Rows → Prop} {fn : Func} {c : Code} (hf : P.funcs[f]? = some fn) (hb : fn.body = some c) (hc : (fn.name == "runtime.NumGoroutine") = false) (hn : args.length ≤ fn.ntmps)
    (h : (∀ x ∈ args, factA x) → (∀ r ∈ rts, ∀ x ∈ r, factC x) → wpA Z P G B0 rts.length c (exitQ P fn rts.length Post) ⟨fn.ntmps, zipSl 0 args, rts, bxs⟩) : Does Z P G B0 f args rts bxs Post := by
  refine ⟨by unfold callable; rw [hf]; simp only [hb, Option.isSome_some, Bool.true_and, bne, hc, Bool.not_false], ?_⟩
  intro w S vals fps cb vs hK hG hB hL hI hA
  refine (Does.bodyF hZ hf hb hc hn fun hfa => h hfa fun r hr x hx => ?_).2 w S vals fps cb vs hK hG hB hL hI hA
  obtain ⟨i, hi, rfl⟩ := List.getElem_of_mem hr
  obtain ⟨j, hj, rfl⟩ := List.getElem_of_mem hx
  exact (hI.rr.rc i j _ (by unfold Abs.cellAt; simp [List.getElem?_eq_getElem hi])).fact
theorem Sub.by {nl nt : Nat} {sl sl' : List (Nat × AV)} {rt rt' : Rows} {bx bx' : List Bool} (m : List Nat) (h : (∀ i ∈ m, i < rt.length) ∧ m.Nodup ∧ m.take nl = List.range nl ∧ (m.map fun i => rt.getD i []) = rt' ∧ (m.map fun i => bx.getD i false) = bx' ∧ slOk m sl sl') :
    Sub Z nl ⟨nt, sl, rt, bx⟩ ⟨nt, sl', rt', bx'⟩ := by
  obtain ⟨h1, h2, h3, rfl, rfl, h4⟩ := h
  refine Sub.ren m h1 h2 (fun r hr => ?_) h4
  have : (m.take nl)[r]? = some r := by rw [h3, List.getElem?_range hr]
  rw [List.getElem?_take, if_pos hr] at this
  exact this
theorem wrap_i64 {n : Int} (h : -9223372036854775808 ≤ n ∧ n ≤ 9223372036854775807) : IntKind.i64.wrap n = n := by
  simp only [IntKind.wrap, IntKind.bits, IntKind.signed, Bool.true_and]
  split
  · rename_i h2; simp at h2 ⊢; omega
  · rename_i h2; simp at h2 ⊢; omega
attribute [simp] convA rowBytes byteOf1 indexA fieldA extractA buildA fillA splice plain buildSliceA chunk makeA zcells appendA srcA flatR flatC St.tk minA maxA allocA boxA absorbL absorb avCells fieldAddrA indexAddrA loadA loadL lenA idxOf bump look cellAt cellAV slOk ren renP renL hd hdP hdL factA factC sliceA bounds St.setAt St.setSc setc put1 storeA storeL St.wr Cell.isOwn alive clash cols killS kill killL trw trq noShrA noShrT noShrC noShr noShrL noShrLL packL unpR unp unpL St.lentPart
end Go.Abs

/- A drawn region's formula, step by step: rules for simp. -/
namespace Go.Abs
open Go
set_option linter.unusedVariables false
set_option linter.unusedSimpArgs false
section
variable {Z : TypeId → Nat} {P : Program} {G : World → Prop} {B0 nl base nid : Nat} {Q : Exit → St → Prop} {st : St} {hs : List Nat} {xs : List (Nat × List Nat)}
variable {d : List (Option Nat)} {K : St → Prop} {dst : Option Nat} {op : Op} {ty : TypeId} {pos : String} {af : Array Edge} {rest : List Oper}
@[simp] theorem regD_nil : regD Z P G B0 base d K [] [] st = K st := rfl
@[simp] theorem regD_plain : regD Z P G B0 base d K ((nid, hs) :: xs) (⟨dst, op, ty, pos, af, none⟩ :: rest) st = (st.can dst = true ∧ (∀ x ∈ op.operands.toList, hin (Hof base hs) (evA st x) = true) ∧ runD Z P G B0 nid st ⟨dst, op, ty, pos, af, none⟩ (regD Z P G B0 base d K xs rest)) := rfl
@[simp] theorem regD_guard {j : Nat} {want : Bool} : regD Z P G B0 base d K ((nid, hs) :: xs) (⟨dst, op, ty, pos, af, some (j, want)⟩ :: rest) st = (st.can dst = true ∧ (∀ x ∈ op.operands.toList, hin (Hof base hs) (evA st x) = true) ∧ match (d[j]?).bind id with
    | none => regD Z P G B0 base d K xs rest (st.put dst (.tup []))
    | some s => match getA st.sl s with
      | .c (.sc (.bool b)) => Br (if want then b else !b) (runD Z P G B0 nid st ⟨dst, op, ty, pos, af, none⟩ (regD Z P G B0 base d K xs rest)) (regD Z P G B0 base d K xs rest (st.put dst (.tup []))) ⟨⟩ ⟨⟩
      | .tup [] => regD Z P G B0 base d K xs rest (st.put dst (.tup []))
      | _ => False) := by
  simp only [regD, gateA]
  congr 2
  cases (d[j]?).bind id with
  | none => rfl
  | some s =>
    simp only
    generalize getA st.sl s = v
    split
    · rename_i b
      cases b <;> cases want <;> simp [runD]
    · rfl
    · rename_i h1 h2
      split
      · rename_i b; exact absurd rfl (h1 b)
      · exact absurd rfl h2
      · rfl
theorem runD_op {o : Oper} (h : ∀ fv args tys, o.op ≠ .call { callee := .value fv, args := args, argTypes := tys }) (h2 : ∀ t, o.op ≠ .alloc t) (h3 : ∀ t n p, o.op ≠ .buildSlice t n p) (hq : quiet o.op = true) : runD Z P G B0 nid st o K = optK (evalOp P st nid o.op) (fun r => K (st.put o.dst r.1)) ⟨⟩ := by
  unfold runD optK
  split
  · rename_i fv args tys ho; exact absurd ho (h fv args tys)
  · rename_i t ho; exact absurd ho (h2 t)
  · rename_i t n p ho; exact absurd ho (h3 t n p)
  · simp only [hq, true_and]
    split <;> rename_i he <;> rw [he]
def CallDM (Z : TypeId → Nat) (P : Program) (G : World → Prop) (B0 : Nat) (st : St) (f : FuncId) (args : List AV) (K : AV → Prop) (_ : Dm K) : Prop := CallD Z P G B0 st f args K
@[simp] theorem runD_call {fv : Operand} {args : Array Operand} {tys : Array TypeId} : runD Z P G B0 nid st ⟨dst, .call { callee := .value fv, args := args, argTypes := tys }, ty, pos, af, none⟩ K = match evA st fv with
    | .fn f first caps => CallDM Z P G B0 st f (first ++ args.toList.map (evA st) ++ caps) (fun y => K ((st.fill nid (effR nid y).2.1 (effR nid y).2.2).put dst (effR nid y).1)) ⟨⟩
    | _ => False := rfl
@[simp] theorem runD_alloc {t : TypeId} : runD Z P G B0 nid st ⟨dst, .alloc t, ty, pos, af, none⟩ K = match allocD P t with
    | some (c :: cs) => K ((st.fill nid (c :: cs) true).put dst (.ptr [(nid, 0)]))
    | _ => False := rfl
@[simp] theorem runD_bslice {t : TypeId} {n : Nat} {parts : Array (Nat × Operand)} : runD Z P G B0 nid st ⟨dst, .buildSlice t n parts, ty, pos, af, none⟩ K = match bsliceD P st t n parts.toList with
    | some c => K ((st.fill nid [c] false).put dst (.bor [(nid, 0)] 0 n))
    | none => False := rfl
@[simp] theorem runD_move {x : Operand} : runD Z P G B0 nid st ⟨dst, .move x, ty, pos, af, none⟩ K = optK (evalOp P st nid (.move x)) (fun r => K (st.put dst r.1)) ⟨⟩ := runD_op (by simp) (by simp) (by simp) rfl
@[simp] theorem runD_assign {x : Operand} : runD Z P G B0 nid st ⟨dst, .assign x, ty, pos, af, none⟩ K = optK (evalOp P st nid (.assign x)) (fun r => K (st.put dst r.1)) ⟨⟩ := runD_op (by simp) (by simp) (by simp) rfl
@[simp] theorem runD_pick {c x y : Operand} : runD Z P G B0 nid st ⟨dst, .pick c x y, ty, pos, af, none⟩ K = optK (evalOp P st nid (.pick c x y)) (fun r => K (st.put dst r.1)) ⟨⟩ := runD_op (by simp) (by simp) (by simp) rfl
@[simp] theorem runD_build {t : TypeId} {p : Array (Nat × Operand)} : runD Z P G B0 nid st ⟨dst, .build t p, ty, pos, af, none⟩ K = optK (evalOp P st nid (.build t p)) (fun r => K (st.put dst r.1)) ⟨⟩ := runD_op (by simp) (by simp) (by simp) rfl
@[simp] theorem runD_load {t : TypeId} {x : Operand} : runD Z P G B0 nid st ⟨dst, .load t x, ty, pos, af, none⟩ K = optK (evalOp P st nid (.load t x)) (fun r => K (st.put dst r.1)) ⟨⟩ := runD_op (by simp) (by simp) (by simp) rfl
@[simp] theorem runD_nilCheck {x : Operand} : runD Z P G B0 nid st ⟨dst, .nilCheck x, ty, pos, af, none⟩ K = optK (evalOp P st nid (.nilCheck x)) (fun r => K (st.put dst r.1)) ⟨⟩ := runD_op (by simp) (by simp) (by simp) rfl
@[simp] theorem runD_binOp {b : BinOp} {t u : TypeId} {x y : Operand} : runD Z P G B0 nid st ⟨dst, .binOp b t x y u, ty, pos, af, none⟩ K = optK (evalOp P st nid (.binOp b t x y u)) (fun r => K (st.put dst r.1)) ⟨⟩ := runD_op (by simp) (by simp) (by simp) rfl
@[simp] theorem runD_unOp {b : UnOp} {t : TypeId} {x : Operand} : runD Z P G B0 nid st ⟨dst, .unOp b t x, ty, pos, af, none⟩ K = optK (evalOp P st nid (.unOp b t x)) (fun r => K (st.put dst r.1)) ⟨⟩ := runD_op (by simp) (by simp) (by simp) rfl
@[simp] theorem runD_convert {t u : TypeId} {x : Operand} : runD Z P G B0 nid st ⟨dst, .convert t u x, ty, pos, af, none⟩ K = optK (evalOp P st nid (.convert t u x)) (fun r => K (st.put dst r.1)) ⟨⟩ := runD_op (by simp) (by simp) (by simp) rfl
@[simp] theorem runD_makeFunc {f : Fn} {a b : Array Operand} : runD Z P G B0 nid st ⟨dst, .makeFunc f a b, ty, pos, af, none⟩ K = optK (evalOp P st nid (.makeFunc f a b)) (fun r => K (st.put dst r.1)) ⟨⟩ := runD_op (by simp) (by simp) (by simp) rfl
@[simp] theorem runD_slice {t : TypeId} {x : Operand} {a b : Option Operand} : runD Z P G B0 nid st ⟨dst, .slice t x a b none, ty, pos, af, none⟩ K = optK (evalOp P st nid (.slice t x a b none)) (fun r => K (st.put dst r.1)) ⟨⟩ := runD_op (by simp) (by simp) (by simp) rfl
@[simp] theorem runD_fieldAddr {t : TypeId} {x : Operand} {i : Nat} : runD Z P G B0 nid st ⟨dst, .fieldAddr t x i, ty, pos, af, none⟩ K = optK (evalOp P st nid (.fieldAddr t x i)) (fun r => K (st.put dst r.1)) ⟨⟩ := runD_op (by simp) (by simp) (by simp) rfl
@[simp] theorem runD_field {t : TypeId} {x : Operand} {i : Nat} : runD Z P G B0 nid st ⟨dst, .field t x i, ty, pos, af, none⟩ K = optK (evalOp P st nid (.field t x i)) (fun r => K (st.put dst r.1)) ⟨⟩ := runD_op (by simp) (by simp) (by simp) rfl
@[simp] theorem runD_indexAddr {t : TypeId} {x y : Operand} : runD Z P G B0 nid st ⟨dst, .indexAddr t x y, ty, pos, af, none⟩ K = optK (evalOp P st nid (.indexAddr t x y)) (fun r => K (st.put dst r.1)) ⟨⟩ := runD_op (by simp) (by simp) (by simp) rfl
@[simp] theorem runD_index {t : TypeId} {x y : Operand} : runD Z P G B0 nid st ⟨dst, .index t x y, ty, pos, af, none⟩ K = optK (evalOp P st nid (.index t x y)) (fun r => K (st.put dst r.1)) ⟨⟩ := runD_op (by simp) (by simp) (by simp) rfl
@[simp] theorem runD_extract {x : Operand} {i : Nat} : runD Z P G B0 nid st ⟨dst, .extract x i, ty, pos, af, none⟩ K = optK (evalOp P st nid (.extract x i)) (fun r => K (st.put dst r.1)) ⟨⟩ := runD_op (by simp) (by simp) (by simp) rfl
@[simp] theorem runD_len {args : Array Operand} {tys : Array TypeId} : runD Z P G B0 nid st ⟨dst, .call { callee := .builtin .len, args := args, argTypes := tys }, ty, pos, af, none⟩ K = optK (evalOp P st nid (.call { callee := .builtin .len, args := args, argTypes := tys })) (fun r => K (st.put dst r.1)) ⟨⟩ := runD_op (by simp) (by simp) (by simp) rfl
@[simp] theorem runD_min {args : Array Operand} {tys : Array TypeId} : runD Z P G B0 nid st ⟨dst, .call { callee := .builtin .min, args := args, argTypes := tys }, ty, pos, af, none⟩ K = optK (evalOp P st nid (.call { callee := .builtin .min, args := args, argTypes := tys })) (fun r => K (st.put dst r.1)) ⟨⟩ := runD_op (by simp) (by simp) (by simp) rfl
@[simp] theorem runD_max {args : Array Operand} {tys : Array TypeId} : runD Z P G B0 nid st ⟨dst, .call { callee := .builtin .max, args := args, argTypes := tys }, ty, pos, af, none⟩ K = optK (evalOp P st nid (.call { callee := .builtin .max, args := args, argTypes := tys })) (fun r => K (st.put dst r.1)) ⟨⟩ := runD_op (by simp) (by simp) (by simp) rfl
@[simp] theorem postU_eq {o : Oper} : postU P nid st o = (o.guard = none ∧ quiet o.op = true ∧ st.can o.dst = true ∧ optK (evalOp P st nid o.op) (fun r => match o.dst with
    | some t => r.1 = getA st.sl t
    | none => True) ⟨⟩) := by
  unfold postU optK
  cases evalOp P st nid o.op <;> rfl
@[simp] theorem regM_eq {us tail : List Oper} {om : Oper} : regM Z P G B0 nid d us om tail K st = (om.guard = none ∧ isM om.op = true ∧ st.can om.dst = true ∧ (makes om.op = true → st.free nid) ∧ optK (evalOp P st nid om.op) (fun r => (∀ o ∈ us, postU P nid (r.2.put om.dst r.1) o) ∧ regA Z P G B0 d K tail (r.2.put om.dst r.1)) ⟨⟩) := by
  unfold regM optK
  cases evalOp P st nid om.op <;> rfl
theorem CallD.snapE {f : FuncId} {args args' : List AV} {y : AV} {K : AV → Prop} (hF : Does Z P G B0 f args' [] [] fun z _ => z = y) (hs : snapL st args = some args') (hn : noShrA y = true) (hk : K y) : CallDM Z P G B0 st f args K ⟨⟩ := CallD.snap hs hF hn hk
theorem CallD.closE {f : FuncId} {args : List AV} {y : AV} {K : AV → Prop} (hF : Does Z P G B0 f args [] [] fun z _ => z = y) (hs : closL args = true) (hk : K y) : CallDM Z P G B0 st f args K ⟨⟩ := CallD.clos hs hF hk
theorem CallA.snapE {f : FuncId} {args args' : List AV} {y : AV} {K : AV → St → Prop} (hF : Does Z P G B0 f args' [] [] fun z _ => z = y) (hs : snapL st args = some args') (hn : noShrA y = true) (hk : K (unpR (st.ext 1) st.rt.length y).1 (unpR (st.ext 1) st.rt.length y).2) : CallM Z P G B0 st f args K ⟨⟩ :=
  CallA.snap hs hF fun z hz => by subst hz; exact ⟨hn, hk⟩
theorem CallA.closE {f : FuncId} {args : List AV} {y : AV} {K : AV → St → Prop} (hF : Does Z P G B0 f args [] [] fun z _ => z = y) (hs : closL args = true) (hk : K (unpR (st.ext 1) st.rt.length y).1 (unpR (st.ext 1) st.rt.length y).2) : CallM Z P G B0 st f args K ⟨⟩ :=
  CallA.clos hs hF fun z hz => by subst hz; exact hk
theorem CallA.rootsE (rs : List Nat) {f : FuncId} {args args' : List AV} {rts rts2 : Rows} {bxs : List Bool} {y : AV} {K : AV → St → Prop} (hF : Does Z P G B0 f args' rts bxs fun z r => z = y ∧ r = rts2)
    (hc : (∀ i ∈ rs, i < st.rt.length) ∧ rs.Nodup ∧ args = args'.map (ren rs) ∧ (∀ x ∈ args', hd rs.length x = true) ∧ (rs.map fun i => st.rt.getD i []) = rts ∧ (rs.map fun i => st.bx.getD i false) = bxs)
    (hk : K (unpR ((st.back rs rts2).ext 1) st.rt.length y).1 (unpR ((st.back rs rts2).ext 1) st.rt.length y).2) : CallM Z P G B0 st f args K ⟨⟩ := by
  obtain ⟨h1, h2, h3, h4, rfl, rfl⟩ := hc
  exact CallA.roots rs h1 h2 h3 h4 hF fun z r hz _ => by obtain ⟨rfl, rfl⟩ := hz; exact hk
theorem CallA.rowE (p : Path) {e : TypeId} {es : Rows} {f : FuncId} {args args' : List AV} {c : Cell} {y : AV} {K : AV → St → Prop} (hF : Does Z P G B0 f args' [[.row true e es]] [false] fun z r => z = y ∧ r = [[c]])
    (hl : look st.rt p = some (.row true e es)) (hs : lendArgs st p args = some args') (hn : noShrA y = true ∧ noShr c = true) (hk : K (unpR ((st.lent p e c es.length).ext 1) st.rt.length y).1 (unpR ((st.lent p e c es.length).ext 1) st.rt.length y).2) : CallM Z P G B0 st f args K ⟨⟩ :=
  CallA.row hl hs hF fun z r hz => by obtain ⟨rfl, rfl⟩ := hz; exact ⟨hn.1, c, rfl, hn.2, hk⟩
attribute [simp] St.back keepR setRs posOf killR killRL hit sameRow St.lent keepS keepB rowLen lendArgs lendArg leafL leaf1
attribute [simp] quiet isM St.free Op.operands Call.operands Hof hin hinP hinL effR allocD cellsOf bsliceD snapL snap snapP closL clos share shareL
end
end Go.Abs

/- Loops by a family of states, a property and a measure. -/
namespace Go.Abs
set_option linter.unusedSimpArgs false
open Go
set_option linter.unusedVariables false
variable {Z : TypeId → Nat}
/-- A loop's head is reached again, nearer to its end. -/
def Again (Z : TypeId → Nat) (nl : Nat) {ι : Type} (I : ι → St) (φ : ι → Prop) (μ : ι → Nat) (m : Nat) (s : St) (_ : Dm I) (_ : Dm φ) (_ : Dm μ) : Prop := ∃ j, φ j ∧ μ j < m ∧ Sub Z nl s (I j)
theorem Again.mk {nl : Nat} {ι : Type} {I : ι → St} {φ : ι → Prop} {μ : ι → Nat} {m : Nat} {s : St} (j : ι) (h : φ j) (hm : μ j < m) (hs : Sub Z nl s (I j))   : Again Z nl I φ μ m s ⟨⟩ ⟨⟩ ⟨⟩ := ⟨j, h, hm, hs⟩
theorem LoopA.run {P : Program} (hZ : ZOk P Z) {G : World → Prop} {B0 nl : Nat} {c : Code} {Q : Exit → St → Prop} {st : St} {ι : Type} (I : ι → St) (φ : ι → Prop) (μ : ι → Nat) (i0 : ι) (h0 : φ i0) (hs : Sub Z nl st (I i0))
    (round : ∀ i, φ i → wpA Z P G B0 nl c (thenQ (fun s => Again Z nl I φ μ (μ i) s ⟨⟩ ⟨⟩ ⟨⟩) Q) (I i)) : LoopA Z P G B0 nl c Q st := by
  refine LoopA.intro hZ (ι := { i : ι // φ i }) (fun i => I i.1) (fun i => μ i.1) ⟨i0, h0⟩ hs fun i => ?_
  have h := round i.1 i.2
  have e : (fun s => Again Z nl I φ μ (μ i.1) s ⟨⟩ ⟨⟩ ⟨⟩) = fun s => ∃ j : { i : ι // φ i }, μ j.1 < μ i.1 ∧ Sub Z nl s (I j.1) := by
    funext s
    refine propext ⟨fun ⟨j, h1, h2, h3⟩ => ⟨⟨j, h1⟩, h2, h3⟩, fun ⟨⟨j, h1⟩, h2, h3⟩ => ⟨j, h1, h2, h3⟩⟩
  rw [e] at h
  exact h
end Go.Abs

/- A function that only hands its arguments on: its callee's contract, in a world that has grown. -/
namespace Go.Abs
set_option linter.unusedSimpArgs false
open Go
set_option linter.unusedVariables false
variable {Z : TypeId → Nat}
section
variable {S : Nat → Prop} {rts : Rows} {bxs : List Bool} {vals : Nat → Nat → Value} {fps : Nat → Nat → Nat → Prop} {cb : Nat → Nat} {w w1 : World}
theorem Inv.rebase (h : Inv Z (entOf w S rts bxs vals fps cb) ⟨0, [], rts, bxs⟩ ⟨#[], []⟩ w S vals fps cb) (hf : Fr (fun _ => False) w w1) : Inv Z (entOf w1 S rts bxs vals fps cb) ⟨0, [], rts, bxs⟩ ⟨#[], []⟩ w1 S vals fps cb := by
  have g := h.grow hf
  exact ⟨rfl, rfl, ⟨rfl, rfl, rfl, Nat.le_refl _, fun _ _ _ => rfl⟩, fun k hk => hk, g.slt, g.slf, fun k hk => .inl hk, g.rr, fun r c k hk => .inl (.inl ⟨r, c, hk⟩), g.box, g.bxl, g.bxn,
    fun r hr => ⟨(g.bxS r hr).1, (g.bxS r hr).2.1, .inl (.inr ⟨r, hr, rfl⟩)⟩, g.bxd, g.sl, g.lnl, g.lent⟩
theorem Gives.rebase {Post : AV → Rows → Prop} {e : Ending} {w' : World} (hf : Fr (fun _ => False) w w1) (h : Gives Z (entOf w1 S rts bxs vals fps cb) rts bxs Post e w') : Gives Z (entOf w S rts bxs vals fps cb) rts bxs Post e w' := by
  obtain ⟨res, rts', v, S', vals', fps', cb', fp, he, hp, ho, hl, g, hpr, hflt⟩ := h
  have hsz : w.heap.size ≤ w1.heap.size := hf.size
  refine ⟨res, rts', v, S', vals', fps', cb', fp, he, hp, ho, hl, ?_, hpr, ⟨hflt.no, hflt.nb, fun k hk => (hflt.own k hk).imp id (fun hh => Nat.le_trans hsz hh)⟩⟩
  refine ⟨g.dfr, g.nt, ?_, g.s0, g.slt, g.slf, fun k hk => (g.sn k hk).imp id (fun hh => Nat.le_trans hsz hh), g.rr, fun r c k hk => (g.own r c k hk).imp id (fun hh => Nat.le_trans hsz hh), g.box, g.bxl, g.bxn,
    fun r hr => ⟨(g.bxS r hr).1, (g.bxS r hr).2.1, (g.bxS r hr).2.2.imp id (fun hh => Nat.le_trans hsz hh)⟩, g.bxd, g.sl, g.lnl, g.lent⟩
  have g2 := g.fr
  exact ⟨g2.os.trans hf.os, g2.tape.trans hf.tape, g2.output.trans hf.output, Nat.le_trans hf.size g2.size, fun k hk hn => (g2.block k (Nat.lt_of_lt_of_le hk hf.size) hn).trans (hf.block k hk fun h => h)⟩
theorem under_call {P : Program} {G : World → Prop} {B0 : Nat} {f : FuncId} {args : List AV} {vs : List Value} {Post : AV → Rows → Prop} (hI : Inv Z (entOf w S rts bxs vals fps cb) ⟨0, [], rts, bxs⟩ ⟨#[], []⟩ w S vals fps cb) (hf : Fr (fun _ => False) w w1)
    (hF : Does Z P G B0 f args rts bxs Post) (hK : GK G B0) (hG : G w) (hB : B0 ≤ w.heap.size) (hL : ∀ k, lentfp bxs fps cb k → B0 ≤ k) (hA : RL (RA Z w S rts vals (adr bxs cb)) args vs) :
    Calls P f vs.toArray w1 (Gives Z (entOf w S rts bxs vals fps cb) rts bxs Post) := by
  have hG1 : G w1 := hK _ _ hG hB (fun k hk => hf.block k (Nat.lt_of_lt_of_le hk hB) fun h => h) hf.os hf.tape
  have hlf : ∀ k, S k → k < w.heap.size := hI.slt
  have hA1 : RL (RA Z w1 S rts vals (adr bxs cb)) args vs := ⟨hA.1, fun i x v hx hv => RA.world (st := ⟨0, [], rts, bxs⟩) (X := fun _ => False) (hA.2 i x v hx hv) hI.rr (fun k hk _ => hf.block k hk fun h => h) hlf (fun _ _ h => h) (fun _ _ _ _ h => h)⟩
  exact (hF.2 w1 S vals fps cb vs hK hG1 (Nat.le_trans hB hf.size) hL (hI.rebase hf) hA1).mono fun e w' h => h.rebase hf
theorem Fr.alloc (w : World) (o : Obj) : Fr (fun _ => False) w (w.alloc o) := ⟨rfl, rfl, rfl, by simp, fun k hk _ => heap_alloc_old w _ k hk⟩
theorem RA.agg_inv {es : Rows} {ad : Nat → Nat → Option Addr} {xs : List AV} {v : Value} (h : RA Z w S es vals ad (.agg xs) v) : ∃ vs : List Value, v = .agg vs.toArray ∧ RL (RA Z w S es vals ad) xs vs := by
  cases h with
  | agg hl h1 h => exact ⟨_, rfl, hl, h⟩
theorem RL.two {R : AV → Value → Prop} {x y : AV} {vs : List Value} (h : RL R [x, y] vs) : ∃ u v, vs = [u, v] ∧ R x u ∧ R y v := by
  obtain ⟨h1, h2⟩ := h
  match vs, h1 with
  | [u, v], _ => exact ⟨u, v, rfl, h2 0 x u rfl rfl, h2 1 y v rfl rfl⟩
theorem RL.one {R : AV → Value → Prop} {x : AV} {vs : List Value} (h : RL R [x] vs) : ∃ u, vs = [u] ∧ R x u := by
  obtain ⟨h1, h2⟩ := h
  match vs, h1 with
  | [u], _ => exact ⟨u, rfl, h2 0 x u rfl rfl⟩
theorem RL.mk2 {R : AV → Value → Prop} {x y : AV} {u v : Value} (h1 : R x u) (h2 : R y v) : RL R [x, y] [u, v] := ⟨rfl, fun i a b ha hb => by
  match i with
  | 0 => cases ha; cases hb; exact h1
  | 1 => cases ha; cases hb; exact h2
  | n + 2 => simp at ha⟩
theorem RA.int_inv {es : Rows} {ad : Nat → Nat → Option Addr} {u v : Value} (h : RA Z w S es vals ad (.c (.sc u)) v) : v = u := (sc_inv h).1
end
/-! ### Values that hold nothing of the frame's own -/
mutual
theorem snap_clos (st : St) : ∀ (x : AV), clos x = true → snap st x = some x
  | .c _, _ => by simp [snap]
  | .nils, _ => by simp [snap]
  | .sptr _ _, _ => by simp [snap]
  | .agg xs, h => by
    have h' : closL xs = true := by simpa [clos] using h
    simp [snap, snapL_clos st xs h']
  | .fn f a b, h => by
    have h' : closL a = true ∧ closL b = true := by simpa [clos] using h
    simp [snap, snapL_clos st a h'.1, snapL_clos st b h'.2]
  | .ptr _, h => by simp [clos] at h
  | .bor _ _ _, h => by simp [clos] at h
  | .tup _, h => by simp [clos] at h
  | .nb _, h => by simp [clos] at h
  | .dead, h => by simp [clos] at h
theorem snapL_clos (st : St) : ∀ (l : List AV), closL l = true → snapL st l = some l
  | [], _ => by simp [snapL]
  | x :: r, h => by
    have h' : clos x = true ∧ closL r = true := by simpa [closL] using h
    simp [snapL, snap_clos st x h'.1, snapL_clos st r h'.2]
end
mutual
theorem ren_clos (m : List Nat) : ∀ (x : AV), clos x = true → ren m x = x ∧ ∀ n, hd n x = true
  | .c _, _ => by simp [ren, hd]
  | .nils, _ => by simp [ren, hd]
  | .sptr _ _, _ => by simp [ren, hd]
  | .agg xs, h => by
    have h' : closL xs = true := by simpa [clos] using h
    simp [ren, hd, renL_clos m xs h']
  | .fn f a b, h => by
    have h' : closL a = true ∧ closL b = true := by simpa [clos] using h
    simp [ren, hd, renL_clos m a h'.1, renL_clos m b h'.2]
  | .ptr _, h => by simp [clos] at h
  | .bor _ _ _, h => by simp [clos] at h
  | .tup _, h => by simp [clos] at h
  | .nb _, h => by simp [clos] at h
  | .dead, h => by simp [clos] at h
theorem renL_clos (m : List Nat) : ∀ (l : List AV), closL l = true → renL m l = l ∧ ∀ n, hdL n l = true
  | [], _ => by simp [renL, hdL]
  | x :: r, h => by
    have h' : clos x = true ∧ closL r = true := by simpa [closL] using h
    simp [renL, hdL, ren_clos m x h'.1, renL_clos m r h'.2]
end
end Go.Abs

/- Nil slices told as empty rows: in results, in arguments. -/
namespace Go.Abs
set_option linter.unusedSimpArgs false
open Go
set_option linter.unusedVariables false
variable {Z : TypeId → Nat}
mutual
/-- Nil slices of element type e as empty rows of one's own. -/
def denil (e : TypeId) : AV → AV
  | .nils => .c (.row true e [])
  | .agg xs => .agg (denilL e xs)
  | .tup xs => .tup (denilL e xs)
  | x => x
def denilL (e : TypeId) : List AV → List AV
  | [] => []
  | x :: r => denil e x :: denilL e r
end
theorem denilL_eq (e : TypeId) : ∀ l, denilL e l = l.map (denil e)
  | [] => rfl
  | x :: r => by simp [denilL, denilL_eq e r]
theorem PK.denil {w : World} {S : Nat → Prop} {y : AV} {v : Value} {fp : Nat → Prop} (e : TypeId) (h : PK Z w S y v fp) : PK Z w S (Abs.denil e y) v fp := by
  induction h with
  | c h => simpa [Abs.denil] using PK.c h
  | nils => simp only [Abs.denil]; exact .c RC.nilrow
  | @agg xs vs fps hl h1 h hout hd ih =>
    simp only [Abs.denil, denilL_eq]
    refine .agg fps (by simpa using hl) h1 (fun i x v hx hv => ?_) (fun i hi => hout i (by simpa using hi)) hd
    rw [List.getElem?_map] at hx
    obtain ⟨x0, hx0, rfl⟩ := Option.map_eq_some_iff.1 hx
    exact ih i x0 v hx0 hv
  | @tup xs vs fps hl h hout hd ih =>
    simp only [Abs.denil, denilL_eq]
    refine .tup fps (by simpa using hl) (fun i x v hx hv => ?_) (fun i hi => hout i (by simpa using hi)) hd
    rw [List.getElem?_map] at hx
    obtain ⟨x0, hx0, rfl⟩ := Option.map_eq_some_iff.1 hx
    exact ih i x0 v hx0 hv
theorem PR.denil {w : World} {S : Nat → Prop} {y : AV} {v : Value} {fp : Nat → Prop} (e : TypeId) (h : PR Z w S y v fp) : PR Z w S (Abs.denil e y) v fp := by
  cases h with
  | pk h => exact .pk (h.denil e)
  | nb fps hb hsz hS h hout hd hg => simp only [Abs.denil]; exact .nb fps hb hsz hS h hout hd hg
theorem okRes_denil (e : TypeId) (y : AV) (h : okRes y = true) : okRes (denil e y) = true := by
  cases y <;> simp_all [denil, okRes]
section
variable {P : Program} {G : World → Prop} {B0 : Nat} {f : FuncId} {args : List AV} {rts : Rows} {bxs : List Bool} {Post Post' : AV → Rows → Prop}
theorem Does.mono (h : Does Z P G B0 f args rts bxs Post) (hp : ∀ y r, Post y r → Post' y r) : Does Z P G B0 f args rts bxs Post' := by
  refine ⟨h.1, fun w S vals fps cb vs hK hG hB hL hI hA => (h.2 w S vals fps cb vs hK hG hB hL hI hA).mono ?_⟩
  rintro e w' ⟨res, rts', v, S', vals', fps', cb', fp, he, hpo, rest⟩
  exact ⟨res, rts', v, S', vals', fps', cb', fp, he, hp _ _ hpo, rest⟩
/-- Nil slices in the result told as empty rows. -/
theorem Does.denil (e : TypeId) (h : Does Z P G B0 f args rts bxs Post) (hp : ∀ y r, Post y r → Post' (Abs.denil e y) r) : Does Z P G B0 f args rts bxs Post' := by
  refine ⟨h.1, fun w S vals fps cb vs hK hG hB hL hI hA => (h.2 w S vals fps cb vs hK hG hB hL hI hA).mono ?_⟩
  rintro e' w' ⟨res, rts', v, S', vals', fps', cb', fp, he, hpo, hok, hl, hI', hpr, hfl⟩
  exact ⟨_, rts', v, S', vals', fps', cb', fp, he, hp _ _ hpo, okRes_denil e res hok, hl, hI', hpr.denil e, hfl⟩
/-- A nil slice handed in is an empty row that is only read. -/
def nilArg (e : TypeId) : AV → AV
  | .nils => .c (.row false e [])
  | x => x
theorem RA.nilArg {w : World} {S : Nat → Prop} {es : Rows} {vals : Nat → Nat → Value} {ad : Nat → Nat → Option Addr} {x : AV} {v : Value} (e : TypeId) (h : RA Z w S es vals ad x v) : RA Z w S es vals ad (Abs.nilArg e x) v := by
  cases h with
  | nils => exact .c (.shr (Z e) rfl [] ⟨by simp, .inl ⟨rfl, rfl⟩⟩ (by simp) (fun i c cell hc => by simp [cellAt] at hc))
  | c h => exact .c h
  | ptr hl h => exact .ptr hl h
  | sptr hS hb hr ho => exact .sptr hS hb hr ho
  | bor hl hsz hlen hs => exact .bor hl hsz hlen hs
  | agg hl h1 h => exact .agg hl h1 h
  | tup hl h => exact .tup hl h
  | fn hl hl2 h h2 => exact .fn hl hl2 h h2
  | dead => exact .dead
theorem Does.nilArg (e : TypeId) (h : Does Z P G B0 f (args.map (Abs.nilArg e)) rts bxs Post) : Does Z P G B0 f args rts bxs Post := by
  refine ⟨h.1, fun w S vals fps cb vs hK hG hB hL hI hA => h.2 w S vals fps cb vs hK hG hB hL hI ⟨by simpa using hA.1, fun i x v hx hv => ?_⟩⟩
  rw [List.getElem?_map] at hx
  obtain ⟨x0, hx0, rfl⟩ := Option.map_eq_some_iff.1 hx
  exact (hA.2 i x0 v hx0 hv).nilArg e
end
end Go.Abs

/- What comes in, told as cells that are only read; a contract at a call's beginning. -/
namespace Go.Abs
set_option linter.unusedSimpArgs false
open Go Go.RowKit Go.ChangeShapes Go.WideShapes Go.Deep
set_option linter.unusedVariables false
/-- The cells that values are, where all of memory is only read. -/
def Reads (Z : TypeId → Nat) (w : World) (l : List Cell) (cs : List Value) : Prop := l.length = cs.length ∧ ∀ (i : Nat) c v, l[i]? = some c → cs[i]? = some v → RC Z w (fun k => k < w.heap.size) c v (fun _ => False)
def SaysA {H α : Type} (Z : TypeId → Nat) (enc : TypeId × Value → H) (P : Program) (w : World) (base : Nat) (spare : Nat → Bool) (held : Bool) (t : TypeId) (f : α → List Cell) (ok : α → Prop) : Prop :=
  ∀ (fuel : Nat) (cs : List Value) (x : DataW H × List MemPlace), DataW.trod enc P w base spare held fuel t cs = some x → ∃ a, ok a ∧ Reads Z w (f a) cs
section
variable {H α β : Type} {Z : TypeId → Nat} {enc : TypeId × Value → H} {P : Program} {w : World} {base : Nat} {spare : Nat → Bool} {held : Bool} {t : TypeId}
theorem Reads.one {c : Cell} {v : Value} (h : RC Z w (fun k => k < w.heap.size) c v (fun _ => False)) : Reads Z w [c] [v] := ⟨rfl, fun i c v h1 h2 => by
  cases i with
  | zero => cases h1; cases h2; exact h
  | succ i => simp at h1⟩
theorem saysA_int {k : IntKind} (ht : P.underlying t = some (.int k)) : SaysA Z enc P w base spare held t (fun n : Int => [.sc (.int k n)]) (fun n => (Lit.int k n).wf = true) := fun fuel cs x h => by
  obtain ⟨n, rfl, _, hw⟩ := DataW.trod_int ht h
  exact ⟨n, hw, .one (.sc rfl)⟩
theorem saysA_bool (ht : P.underlying t = some .bool) : SaysA Z enc P w base spare held t (fun b : Bool => [.sc (.bool b)]) (fun _ => True) := fun fuel cs x h => by
  obtain ⟨b, rfl, _⟩ := DataW.trod_bool ht h
  exact ⟨b, trivial, .one (.sc rfl)⟩
theorem saysA_string (ht : P.underlying t = some .string) : SaysA Z enc P w base spare held t (fun s : ByteArray => [.sc (.string s)]) (fun _ => True) := fun fuel cs x h => by
  obtain ⟨s, rfl, _, hs⟩ := DataW.trod_string ht h
  exact ⟨s, trivial, .one (.sc (by simpa [isSc] using hs))⟩
theorem addr_add_add (a : Addr) (i j : Nat) : (a.add i).add j = a.add (i + j) := by
  unfold Addr.add
  by_cases h1 : i = 0
  · subst h1; simp
  · by_cases h2 : j = 0
    · subst h2; simp [h1]
    · simp only [if_neg h1, if_neg h2, if_neg (show i + j ≠ 0 by omega)]
      rw [Nat.add_assoc]
theorem cell_inv {a : Addr} {v : Value} (h : w.cell? a = some v) : a.spot = none ∧ ∃ cur ty fz, w.heap[a.block]? = some (.cells cur ty fz) ∧ cur[a.off]? = some v := by
  unfold World.cell? at h
  split at h
  · rename_i cur ty fz hh
    split at h
    · cases h
    · rename_i hs
      exact ⟨by simpa using hs, cur, ty, fz, hh, h⟩
  · cases h
theorem saysA_slice {e : TypeId} {f : α → List Cell} {ok : α → Prop} {sz : Nat} (ht : P.underlying t = some (.slice e)) (hs : P.cellsOf e = sz) (hp : 0 < sz) (hz : Z e = sz) (h : SaysA Z enc P w base spare held e f ok) :
    SaysA Z enc P w base spare held t (fun xs : List α => [.row false e (xs.map f)]) (fun xs => ∀ x ∈ xs, ok x) := fun fuel cs x hx => by
  rcases open_slice ht hx with ⟨rfl, _⟩ | ⟨a, len, cap, m, n, D, Pl, rfl, _, hl, hm, hmm, _, hi⟩
  · exact ⟨[], ⟨(fun _ hx => by cases hx), .one (.shr sz hz [] ⟨by simp, .inl ⟨rfl, rfl⟩⟩ (by simp) (fun i c cell hc => by simp [cellAt] at hc))⟩⟩
  rcases Nat.eq_zero_or_pos len with rfl | hpos
  · exact ⟨[], ⟨(fun _ hx => by cases hx), .one (.shr sz hz [] ⟨by simp, .inr (.inr ⟨a, cap, rfl, rfl, hm⟩)⟩ (by simp) (fun i c cell hc => by simp [cellAt] at hc))⟩⟩
  have hlm : len ≤ m := by rw [hmm]; split <;> omega
  have key : ∀ i : Fin len, ∃ q : α × List Value, ok q.1 ∧ Reads Z w (f q.1) q.2 ∧ q.2.length = sz ∧ ∀ j, j < sz → w.cell? (a.add (i.1 * sz + j)) = q.2[j]? := by
    intro i
    obtain ⟨cs', hc, ht'⟩ := hi i.1 (by omega)
    obtain ⟨x, hok, hK⟩ := h n cs' _ ht'
    obtain ⟨_, hcl, hat⟩ := World.cells?_some hc
    rw [hs] at hcl hat
    refine ⟨(x, cs'), hok, hK, hcl, fun j hj => ?_⟩
    have := hat j hj
    rw [addr_add_add] at this
    exact this
  let q : Fin len → α × List Value := fun i => Classical.choose (key i)
  have hq : ∀ i : Fin len, ok (q i).1 ∧ Reads Z w (f (q i).1) (q i).2 ∧ (q i).2.length = sz ∧ ∀ j, j < sz → w.cell? (a.add (i.1 * sz + j)) = (q i).2[j]? := fun i => Classical.choose_spec (key i)
  -- the block
  have h00 := (hq ⟨0, hpos⟩).2.2.2 0 hp
  have hv0 : ∃ v, (q ⟨0, hpos⟩).2[0]? = some v := ⟨_, List.getElem?_eq_getElem (by rw [(hq ⟨0, hpos⟩).2.2.1]; exact hp)⟩
  obtain ⟨v0, hv0⟩ := hv0
  rw [hv0] at h00
  simp only [Nat.zero_mul, Nat.add_zero] at h00
  obtain ⟨hspot, cur, ty, fz, hblk, _⟩ := cell_inv (a := a.add 0) (by simpa [Addr.add] using h00)
  have ha0 : a.add 0 = a := by simp [Addr.add]
  rw [ha0] at hspot hblk
  obtain ⟨b, off, spot⟩ := a
  simp only at hspot hblk
  subst hspot
  have hcell : ∀ i : Fin len, ∀ j, j < sz → cur[off + (i.1 * sz + j)]? = (q i).2[j]? := fun i j hj => by
    have h1 := (hq i).2.2.2 j hj
    rw [addr_add _ rfl] at h1
    unfold World.cell? at h1
    simp only [hblk] at h1
    simpa using h1
  have hsome : ∀ i : Fin len, ∀ j, j < sz → ∃ v, (q i).2[j]? = some v := fun i j hj => ⟨_, List.getElem?_eq_getElem (by rw [(hq i).2.2.1]; exact hj)⟩
  have hsize : off + len * sz ≤ cur.size := by
    obtain ⟨v, hv⟩ := hsome ⟨len - 1, by omega⟩ (sz - 1) (by omega)
    have h1 := hcell ⟨len - 1, by omega⟩ (sz - 1) (by omega)
    rw [hv] at h1
    have := (Array.getElem?_eq_some_iff.1 h1).1
    have e : (len - 1) * sz + sz = len * sz := by
      rw [← Nat.succ_mul]; congr 1; omega
    simp only at this
    omega
  have hxl : ((cur.toList.drop off).take (len * sz)).length = len * sz := by simp; omega
  have hlv : ∀ i : Fin len, ∀ j, j < sz → ∀ v, (q i).2[j]? = some v → lv ((cur.toList.drop off).take (len * sz)) sz i.1 j = v := fun i j hj v hv => by
    have h1 := hcell i j hj
    rw [hv] at h1
    have hlt : i.1 * sz + j < len * sz := by
      have : (i.1 + 1) * sz ≤ len * sz := Nat.mul_le_mul_right _ i.2
      rw [Nat.add_mul, Nat.one_mul] at this; omega
    unfold lv
    rw [List.getD_eq_getElem?_getD, List.getElem?_take_of_lt hlt, List.getElem?_drop]
    simp [h1]
  refine ⟨List.ofFn fun i => (q i).1, ⟨fun x hx => ?_, .one (.shr sz hz ((cur.toList.drop off).take (len * sz)) ⟨by simpa using hxl, .inr (.inl ⟨b, off, cap, cur, ty, fz, by simp, (Array.getElem?_eq_some_iff.1 hblk).1, hblk, by simpa using hl, hm, by simp⟩)⟩ (fun x hx => ?_) fun i c cell hc => ?_)⟩⟩
  · obtain ⟨i, rfl⟩ := List.mem_ofFn.1 hx
    exact (hq i).1
  · obtain ⟨y, hy, rfl⟩ := List.mem_map.1 hx
    obtain ⟨i, rfl⟩ := List.mem_ofFn.1 hy
    rw [(hq i).2.1.1]; exact (hq i).2.2.1
  · obtain ⟨hi2, x, hx, hxc⟩ := cellAt_lt hc
    rw [List.getElem?_map, List.getElem?_ofFn] at hx
    simp only [List.length_map, List.length_ofFn] at hi2
    rw [dif_pos hi2] at hx
    simp only [Option.map_some, Option.some.injEq] at hx
    subst hx
    have hc2 : c < sz := by rw [← (hq ⟨i, hi2⟩).2.2.1, ← (hq ⟨i, hi2⟩).2.1.1]; exact (List.getElem?_eq_some_iff.1 hxc).1
    obtain ⟨v, hv⟩ := hsome ⟨i, hi2⟩ c hc2
    rw [hlv ⟨i, hi2⟩ c hc2 v hv]
    exact (hq ⟨i, hi2⟩).2.1.2 c cell v hxc hv
/-- The fields fs, from cell off on. -/
def PartA (Z : TypeId → Nat) (enc : TypeId × Value → H) (P : Program) (w : World) (base : Nat) (spare : Nat → Bool) (held : Bool) (fs : List Field) (off n : Nat) (f : β → List Cell) (ok : β → Prop) : Prop :=
  ∀ (k : Nat) (cs : List Value), cs.length = off + n → (∀ g ∈ fs, ∃ y, DataW.trod enc P w base spare held k g.type ((cs.drop g.offset).take (P.cellsOf g.type)) = some y) → ∃ b, ok b ∧ Reads Z w (f b) (cs.drop off)
theorem partA_one {g : Field} {f : α → List Cell} {ok : α → Prop} {off n : Nat} (ho : g.offset = off) (hs : P.cellsOf g.type = n) (h : SaysA Z enc P w base spare held g.type f ok) : PartA Z enc P w base spare held [g] off n f ok := fun k cs hl hf => by
  obtain ⟨y, hy⟩ := hf g (List.mem_singleton_self _)
  rw [ho, hs, List.take_of_length_le (by rw [List.length_drop]; omega)] at hy
  exact h k _ y hy
theorem Reads.append {l1 l2 : List Cell} {c1 c2 : List Value} (h1 : Reads Z w l1 c1) (h2 : Reads Z w l2 c2) : Reads Z w (l1 ++ l2) (c1 ++ c2) := by
  refine ⟨by simp [h1.1, h2.1], fun i c v hc hv => ?_⟩
  by_cases hi : i < l1.length
  · rw [List.getElem?_append_left hi] at hc
    rw [List.getElem?_append_left (by rw [← h1.1]; exact hi)] at hv
    exact h1.2 i c v hc hv
  · rw [List.getElem?_append_right (by omega)] at hc
    rw [List.getElem?_append_right (by rw [← h1.1]; omega)] at hv
    rw [← h1.1] at hv
    exact h2.2 _ c v hc hv
theorem partA_cons {g : Field} {fs : List Field} {f : α → List Cell} {f2 : β → List Cell} {ok : α → Prop} {ok2 : β → Prop} {off n m : Nat} (ho : g.offset = off) (hs : P.cellsOf g.type = n) (h : SaysA Z enc P w base spare held g.type f ok) (h2 : PartA Z enc P w base spare held fs (off + n) m f2 ok2) :
    PartA Z enc P w base spare held (g :: fs) off (n + m) (fun x : α × β => f x.1 ++ f2 x.2) (fun x => ok x.1 ∧ ok2 x.2) := fun k cs hl hf => by
  obtain ⟨y, hy⟩ := hf g List.mem_cons_self
  obtain ⟨a, oa, ha⟩ := h k _ y hy
  obtain ⟨b, ob, hb⟩ := h2 k cs (by omega) (fun g hg => hf g (List.mem_cons_of_mem _ hg))
  rw [ho, hs] at ha
  refine ⟨(a, b), ⟨oa, ob⟩, ?_⟩
  have e : cs.drop off = (cs.drop off).take n ++ cs.drop (off + n) := by rw [← List.drop_drop, List.take_append_drop]
  rw [e]
  exact ha.append hb
theorem saysA_struct {fs : Array Field} {f : β → List Cell} {ok : β → Prop} {n : Nat} (ht : P.underlying t = some (.struct fs)) (hs : P.cellsOf t = n) (h : PartA Z enc P w base spare held fs.toList 0 n f ok) {γ : Type} (g : β → γ) (f2 : γ → List Cell) (hf : ∀ b, f2 (g b) = f b) :
    SaysA Z enc P w base spare held t f2 (fun x => ∃ b, x = g b ∧ ok b) := fun fuel cs x hx => by
  obtain ⟨xs, k, _, _, hl, hlen, hff⟩ := DataW.trod_struct ht hx
  obtain ⟨b, ob, hb⟩ := h k cs (by omega) (fun fl hfl => by
    obtain ⟨i, hi, he⟩ := List.mem_iff_getElem.1 hfl
    have hi' : i < fs.size := by simpa using hi
    have h1 := hff i fl (by rw [← he]; simp [hi'])
    rw [List.getElem?_eq_getElem (by omega)] at h1
    exact ⟨_, h1⟩)
  exact ⟨g b, ⟨b, rfl, ob⟩, by rw [hf]; simpa using hb⟩
theorem saysA_imp {f : α → List Cell} {ok ok' : α → Prop} (h : SaysA Z enc P w base spare held t f ok) (hi : ∀ a, ok a → ok' a) : SaysA Z enc P w base spare held t f ok' := fun fuel cs x hx => by
  obtain ⟨a, o, ha⟩ := h fuel cs x hx
  exact ⟨a, hi a o, ha⟩
/-- A parameter of one cell. -/
theorem Reads.arg {c : Cell} {v : Value} (h : Reads Z w [c] [v]) : RA Z w (fun k => k < w.heap.size) [] (fun _ _ => undef) (adr [] fun _ => 0) (.c c) v := .c (h.2 0 c v rfl rfl)
/-- A parameter that is a struct. -/
theorem Reads.argS {l : List Cell} {cs : List Value} (h : Reads Z w l cs) : RA Z w (fun k => k < w.heap.size) [] (fun _ _ => undef) (adr [] fun _ => 0) (.agg (l.map .c)) (.agg cs.toArray) := by
  have key : ∀ v ∈ cs, v.oneCell' = true := fun v hv => by
    obtain ⟨i, hi⟩ := List.getElem?_of_mem hv
    have hl : i < l.length := by rw [h.1]; exact (List.getElem?_eq_some_iff.1 hi).1
    exact (h.2 i _ v (List.getElem?_eq_getElem hl) hi).one
  refine .agg (by simpa using h.1) key fun i x v hx hv => ?_
  rw [List.getElem?_map] at hx
  obtain ⟨c, hc, rfl⟩ := Option.map_eq_some_iff.1 hx
  exact .c (h.2 i c v hc hv)
/-- A contract that asks of memory nothing but the arguments: at a call. -/
theorem Does.begin {G : World → Prop} {f : FuncId} {args : List AV} {vs : List Value} {y : AV} (h : Does Z P G w.heap.size f args [] [] (fun z _ => z = y)) (hK : GK G w.heap.size) (hG : G w) (ha : RL (RA Z w (fun k => k < w.heap.size) [] (fun _ _ => undef) (adr [] fun _ => 0)) args vs) :
    Calls P f vs.toArray w fun e w' => ∃ v fp S, e = .returned v ∧ PR Z w' S y v fp ∧ Below w.heap.size w w' := by
  have hI : Inv Z (entOf w (fun k => k < w.heap.size) [] [] (fun _ _ => undef) (fun _ _ _ => False) fun _ => 0) ⟨0, [], [], []⟩ ⟨#[], []⟩ w (fun k => k < w.heap.size) (fun _ _ => undef) (fun _ _ _ => False) (fun _ => 0) := by
    refine ⟨rfl, rfl, ⟨rfl, rfl, rfl, Nat.le_refl _, fun _ _ _ => rfl⟩, fun k hk => hk, fun k hk => hk, fun k hk hl => ?_, fun k hk => .inl hk, ⟨fun i c cell hc => by simp [cellAt] at hc, fun _ _ _ _ h => h, fun _ _ _ _ _ h => h.elim⟩, fun _ _ _ h => h.elim, fun r cells hr => by simp at hr, fun r hr => by simp at hr, rfl, fun r hr => by simp at hr, fun r _ hr => by simp at hr, fun t => ?_, Nat.le_refl _, fun r hr => absurd hr (Nat.not_lt_zero r)⟩
    · rcases hl with ⟨_, _, hl⟩ | ⟨r, hr, _⟩
      · exact hl
      · simp at hr
    · exact .dead
  refine (h.2 w _ _ _ _ vs hK hG (Nat.le_refl _) (fun k hk => ?_) hI ha).mono ?_
  · rcases hk with ⟨_, _, hk⟩ | ⟨r, hr, _⟩
    · exact hk.elim
    · simp at hr
  · rintro e w' ⟨res, rts', v, S', vals', fps', cb', fp, rfl, rfl, _, _, g, hpr, _⟩
    refine ⟨v, fp, S', rfl, hpr, g.fr.os, g.fr.tape, g.fr.output, g.fr.size, fun k hk => g.fr.block k hk fun hl => ?_⟩
    rcases hl with ⟨_, _, hl⟩ | ⟨r, hr, _⟩
    · exact hl.elim
    · simp at hr
theorem PR.bool_inv {S : Nat → Prop} {b : Bool} {v : Value} {fp : Nat → Prop} (h : PR Z w S (.c (.sc (.bool b))) v fp) : v = .bool b := by
  cases h with
  | pk h => cases h with
    | c h => exact sc_rc h
end
end Go.Abs

/- Functions of the library on a row of scalars: from what they do in memory to contracts. -/
namespace Go.Abs
set_option linter.unusedSimpArgs false
open Go
set_option linter.unusedVariables false
variable {Z : TypeId → Nat} {P : Program} {G : World → Prop} {B0 : Nat} {α : Type}
def scs (enc : α → Value) (xs : List α) : Rows := xs.map fun a => [.sc (enc a)]
theorem cellAt_scs {enc : α → Value} {xs : List α} {i c : Nat} {cell : Cell} (h : cellAt (scs enc xs) i c = some cell) : c = 0 ∧ ∃ a, xs[i]? = some a ∧ cell = .sc (enc a) := by
  unfold cellAt scs at h
  rw [List.getElem?_map] at h
  cases hx : xs[i]? with
  | none => rw [hx] at h; cases h
  | some a =>
    rw [hx] at h
    cases c with
    | zero => exact ⟨rfl, a, rfl, by simpa using h.symm⟩
    | succ c => simp at h
theorem scs_len (enc : α → Value) (xs : List α) : (scs enc xs).length = xs.length := by simp [scs]
theorem scs_rows (enc : α → Value) (xs : List α) : ∀ x ∈ scs enc xs, x.length = 1 := by
  intro x hx
  obtain ⟨a, _, rfl⟩ := List.mem_map.1 hx
  rfl
/-- A row of scalars in memory, as a cell. -/
theorem RC.ofOwns {w : World} {S : Nat → Prop} {e : TypeId} {v : Value} {enc : α → Value} {xs : List α} (hz : Z e = 1) (hsc : ∀ a ∈ xs, isSc (enc a) = true) (ho : w.ownsRow 0 e 1 v xs.length (xs.map enc)) (hS : ∀ g, v.ownBlock = some g → ¬ S g) :
    RC Z w S (.row true e (scs enc xs)) v (fun k => v.ownBlock = some k) := by
  have h := RC.own (Z := Z) (w := w) (S := S) (e := e) (es := scs enc xs) (v := v) 1 hz (xs.map enc) (fun _ _ _ => False) (by rw [scs_len]; exact ho) (scs_rows enc xs) (fun i c cell hc => by
    obtain ⟨rfl, a, ha, rfl⟩ := cellAt_scs hc
    have : lv (xs.map enc) 1 i 0 = enc a := by simp [lv, List.getD_eq_getElem?_getD, ha]
    rw [this]; exact .sc (hsc a (List.mem_of_getElem? ha))) (fun _ _ _ _ h => h) (fun _ _ _ _ _ h => h.elim) (fun g hg => ⟨hS g hg, fun _ _ h => h⟩)
  have e : (fun k => v.ownBlock = some k ∨ ∃ i c, (fun _ _ _ => False : Nat → Nat → Nat → Prop) i c k) = fun k => v.ownBlock = some k := by
    funext k; simp
  rw [e] at h
  exact h
theorem sc_fp {w : World} {S : Nat → Prop} {u v : Value} {fp : Nat → Prop} (h : RC Z w S (.sc u) v fp) : ∀ k, ¬ fp k := by
  cases h with
  | sc _ => exact fun _ h => h
theorem sc_isSc {w : World} {S : Nat → Prop} {u v : Value} {fp : Nat → Prop} (h : RC Z w S (.sc u) v fp) : isSc u = true := by
  cases h with
  | sc h => exact h
/-- What such a cell says of memory. -/
theorem RC.toOwns {w : World} {S : Nat → Prop} {e : TypeId} {v : Value} {enc : α → Value} {xs : List α} {fp : Nat → Prop} (hz : Z e = 1) (h : RC Z w S (.row true e (scs enc xs)) v fp) : w.ownsRow 0 e 1 v xs.length (xs.map enc) ∧ (∀ k, fp k ↔ v.ownBlock = some k) ∧ ∀ a ∈ xs, isSc (enc a) = true := by
  cases h with
  | own sz hz2 vs fps ho hsz hr hout hd hg =>
    rw [hz] at hz2; subst hz2
    rw [scs_len] at ho
    have hvs : vs = xs.map enc := by
      have hl : vs.length = xs.length := by have := ho.1; omega
      apply List.ext_getElem?
      intro i
      rw [List.getElem?_map]
      by_cases hi : i < xs.length
      · have hx : xs[i]? = some xs[i] := List.getElem?_eq_getElem hi
        have hc : cellAt (scs enc xs) i 0 = some (.sc (enc xs[i])) := by simp [cellAt, scs, hx]
        have h1 := hr i 0 _ hc
        have h2 : lv vs 1 i 0 = enc xs[i] := sc_rc h1
        rw [hx, List.getElem?_eq_getElem (by omega)]
        simp only [Option.map_some, Option.some.injEq]
        rw [← h2]
        simp [lv, List.getD_eq_getElem?_getD, hl, hi]
      · rw [List.getElem?_eq_none (by omega), List.getElem?_eq_none (by omega)]; rfl
    subst hvs
    refine ⟨ho, fun k => ⟨fun hk => ?_, fun hk => .inl hk⟩, fun a ha => ?_⟩
    rotate_left
    · obtain ⟨i, hi⟩ := List.getElem?_of_mem ha
      have hc : cellAt (scs enc xs) i 0 = some (.sc (enc a)) := by simp [cellAt, scs, hi]
      exact sc_isSc (hr i 0 _ hc)
    rcases hk with hk | ⟨i, c, hk⟩
    · exact hk
    · cases hc : cellAt (scs enc xs) i c with
      | none => exact absurd hk (hout i c hc k)
      | some cell =>
        obtain ⟨rfl, a, ha, rfl⟩ := cellAt_scs hc
        exact absurd hk (sc_fp (hr i 0 _ hc) k)
theorem sub_self {w : World} {e : TypeId} {sz n : Nat} {v u : Value} {xs : List Value} (ho : w.ownsRow 0 e sz v n xs) (hs : subH sz v 0 n u) : u = v := by
  rcases hs with ⟨rfl, rfl, _, _⟩ | ⟨g, n', cap, rfl, _, hs⟩
  · rfl
  · rcases ho.2 with ⟨hh, _⟩ | ⟨g2, cap2, cur, hh, _⟩
    · cases hh
    · cases hh
      rcases hs with ⟨_, rfl⟩ | ⟨h0, _⟩
      · rfl
      · omega
section
variable {f : FuncId} {e : TypeId} {enc : α → Value} {xs ys : List α}
theorem turn_core (hz : Z e = 1) {w : World} {S : Nat → Prop} {vals : Nat → Nat → Value} {fps : Nat → Nat → Nat → Prop} {cb : Nat → Nat} {vs : List Value} (hI : Inv Z (entOf w S [[.row true e (scs enc xs)]] [false] vals fps cb) ⟨0, [], [[.row true e (scs enc xs)]], [false]⟩ ⟨#[], []⟩ w S vals fps cb)
    (hA : RL (RA Z w S [[.row true e (scs enc xs)]] vals (adr [false] cb)) [.bor [(0, 0)] 0 xs.length] vs) :
    vs = [vals 0 0] ∧ w.ownsRow 0 e 1 (vals 0 0) xs.length (xs.map enc) ∧ (∀ g, (vals 0 0).ownBlock = some g → ¬ S g) ∧ (∀ a ∈ xs, isSc (enc a) = true) ∧
      ∀ w', Fr (fun k => (vals 0 0).ownBlock = some k) w w' → ∃ fps', Inv Z (entOf w S [[.row true e (scs enc xs)]] [false] vals fps cb) ⟨0, [], [[.hole]], [false]⟩ ⟨#[], []⟩ w' S vals fps' cb ∧ Flt (entOf w S [[.row true e (scs enc xs)]] [false] vals fps cb) ⟨0, [], [[.hole]], [false]⟩ fps' cb (fun k => (vals 0 0).ownBlock = some k) := by
  have hl : look ([[.row true e (scs enc xs)]] : Rows) [(0, 0)] = some (.row true e (scs enc xs)) := by simp [look, cellAt]
  have hrc := hI.rr.rc 0 0 (.row true e (scs enc xs)) (by simp [cellAt])
  obtain ⟨ho, hfp, hscx⟩ := hrc.toOwns hz
  have hv : vs = [vals 0 0] := by
    obtain ⟨h1, h2⟩ := hA
    match vs, h1 with
    | [u], _ =>
      have hu := h2 0 _ u rfl rfl
      cases hu with
      | bor hl2 hsz hlen hs =>
        have := sub_self ho (by simpa [plc, scs_len] using (show subH 1 _ 0 xs.length u from by
          rw [hl] at hl2; cases hl2
          have hw : ∀ x ∈ scs enc xs, x.length = 1 := scs_rows enc xs
          rcases Nat.eq_zero_or_pos xs.length with h0 | hp
          · rcases hs with hs | ⟨g, n, cap, h3, h4, h5⟩
            · exact .inl hs
            · exact .inr ⟨g, n, cap, h3, h4, h5.imp id (fun ⟨a, _⟩ => absurd a (Nat.lt_irrefl 0))⟩
          · rcases hs with hs | ⟨g, n, cap, h3, h4, h5⟩
            · exact .inl hs
            · exact .inr ⟨g, n, cap, h3, h4, h5.imp id (fun ⟨a, _⟩ => absurd a (Nat.lt_irrefl 0))⟩))
        rw [this]
  refine ⟨hv, ho, fun g hg => hrc.notS g ((hfp g).2 hg), hscx, fun w' hw => ?_⟩
  obtain ⟨fps1, fpc, I1, hrc1, hflt, hsub, hfpc, _⟩ := hI.take hl
  have hfp1 := (hrc1.toOwns hz).2.1
  have hplc : (plc w ([[.row true e (scs enc xs)]] : Rows) vals (adr [false] cb) [(0, 0)]).1 = vals 0 0 := rfl
  have hfr : Fr fpc w w' := ⟨hw.os, hw.tape, hw.output, hw.size, fun k hk hn => hw.block k hk fun hh => hn ((hfp1 k).2 hh)⟩
  have hfS : ∀ k, fpc k → ¬ S k := fun k hk => hrc1.notS k hk
  have I2 := I1.world hfr (X := fpc) ⟨hflt.no, hflt.nb, hflt.own⟩ hfS
  refine ⟨fps1, I2, ⟨fun k hk => hflt.no k ((hfp1 k).2 hk), fun k hk => hflt.nb k ((hfp1 k).2 hk), fun k hk => hflt.own k ((hfp1 k).2 hk)⟩⟩
/-- A function that turns a row of scalars in its place. -/
theorem Does.turn (hc : callable P f = true) (hz : Z e = 1) (hsc : ∀ a ∈ ys, a ∈ xs) (hlen : ys.length = xs.length)
    (hcall : ∀ (w : World) (v : Value), w.ownsRow 0 e 1 v xs.length (xs.map enc) → Calls P f #[v] w fun en w' => en = .returned (.tuple #[]) ∧ w'.ownsRow 0 e 1 v xs.length (ys.map enc) ∧ Fr (fun k => v.ownBlock = some k) w w') :
    Does Z P G B0 f [.bor [(0, 0)] 0 xs.length] [[.row true e (scs enc xs)]] [false] (fun y r => y = .tup [] ∧ r = [[.row true e (scs enc ys)]]) := by
  refine ⟨hc, fun w S vals fps cb vs hK hG hB hL hI hA => ?_⟩
  obtain ⟨rfl, ho, hS, hx, hrest⟩ := turn_core hz hI hA
  refine (hcall w _ ho).mono ?_
  rintro en w' ⟨rfl, ho', hfr⟩
  obtain ⟨fps1, I2, hflt⟩ := hrest w' hfr
  have hrc2 : RC Z w' S (.row true e (scs enc ys)) (plc w' ([[.hole]] : Rows) vals (adr [false] cb) [(0, 0)]).1 (fun k => (vals 0 0).ownBlock = some k) := RC.ofOwns hz (fun a ha => hx a (hsc a ha)) (by rw [hlen]; exact ho') hS
  obtain ⟨fps2, I3, _⟩ := I2.give (p := [(0, 0)]) (by simp [look, cellAt]) hrc2 hflt
  exact ⟨.tup [], [[.row true e (scs enc ys)]], .tuple #[], S, vals, fps2, cb, fun k => ∃ i, (fun _ _ => False : Nat → Nat → Prop) i k, rfl, ⟨rfl, rfl⟩, rfl, rfl, I3, .pk (.tup (xs := []) (vs := []) (fun _ _ => False) rfl (fun i x v hx => by simp at hx) (fun _ _ _ h => h) (fun _ _ _ h => h.elim)), ⟨fun k hk => by obtain ⟨_, hk⟩ := hk; exact hk.elim, fun k hk => by obtain ⟨_, hk⟩ := hk; exact hk.elim, fun k hk => by obtain ⟨_, hk⟩ := hk; exact hk.elim⟩⟩
/-- A function that hands the row back, turned. -/
theorem Does.turnRes (hc : callable P f = true) (hz : Z e = 1) (hsc : ∀ a ∈ ys, a ∈ xs)
    (hcall : ∀ (w : World) (v : Value), w.ownsRow 0 e 1 v xs.length (xs.map enc) → Calls P f #[v] w fun en w' => ∃ u, en = .returned u ∧ w'.ownsRow 0 e 1 u ys.length (ys.map enc) ∧ Fr (fun k => v.ownBlock = some k) w w' ∧ u.ownBlock = v.ownBlock) :
    Does Z P G B0 f [.bor [(0, 0)] 0 xs.length] [[.row true e (scs enc xs)]] [false] (fun y r => y = .c (.row true e (scs enc ys)) ∧ r = [[.hole]]) := by
  refine ⟨hc, fun w S vals fps cb vs hK hG hB hL hI hA => ?_⟩
  obtain ⟨rfl, ho, hS, hx, hrest⟩ := turn_core hz hI hA
  refine (hcall w _ ho).mono ?_
  rintro en w' ⟨u, rfl, ho', hfr, hu⟩
  obtain ⟨fps1, I2, hflt⟩ := hrest w' hfr
  exact ⟨.c (.row true e (scs enc ys)), [[.hole]], u, S, vals, fps1, cb, fun k => u.ownBlock = some k, rfl, ⟨rfl, rfl⟩, rfl, rfl, I2, .pk (.c (RC.ofOwns hz (fun a ha => hx a (hsc a ha)) ho' (fun g hg => hS g (hu ▸ hg)))), by rw [hu]; exact hflt⟩
end
end Go.Abs

/- Rows of scalars that the library's sort turns: what that is in memory. -/
namespace Go.Abs
set_option linter.unusedSimpArgs false
open Go Go.Sort
set_option linter.unusedVariables false
theorem putCells_spec {α : Type} [Inhabited α] (enc : α → Value) (ys : List α) (cur : Array Value) (h : ys.length ≤ cur.size) : (putCells enc 0 ys.toArray cur).size = cur.size ∧ (putCells enc 0 ys.toArray cur).toList.take ys.length = ys.map enc := by
  refine ⟨by simp [putCells], ?_⟩
  apply List.ext_getElem?
  intro i
  rw [List.getElem?_take, List.getElem?_map]
  by_cases hi : i < ys.length
  · rw [if_pos hi, List.getElem?_eq_getElem hi]
    unfold putCells
    have h2 : i < cur.size := by omega
    simp [h2, hi]
  · rw [if_neg hi, List.getElem?_eq_none (by omega)]; rfl
theorem row_turn {α : Type} [Inhabited α] (enc : α → Value) {w : World} {e : TypeId} {v : Value} {n : Nat} {xs ys : List α} (ho : w.ownsRow 0 e 1 v n (xs.map enc)) (hx : xs.length = n) (hy : ys.length = n) :
    (n = 0 ∧ v = .slice none 0 0) ∨ ∃ g cap, v = .slice (some ⟨g, 0, none⟩) n cap ∧ n ≤ cap ∧ Go.Sort.Holds enc w g 0 xs.toArray ∧ g < w.heap.size ∧
      ∀ q os, (grow (putRow enc (Sort.ahead w q) g 0 ys.toArray) os).ownsRow 0 e 1 v n (ys.map enc) ∧ Fr (fun k => v.ownBlock = some k) w (grow (putRow enc (Sort.ahead w q) g 0 ys.toArray) os) := by
  rcases ho.2 with ⟨rfl, h0⟩ | ⟨g, cap, cur, rfl, _, hg, hnc, hcm, hcs, ht⟩
  · exact .inl ⟨h0, rfl⟩
  refine .inr ⟨g, cap, rfl, hnc, fun j hj => ?_, (Array.getElem?_eq_some_iff.1 hg).1, fun q os => ?_⟩
  · have hj' : j < xs.length := by simpa using hj
    have h1 : cur[j]? = some (enc xs[j]) := by
      have h2 : (cur.toList.take (n * 1))[j]? = (xs.map enc)[j]? := by rw [ht]
      rw [List.getElem?_take_of_lt (by omega), List.getElem?_map, List.getElem?_eq_getElem hj'] at h2
      simpa using h2
    refine ⟨?_, ?_⟩
    · unfold World.cell?
      simp only [hg, Nat.zero_add]
      simp [h1, hj']
    · unfold World.frozen?
      simp [hg]
  · have hlt : g < w.heap.size := (Array.getElem?_eq_some_iff.1 hg).1
    have hk : ∀ k, k < w.heap.size → (grow (putRow enc (Sort.ahead w q) g 0 ys.toArray) os).heap[k]? = (w.heap.modify g (onCells (putCells enc 0 ys.toArray)))[k]? := fun k hk => by
      unfold grow putRow mapBlock Sort.ahead
      simp only
      rw [Array.getElem?_append_left (by simpa using hk)]
    obtain ⟨p1, p2⟩ := putCells_spec enc ys cur (by omega)
    have hg2 : (grow (putRow enc (Sort.ahead w q) g 0 ys.toArray) os).heap[g]? = some (.cells (putCells enc 0 ys.toArray cur) e (0, 0)) := by
      rw [hk g hlt, Array.getElem?_modify]
      simp [hg, onCells]
    refine ⟨⟨by simp [hy], .inr ⟨g, cap, _, rfl, Nat.zero_le _, hg2, hnc, hcm, by rw [p1]; exact hcs, ?_⟩⟩, ⟨rfl, rfl, rfl, ?_, fun k hk2 hne => ?_⟩⟩
    · rw [Nat.mul_one, ← hy]; exact p2
    · unfold grow putRow mapBlock Sort.ahead; simp
    · rw [hk k hk2, Array.getElem?_modify]
      have : g ≠ k := fun e => hne (by rw [← e]; rfl)
      simp [this]
theorem owns_less {w : World} {e : TypeId} {g cap n m : Nat} {xs : List Value} (ho : w.ownsRow 0 e 1 (.slice (some ⟨g, 0, none⟩) n cap) n xs) (hm : m ≤ n) : w.ownsRow 0 e 1 (.slice (some ⟨g, 0, none⟩) m cap) m (xs.take m) := by
  rcases ho.2 with ⟨hh, _⟩ | ⟨g2, cap2, cur, hh, hb, hg, hnc, hcm, hcs, ht⟩
  · cases hh
  · cases hh
    refine ⟨by rw [List.length_take, ho.1]; omega, .inr ⟨g, cap, cur, rfl, hb, hg, by omega, hcm, hcs, ?_⟩⟩
    rw [← ht, List.take_take]
    congr 1
    omega
theorem ZOk.sz {Z : TypeId → Nat} {P : Program} (h : ZOk P Z) {e : TypeId} {ag : Bool} {n : Nat} (ht : tinfo P e = some (ag, n)) : Z e = n := by
  obtain ⟨d, i, _, h2, _, h3⟩ := tinfo_spec ht
  rw [h e i h2, h3]
theorem Fr.refl (lf : Nat → Prop) (w : World) : Fr lf w w := ⟨rfl, rfl, rfl, Nat.le_refl _, fun _ _ _ => rfl⟩
end Go.Abs

/- Functions of the library on scalars: from what they do to contracts. -/
namespace Go.Abs
open Go
set_option linter.unusedSimpArgs false
set_option linter.unusedVariables false
variable {Z : TypeId → Nat} {P : Program} {G : World → Prop} {B0 : Nat} {α : Type} {f : FuncId}
def scA (xs : List Value) : List AV := xs.map fun a => .c (.sc a)
theorem scA_inv {w : World} {S : Nat → Prop} {rts : Rows} {vals : Nat → Nat → Value} {ad : Nat → Nat → Option Addr} {xs vs : List Value} (h : RL (RA Z w S rts vals ad) (scA xs) vs) : vs = xs := by
  apply List.ext_getElem?
  intro i
  have hl : xs.length = vs.length := by have := h.1; simpa [scA] using this
  cases hx : xs[i]? with
  | none =>
    rw [List.getElem?_eq_none_iff] at hx ⊢
    omega
  | some a =>
    cases hv : vs[i]? with
    | none =>
      rw [List.getElem?_eq_none_iff] at hv
      have := (List.getElem?_eq_some_iff.1 hx).1
      omega
    | some v =>
      have := h.2 i _ v (by simp only [scA, List.getElem?_map, hx]; rfl) hv
      cases this with
      | c h =>
        cases h with
        | sc _ => rfl
theorem Fr.none_flt {E : Ent} {st : St} {fps : Nat → Nat → Nat → Prop} {cb : Nat → Nat} : Flt E st fps cb (fun _ => False) := ⟨fun _ h => h.elim, fun _ h => h.elim, fun _ h => h.elim⟩
/-- Scalars to a result without memory. -/
theorem Does.sc {xs : List Value} {y : AV} {v : Value} (hc : callable P f = true) (hok : okRes y = true) (hy : ∀ (w : World) (S : Nat → Prop), PK Z w S y v (fun _ => False))
    (hcall : ∀ w, G w → B0 ≤ w.heap.size → Calls P f xs.toArray w fun en w' => en = .returned v ∧ Fr (fun _ => False) w w') :
    Does Z P G B0 f (scA xs) [] [] (fun z _ => z = y) := by
  refine ⟨hc, fun w S vals fps cb vs hK hG hB hL hI hA => ?_⟩
  obtain rfl := scA_inv hA
  refine (hcall w hG hB).mono ?_
  rintro en w' ⟨rfl, hfr⟩
  have I2 := hI.world (X := fun _ => False) hfr Fr.none_flt (fun _ h => h.elim)
  exact ⟨y, [], v, S, vals, fps, cb, fun _ => False, rfl, rfl, hok, rfl, I2, .pk (hy w' S), Fr.none_flt⟩
/-- Scalars to a new row of scalars. -/
theorem Does.scRow {xs : List Value} {e : TypeId} {enc : α → Value} {ys : List α} (hc : callable P f = true) (hz : Z e = 1) (hsc : ∀ a ∈ ys, isSc (enc a) = true)
    (hcall : ∀ w, G w → B0 ≤ w.heap.size → Calls P f xs.toArray w fun en w' => ∃ v, en = .returned v ∧ w'.ownsRow 0 e 1 v ys.length (ys.map enc) ∧ Fr (fun _ => False) w w' ∧ ∀ g, v.ownBlock = some g → w.heap.size ≤ g) :
    Does Z P G B0 f (scA xs) [] [] (fun z _ => z = .c (.row true e (scs enc ys))) := by
  refine ⟨hc, fun w S vals fps cb vs hK hG hB hL hI hA => ?_⟩
  obtain rfl := scA_inv hA
  refine (hcall w hG hB).mono ?_
  rintro en w' ⟨v, rfl, ho, hfr, hg⟩
  have I2 := hI.world (X := fun _ => False) hfr Fr.none_flt (fun _ h => h.elim)
  refine ⟨.c (.row true e (scs enc ys)), [], v, S, vals, fps, cb, fun k => v.ownBlock = some k, rfl, rfl, rfl, rfl, I2, .pk (.c (RC.ofOwns hz hsc ho (fun g h hS => ?_))), ⟨fun k hk r c hf => ?_, fun k hk r hb e => ?_, fun k hk => .inr (hg k hk)⟩⟩
  · have := hI.slt g hS; have := hg g h; omega
  · have := hI.rr.lt hf; have := hg k hk; omega
  · have := hI.box_lt hb; have := hg k hk; omega
/-- A row that is read, in memory. -/
def SR (enc : α → Value) (w : World) (v : Value) (xs : List α) : Prop :=
  (∃ a cap, v = .slice a 0 cap ∧ xs = []) ∨ ∃ b off cap, v = .slice (some ⟨b, off, none⟩) xs.length cap ∧ b < w.heap.size ∧ xs.length ≤ cap ∧ ∀ (j : Nat) x, xs[j]? = some x → w.cell? ⟨b, off + j, none⟩ = some (enc x)
theorem SR.of {w : World} {S : Nat → Prop} {e : TypeId} {enc : α → Value} {xs : List α} {v : Value} (hz : Z e = 1) (hS : ∀ k, S k → k < w.heap.size) (h : RC Z w S (.row false e (scs enc xs)) v (fun _ => False)) : SR enc w v xs := by
  cases h with
  | shr sz hz2 vs hs hsz hr =>
    rw [hz] at hz2; subst hz2
    rw [scs_len] at hs
    obtain ⟨hl, hs⟩ := hs
    have hval : ∀ (j : Nat) x, xs[j]? = some x → vs[j]? = some (enc x) := fun j x hx => by
      have hc : cellAt (scs enc xs) j 0 = some (.sc (enc x)) := by simp [cellAt, scs, hx]
      have h1 := sc_rc (hr j 0 _ hc)
      have hj : j < vs.length := by have := (List.getElem?_eq_some_iff.1 hx).1; omega
      rw [List.getElem?_eq_getElem hj, ← h1]
      simp [lv, List.getD_eq_getElem?_getD, hj]
    rcases hs with ⟨rfl, h0⟩ | ⟨b, off, cap, cur, ty, fz, rfl, hb, hh, hnc, hcm, hv⟩ | ⟨a, cap, rfl, h0, _⟩
    · exact .inl ⟨_, _, rfl, List.eq_nil_of_length_eq_zero h0⟩
    · refine .inr ⟨b, off, cap, rfl, hS b hb, hnc, fun j x hx => ?_⟩
      have h1 := hval j x hx
      rw [← hv, List.getElem?_take] at h1
      split at h1
      · rw [List.getElem?_drop] at h1
        simp only [World.cell?, hh]
        simpa using h1
      · cases h1
    · exact .inl ⟨_, _, rfl, List.eq_nil_of_length_eq_zero h0⟩
/-- A row that is read, and scalars, to a result without memory. -/
theorem Does.rd {e : TypeId} {enc : α → Value} {ys : List α} {xs : List Value} {y : AV} {v : Value} (hc : callable P f = true) (hz : Z e = 1) (hok : okRes y = true) (hy : ∀ (w : World) (S : Nat → Prop), PK Z w S y v (fun _ => False))
    (hcall : ∀ w u, SR enc w u ys → Calls P f (u :: xs).toArray w fun en w' => en = .returned v ∧ Fr (fun _ => False) w w') :
    Does Z P G B0 f (.c (.row false e (scs enc ys)) :: scA xs) [] [] (fun z _ => z = y) := by
  refine ⟨hc, fun w S vals fps cb vs hK hG hB hL hI hA => ?_⟩
  obtain ⟨h1, h2⟩ := hA
  match vs, h1 with
  | u :: us, h1 =>
    have hus : us = xs := scA_inv (w := w) (S := S) (rts := []) (vals := vals) (ad := adr [] cb) ⟨by simpa using h1, fun i x v hx hv => h2 (i + 1) x v (by simpa using hx) (by simpa using hv)⟩
    subst hus
    have hu := h2 0 _ u rfl rfl
    cases hu with
    | c hrc =>
      refine (hcall w u (SR.of hz hI.slt hrc)).mono ?_
      rintro en w' ⟨rfl, hfr⟩
      have I2 := hI.world (X := fun _ => False) hfr Fr.none_flt (fun _ h => h.elim)
      exact ⟨y, [], v, S, vals, fps, cb, fun _ => False, rfl, rfl, hok, rfl, I2, .pk (hy w' S), Fr.none_flt⟩
end Go.Abs

/- A drawn region with one call that is lent roots; quiet operations may come ahead of it or behind it. -/
namespace Go.Abs
open Go
set_option linter.unusedVariables false
set_option linter.unusedSimpArgs false
variable {Z : TypeId → Nat}
section
variable {P : Program} {G : World → Prop} {B0 nl : Nat} {Q : Exit → St → Prop}
theorem phase2C (hZ : ZOk P Z) {E : Ent} (hE : EOk G B0 E) {ops : Array Oper} {m : Nat} (hms : m ≤ ops.size) {U : Nat → Bool} {B : St} {N : Exit → Act → World → Prop}
    (hpre : ∀ (i : Nat) (o : Oper), ops[i]? = some o → ∀ e ∈ o.after, Region.binds .any e = true → e.on < i)
    (hUB : ∀ u, u < m → U u = true → ∃ o e nid, ops[u]? = some o ∧ StepD Z P G B0 (ops.toList.map (·.dst)) (fun _ => true) nid o B e ∧ e.fill = none ∧ (∀ t, o.dst = some t → e.av = getA B.sl t) ∧ E.nl ≤ nid)
    (hUr : ∀ u u' o, u < m → u' < m → U u = true → U u' = true → ops[u]? = some o → ∀ t ∈ readsOf (ops.toList.map (·.dst)) o, dstAt ops u' = some t → Anc ops u u' ∧ u' ≠ u)
    (htail : ∀ i k, i < ops.size → m ≤ i → k < i → Anc ops i k)
    (hN : ∀ (fuel : Nat) (listed : Array Bool) (a' : Act) (w' : World), listed.size = ops.size → (∀ j, listed.getD j false = decide (j < m)) → ops.size - m ≤ fuel → Holds Z E B a' w' → wpAny P .any ops N fuel listed a' w') :
    ∀ (fuel : Nat) (listed : Array Bool) (st : St) (a : Act) (w : World), listed.size = ops.size → ((List.range ops.size).filter fun i => !listed.getD i false).length ≤ fuel → (∀ j, listed.getD j false = true → j < m) → (∀ k, k < m → U k = false → listed.getD k false = true) →
      (∀ j o, ops[j]? = some o → listed.getD j false = true → ∀ e ∈ o.after, Region.binds .any e = true → listed.getD e.on false = true) → Near ops m U (fun j => listed.getD j false) B st → Holds Z E st a w → wpAny P .any ops N fuel listed a w := by
  have hdone : ∀ (fuel : Nat) (listed : Array Bool) (st : St) (a : Act) (w : World), listed.size = ops.size → ((List.range ops.size).filter fun i => !listed.getD i false).length ≤ fuel → (∀ j, listed.getD j false = true → j < m) → (∀ k, k < m → listed.getD k false = true) →
      Near ops m U (fun j => listed.getD j false) B st → Holds Z E st a w → wpAny P .any ops N fuel listed a w := by
    intro fuel listed st a w hsz hc hle hall hn hh
    have hj : ∀ j, listed.getD j false = decide (j < m) := fun j => by
      by_cases h : j < m
      · rw [hall j h]; simp [h]
      · cases hv : listed.getD j false with
        | false => simp [h]
        | true => exact absurd (hle j hv) h
    refine hN fuel listed a w hsz hj (by rw [← count_rest ops.size m _ (by omega) hj]; exact hc) (Eqv.holds ⟨hn.1, hn.2.1, hn.2.2.1, fun t => ?_⟩ hh)
    rcases hn.2.2.2 t with h | ⟨u, h1, _, h3, _⟩
    · exact h
    · simp only [hall u h1, Bool.true_eq_false] at h3
  intro fuel
  induction fuel with
  | zero =>
    intro listed st a w hsz hc hle hall hcl hn hh
    refine hdone 0 listed st a w hsz hc hle (fun k hk => ?_) hn hh
    have h0 := List.eq_nil_of_length_eq_zero (Nat.le_zero.1 hc)
    rw [List.filter_eq_nil_iff] at h0
    have := h0 k (by simp; omega)
    simpa using this
  | succ fuel ih =>
    intro listed st a w hsz hc hle hall hcl hn hh
    by_cases hd : ∀ k, k < m → listed.getD k false = true
    · exact hdone _ listed st a w hsz hc hle hd hn hh
    refine ⟨fun hr => absurd (fun k hk => ready_all hpre listed hsz hr k (by omega)) hd, fun i hi => ?_⟩
    obtain ⟨hin, hfi, hpl⟩ := ready_inv hsz hi
    obtain ⟨hla, hea⟩ := ready_anc hsz hcl hi
    have him : i < m := by
      rcases Nat.lt_or_ge i m with h | h
      · exact h
      · exact absurd (fun k hk => hea k (htail i k hin h (by omega)) (by omega)) hd
    have hUi : U i = true := by
      cases hu : U i with
      | true => rfl
      | false => rw [hall i him hu] at hfi; cases hfi
    obtain ⟨o, e, nid, ho, hs, hf, hav, hnl⟩ := hUB i him hUi
    have hset := listed_set (listed := listed) (i := i) (by omega)
    have hgo := stepD_ok (H := fun _ => true) hZ hE hnl hs (st1 := st) (fun t ht => by
        rcases hn.2.2.2 t with h | ⟨u, h1, h2, h3, h4⟩
        · exact h
        · obtain ⟨h5, h6⟩ := hUr i u o him h1 hUi h2 ho t ht h4
          have := hea u h5 h6
          simp only [this, Bool.true_eq_false] at h3) (fun r _ => by rw [hn.2.1, hn.2.2.1]; exact ⟨rfl, rfl⟩) hn.1 (fun n hn2 => by simp [Eff.root, hf] at hn2) hh (K := wpAny P .any ops N fuel (listed.setIfInBounds i true)) (N := N) (fun a' w' hh' => by
        have hr := on_rt e st
        rw [hf] at hr
        refine ih _ (e.on st) a' w' (by simpa using hsz) (count_set (by omega) hin hfi hc) (fun j hj => ?_) (fun k hk hu => by rw [hset, hall k hk hu]; rfl) (fun j o' hj hfj ed hed hb => ?_) ⟨hr.2.2.trans hn.1, hr.1.trans hn.2.1, hr.2.1.trans hn.2.2.1, fun t => ?_⟩ hh'
        · rw [hset] at hj
          simp only [Bool.or_eq_true, beq_iff_eq] at hj
          rcases hj with h | rfl
          · exact hle j h
          · omega
        · rw [hset] at hfj ⊢
          simp only [Bool.or_eq_true, beq_iff_eq] at hfj ⊢
          rcases hfj with h | rfl
          · exact .inl (hcl j o' hj h ed hed hb)
          · exact .inl (hpl o' hj ed hed hb)
        · rw [on_getA]
          by_cases hd2 : e.dst = some t
          · rw [if_pos hd2]
            exact .inl (hav t (hs.dst ▸ hd2))
          · rw [if_neg hd2]
            rcases hn.2.2.2 t with h | ⟨u, h1, h2, h3, h4⟩
            · exact .inl h
            · refine .inr ⟨u, h1, h2, ?_, h4⟩
              simp only [hset, h3, Bool.false_or, beq_eq_false_iff_ne]
              rintro rfl
              refine hd2 ?_
              rw [hs.dst]
              simpa [dstAt, ho] using h4)
    unfold wpOp
    simp only [ho]
    split
    · rename_i hw; rw [if_pos hw] at hgo; exact .inl hgo
    · rename_i hw; rw [if_neg hw] at hgo; exact hgo
/-- A call that is lent roots, by a contract. -/
def CallC (Z : TypeId → Nat) (P : Program) (G : World → Prop) (B0 : Nat) (st : St) (f : FuncId) (args : List AV) (K : AV → St → Prop) : Prop :=
  ∃ (rs : List Nat) (args' : List AV) (Post : AV → Rows → Prop), (∀ i ∈ rs, i < st.rt.length) ∧ rs.Nodup ∧ args = args'.map (ren rs) ∧ (∀ x ∈ args', hd rs.length x = true) ∧
    Does Z P G B0 f args' (rs.map fun i => st.rt.getD i []) (rs.map fun i => st.bx.getD i false) Post ∧
    ∀ y rts', Post y rts' → rts'.length = rs.length → K (effR st.rt.length y).1 (((st.back rs rts').ext 1).fill st.rt.length (effR st.rt.length y).2.1 (effR st.rt.length y).2.2)
def regQ (P : Program) (nid : Nat) : List Oper → St → (St → Prop) → Prop
  | [], s, K => K s
  | o :: r, s, K => o.guard = none ∧ quiet o.op = true ∧ s.can o.dst = true ∧ match evalOp P s nid o.op with
    | some (av, _) => regQ P nid r (s.put o.dst av) K
    | none => False
def regC (Z : TypeId → Nat) (P : Program) (G : World → Prop) (B0 nid : Nat) (dsts : List (Option Nat)) (us mid : List Oper) (oc : Oper) (tail : List Oper) (K : St → Prop) (A : St) : Prop :=
  oc.guard = none ∧ match oc.op with
    | .call { callee := .value fv, args := args, argTypes := _ } => match evA A fv with
      | .fn f first caps => CallC Z P G B0 A f (first ++ args.toList.map (evA A) ++ caps) fun av s => s.can oc.dst = true ∧ regQ P nid mid (s.put oc.dst av) fun B => (∀ o ∈ us, postU P nid B o) ∧ regA Z P G B0 dsts K tail B
      | _ => False
    | _ => False
theorem regQ_ok {nid : Nat} : ∀ (l : List Oper) (s : St) (K : St → Prop), regQ P nid l s K → ∃ B, K B ∧ B.nt = s.nt ∧ B.rt = s.rt ∧ B.bx = s.bx ∧ ∀ t, getA B.sl t = getA s.sl t ∨ ∃ o ∈ l, o.dst = some t
  | [], s, K, h => ⟨s, h, rfl, rfl, rfl, fun t => .inl rfl⟩
  | o :: r, s, K, h => by
    obtain ⟨_, _, _, h4⟩ := h
    split at h4
    · rename_i av s2 hev
      obtain ⟨B, h5, h6, h7, h8, h9⟩ := regQ_ok r _ K h4
      have e := put_rt s o.dst av
      refine ⟨B, h5, h6.trans e.2.2, h7.trans e.1, h8.trans e.2.1, fun t => ?_⟩
      rcases h9 t with h | ⟨q, hq, hd⟩
      · by_cases hd : o.dst = some t
        · exact .inr ⟨o, by simp, hd⟩
        · left
          rw [h]
          cases hdd : o.dst with
          | none => rfl
          | some d =>
            simp only [St.put, getA]
            rw [if_neg (fun c => hd (by rw [hdd, c]))]
      · exact .inr ⟨q, by simp [hq], hd⟩
    · exact h4.elim
def planOkC (base n m M : Nat) (ops : List Oper) (xs : List (Nat × List Nat)) (us : List Nat) (nid : Nat) : Bool :=
  okD ops && decide (m < M) && decide (M ≤ ops.length) && decide (base ≤ nid) &&
  (xs.zipIdx.all fun x => decide (base ≤ x.1.1) && (!fillsAt ops x.2 || decide (x.1.1 < base + n)) &&
    (x.1.2.all fun r => (List.range x.2).any fun k => fillsAt ops k && ((xs.getD k (0, [])).1 == r) && ((ancs ops).getD x.2 0).testBit k)) &&
  (xs.zipIdx.all fun x => xs.zipIdx.all fun y => (x.2 == y.2) || !(fillsAt ops x.2 && fillsAt ops y.2) || !(x.1.1 == y.1.1)) &&
  ((List.range ops.length).all fun i => decide (i < M) || (List.range i).all fun k => ((ancs ops).getD i 0).testBit k) &&
  ((List.range m).all fun k => us.contains k || ((ancs ops).getD m 0).testBit k) &&
  ((List.range M).all fun i => decide (i ≤ m) || (us.contains i && ((ancs ops).getD i 0).testBit m)) &&
  (us.all fun u => decide (u < M) && !(u == m) && !fillsAt ops u) &&
  (us.all fun u => us.all fun v => ((ops[u]?).map fun o => (readsOf (ops.map (·.dst)) o).all fun t => !(((ops[v]?).bind (·.dst)) == some t) || (((ancs ops).getD u 0).testBit v && !(v == u))).getD true)
theorem W_drawC (hZ : ZOk P Z) (hmo : P.follows .mixedOrders = true) {ops : Array Oper} {st : St} (n m M : Nat) (xs : List (Nat × List Nat)) (us : List Nat) (nid : Nat) (hok : planOkC st.rt.length n m M ops.toList xs us nid = true) {oc : Oper} (hoc : ops[m]? = some oc)
    (h : regD Z P G B0 st.rt.length (ops.toList.map (·.dst)) (regC Z P G B0 nid (ops.toList.map (·.dst)) (us.filterMap (ops.toList[·]?)) ((ops.toList.take M).drop (m + 1)) oc (ops.toList.drop M) (Q .normal)) xs (ops.toList.take m) (st.ext n)) : DrawA Z P G B0 nl ops Q st := by
  intro id E a w hE hnl hh
  refine wp_region_any hmo ?_
  simp only [planOkC, Bool.and_eq_true, decide_eq_true_eq, List.all_eq_true] at hok
  obtain ⟨⟨⟨⟨⟨⟨⟨⟨⟨⟨hD, hmM⟩, hMl⟩, hbn2⟩, hx⟩, hdj⟩, htl⟩, hUm⟩, hUmid⟩, hUs⟩, hUr⟩ := hok
  have hml : m < ops.toList.length := by omega
  have hbn : E.nl ≤ st.rt.length ∧ st.bx.length = st.rt.length := by
    obtain ⟨S, vals, fps, cb, hI⟩ := hh
    exact ⟨hI.lnl, hI.bxn⟩
  have hh0 : Holds Z E (st.ext n) a { w with drawn := w.drawn + 1 } := by
    obtain ⟨S, vals, fps, cb, hI⟩ := hh
    exact ⟨S, vals, fps, cb, (hI.grow (w' := { w with drawn := w.drawn + 1 }) ⟨rfl, rfl, rfl, Nat.le_refl _, fun _ _ _ => rfl⟩).ext n⟩
  obtain ⟨es, h1, h2, h3, h4⟩ := regD_effs xs (ops.toList.take m) 0 (st.ext n) h
  have hmz : m < ops.size := by simpa using hml
  have hm : (ops.toList.take m).length = m := by rw [List.length_take]; simp; omega
  have hes : es.length = m := by omega
  have hxs : xs.length = m := by omega
  have hpre := okD_pre (ops := ops) hD
  have hget : ∀ {i : Nat} {e : Eff}, es[i]? = some e → ∃ o x, ops[i]? = some o ∧ xs[i]? = some x ∧ i < m ∧ StepD Z P G B0 (ops.toList.map (·.dst)) (Hof st.rt.length x.2) x.1 o (applyF (fun k => decide (k < i)) 0 es (st.ext n)) e ∧ (∀ n, e.root = some n → n = x.1 ∧ fills o.op = true) := by
    intro i e he
    have hi : i < m := by have := (List.getElem?_eq_some_iff.1 he).1; omega
    have ho : ops[i]? = some (ops[i]'(by omega)) := Array.getElem?_eq_getElem (by omega)
    have hxi : xs[i]? = some (xs[i]'(by omega)) := List.getElem?_eq_getElem (by omega)
    have ht : (ops.toList.take m)[i]? = some (ops[i]'(by omega)) := by rw [List.getElem?_take, if_pos hi]; simp [ho]
    obtain ⟨g1, g2⟩ := h4 i _ _ e ht hxi he
    rw [Nat.zero_add] at g1
    exact ⟨_, _, ho, hxi, hi, g1, g2⟩
  have hfa : ∀ {i : Nat} {o : Oper}, ops[i]? = some o → fills o.op = true → fillsAt ops.toList i = true := by
    intro i o ho hf
    unfold fillsAt
    rw [Array.getElem?_toList, ho]
    simpa using hf
  have hdist : ∀ {i k : Nat} {x y : Nat × List Nat}, xs[i]? = some x → xs[k]? = some y → k ≠ i → fillsAt ops.toList i = true → fillsAt ops.toList k = true → x.1 ≠ y.1 := by
    intro i k x y hxi hyk hne f1 f2 e
    have := hdj (x, i) (by rw [List.mem_zipIdx_iff_getElem?]; exact hxi) (y, k) (by rw [List.mem_zipIdx_iff_getElem?]; exact hyk)
    simp [f1, f2, e, show ¬ i = k from fun e => hne e.symm] at this
  have hmAnc : ∀ k, k < m → us.contains k = false → Anc ops m k := fun k hk hu => by
    have := hUm k (by simpa using hk)
    simp only [hu, Bool.false_or] at this
    exact ancs_ok this
  have hMid : ∀ i, m < i → i < M → us.contains i = true ∧ Anc ops i m := fun i h1 h2 => by
    have := hUmid i (by simpa using h2)
    simp only [Bool.or_eq_true, decide_eq_true_eq, Bool.and_eq_true] at this
    rcases this with h3 | h3
    · omega
    · exact ⟨h3.1, ancs_ok h3.2⟩
  have hMs : M ≤ ops.size := by simpa using hMl
  have hUroot : ∀ k e, es[k]? = some e → us.contains k = true → e.root = none := by
    intro k e he hu
    obtain ⟨o, x, ho, hxi, hi, g1, g2⟩ := hget he
    cases hr : e.root with
    | none => rfl
    | some r =>
      obtain ⟨e1, e2⟩ := g2 r hr
      have := (hUs k (by simpa using hu)).2
      rw [hfa ho e2] at this
      simp at this
  have htail : ∀ i k, i < ops.size → M ≤ i → k < i → Anc ops i k := fun i k hi hmi hk => by
    have := htl i (by simpa using hi)
    simp only [Bool.or_eq_true, decide_eq_true_eq, List.all_eq_true, List.mem_range] at this
    rcases this with h9 | h9
    · omega
    · exact ancs_ok (h9 k hk)
  refine draw_gen es (by omega) (st.ext n) (fun i => match ops[i]? with | some o => readsOf (ops.toList.map (·.dst)) o | none => []) (fun i => match xs[i]? with | some x => Hof st.rt.length x.2 | none => fun _ => false)
    (fun i o e ho he f hr hag hfr a w hh K N hK => ?_) hpre (fun i k e e' he he' hne t ht hd => ?_) (fun i k e' he' hi r hr hroot => ?_) (fun i k e e' he he' hne hr => ?_) (fun i e r he hr => ?_) hh0 (fun hsz => by omega) (fun fuel i listed a' w' hsz hc hle hcl hh' hi hge => ?_)
  · obtain ⟨o2, x, ho2, hxi, hi, g1, g2⟩ := hget he
    rw [ho] at ho2; cases ho2
    simp only [ho] at hr
    simp only [hxi] at hag
    have hnid : E.nl ≤ x.1 := by
      have := (hx (x, i) (by rw [List.mem_zipIdx_iff_getElem?]; exact hxi)).1.1
      simp only at this
      omega
    exact stepD_ok hZ hE hnid g1 hr hag (by rw [(applyF_len f es 0 (st.ext n)).2.2, (applyF_len _ es 0 (st.ext n)).2.2]) hfr hh hK
  · obtain ⟨o, x, ho, hxi, hi, g1, g2⟩ := hget he
    obtain ⟨o', x', ho', hxi', hi', g1', g2'⟩ := hget he'
    simp only [ho] at ht
    refine okD_cmp hD ho ho' hne (t := t) (ht.imp (fun h => h) fun h => by rw [← g1.dst]; exact h) (by rw [← g1'.dst]; exact hd)
  · obtain ⟨o', x', ho', hxi', hi', g1', g2'⟩ := hget he'
    obtain ⟨e1, e2⟩ := g2' r hroot
    have hil : i < xs.length := by omega
    have hxi : xs[i]? = some xs[i] := List.getElem?_eq_getElem hil
    simp only [hxi, Hof, Bool.or_eq_true, decide_eq_true_eq] at hr
    have hb := (hx (x', k) (by rw [List.mem_zipIdx_iff_getElem?]; exact hxi')).1.1
    simp only at hb
    rcases hr with hr | hr
    · omega
    · have h7 := (hx (xs[i], i) (by rw [List.mem_zipIdx_iff_getElem?]; exact hxi)).2 r (by simpa using hr)
      simp only [List.any_eq_true, List.mem_range, Bool.and_eq_true, beq_iff_eq] at h7
      obtain ⟨k', hk', ⟨f1, f2⟩, f3⟩ := h7
      have hk'x : xs[k']? = some (xs[k']'(by omega)) := List.getElem?_eq_getElem (by omega)
      have f4 : (xs[k']'(by omega)).1 = r := by rw [← f2, List.getD_eq_getElem?_getD, hk'x]; rfl
      have hkk : k' = k := by
        rcases Decidable.em (k' = k) with h | h
        · exact h
        · exact absurd (by rw [f4, e1]) (hdist hk'x hxi' (fun e => h e.symm) f1 (hfa ho' e2))
      subst hkk
      exact ⟨hk', ancs_ok f3⟩
  · obtain ⟨o, x, ho, hxi, hi, g1, g2⟩ := hget he
    obtain ⟨o', x', ho', hxi', hi', g1', g2'⟩ := hget he'
    cases hr2 : e.root with
    | none => exact absurd hr2 hr
    | some r =>
      intro hr3
      obtain ⟨e1, e2⟩ := g2 r hr2
      obtain ⟨e3, e4⟩ := g2' r hr3
      exact hdist hxi hxi' hne (hfa ho e2) (hfa ho' e4) (e1.symm.trans e3)
  · obtain ⟨o, x, ho, hxi, hi, g1, g2⟩ := hget he
    obtain ⟨e1, e2⟩ := g2 r hr
    have h8 := (hx (x, i) (by rw [List.mem_zipIdx_iff_getElem?]; exact hxi)).1
    simp only [hfa ho e2, Bool.not_true, Bool.false_or, decide_eq_true_eq] at h8
    subst e1
    refine ⟨⟨?_, ?_⟩, ?_⟩
    · simp only [St.ext]
      rw [List.getElem?_append_right h8.1, List.getElem?_replicate, if_pos (by omega)]
    · simp only [St.ext, List.getD_eq_getElem?_getD]
      rw [List.getElem?_append_right (by omega), List.getElem?_replicate]
      split <;> rfl
    · simp only [St.ext, List.length_append, List.length_replicate]; omega
  · -- the call's turn
    obtain ⟨hin, hfi, hpl⟩ := ready_inv hsz hi
    obtain ⟨hla, hea⟩ := ready_anc hsz hcl hi
    have him : i = m := by
      rcases Nat.lt_or_ge m i with h | h
      · exfalso
        have hA : Anc ops i m := by
          rcases Nat.lt_or_ge i M with h2 | h2
          · exact (hMid i h h2).2
          · exact htail i m hin h2 h
        have := hle m (hea m hA (by omega)); omega
      · omega
    subst him
    have hdn : ∀ k, k < i → us.contains k = false → listed.getD k false = true := fun k hk hu => hea k (hmAnc k hk hu) (by omega)
    let f : Nat → Bool := fun j => listed.getD j false
    let A := applyF (fun _ => true) 0 es (st.ext n)
    have hroots : ∀ r : Nat, (applyF f 0 es (st.ext n)).rt[r]? = A.rt[r]? ∧ (applyF f 0 es (st.ext n)).bx[r]? = A.bx[r]? := fun r =>
      applyF_rt r es 0 f (fun _ => true) _ _ (fun k e hk hr => by
        have hk2 : k < i := by have := (List.getElem?_eq_some_iff.1 hk).1; omega
        cases hu : us.contains k with
        | true => rw [hUroot k e hk hu] at hr; cases hr
        | false => simp only [f, Nat.zero_add, hdn k hk2 hu]) rfl rfl ⟨rfl, rfl⟩
    have e1 : (applyF f 0 es (st.ext n)).rt = A.rt := List.ext_getElem? fun r => (hroots r).1
    have e2 : (applyF f 0 es (st.ext n)).bx = A.bx := List.ext_getElem? fun r => (hroots r).2
    have e3 : (applyF f 0 es (st.ext n)).nt = A.nt := (applyF_len _ _ _ _).2.2.trans (applyF_len _ _ _ _).2.2.symm
    have hgetA0 : ∀ t, getA (applyF f 0 es (st.ext n)).sl t = getA A.sl t ∨ ∃ u, u < i ∧ us.contains u = true ∧ listed.getD u false = false ∧ dstAt ops u = some t := fun t => by
      by_cases hun : ∃ u, u < i ∧ us.contains u = true ∧ listed.getD u false = false ∧ dstAt ops u = some t
      · exact .inr hun
      · left
        refine applyF_getA t es 0 f (fun _ => true) _ _ (fun k e hk hd => ?_) rfl
        obtain ⟨o, x, ho, hxi, hki, g1, g2⟩ := hget hk
        simp only [f, Nat.zero_add]
        cases hlk : listed.getD k false with
        | true => rfl
        | false =>
          exfalso
          refine hun ⟨k, hki, ?_, hlk, by simp [dstAt, ho, ← g1.dst, hd]⟩
          cases hu : us.contains k with
          | true => rfl
          | false => rw [hdn k hki hu] at hlk; cases hlk
    have hev : ∀ x ∈ oc.op.operands.toList, evA (applyF f 0 es (st.ext n)) x = evA A x := by
      intro x hxm
      cases x with
      | tmp t =>
        refine applyF_getA t es 0 f (fun _ => true) _ _ (fun k e hk hd => ?_) rfl
        obtain ⟨o, x, ho, hxi, hki, g1, g2⟩ := hget hk
        have := okD_cmp hD hoc ho (by omega) (t := t) (.inl (by unfold readsOf; rw [List.mem_append]; left; exact List.mem_flatMap.2 ⟨_, hxm, by simp [slotOf]⟩)) (by rw [← g1.dst]; exact hd)
        simp only [f, Nat.zero_add]
        exact hea k (this.1 hki) (by omega)
      | _ => rfl
    clear hroots
    change regC _ _ _ _ _ _ _ _ _ _ _ A at h3
    clear_value A
    obtain ⟨k1, k5⟩ := h3
    obtain ⟨dst, op, type, pos, after, guard⟩ := oc
    dsimp only at k1 k5 hev
    split at k5
    rotate_left
    · exact k5.elim
    rename_i fv args tys
    split at k5
    rotate_left
    · exact k5.elim
    rename_i fi first caps hfv
    obtain ⟨rs, args', Post, c1, c2, c3, c4, c5, c6⟩ := k5
    have hfv1 : evA (applyF f 0 es (st.ext n)) fv = .fn fi first caps := by rw [hev fv (by simp [Op.operands, Call.operands])]; exact hfv
    have hargs1 : args.toList.map (evA (applyF f 0 es (st.ext n))) = args.toList.map (evA A) := List.map_congr_left fun x hx => hev x (by simp [Op.operands, Call.operands]; exact .inr (by simpa using hx))
    generalize hst1 : applyF f 0 es (st.ext n) = st1 at e1 e2 e3 hgetA0 hfv1 hargs1 hh'
    have hset := listed_set (listed := listed) (i := i) (by omega)
    have hstep : stepA Z P G B0 st1 ⟨dst, .call { callee := .value fv, args := args, argTypes := tys }, type, pos, after, guard⟩ (fun s => ∃ y rts', Post y rts' ∧ rts'.length = rs.length ∧ s = ((((st1.back rs rts').ext 1).fill st1.rt.length (effR st1.rt.length y).2.1 (effR st1.rt.length y).2.2).put dst (effR st1.rt.length y).1)) := by
      simp only [stepA, hfv1, hargs1]
      refine CallA.roots rs (args' := args') (Post := Post) (by rw [e1]; exact c1) c2 c3 c4 (by rw [e1, e2]; exact c5) fun y rts' hp hl => ?_
      rw [effR_ok]
      have hc := (c6 y rts' hp hl).1
      refine ⟨?_, y, rts', hp, hl, rfl⟩
      unfold St.can at hc ⊢
      cases dst with
      | none => rfl
      | some d =>
        simp only [St.fill, St.ext, St.back, decide_eq_true_eq] at hc ⊢
        simp only [e3]; exact hc
    have hcont : ∀ (s : St) (a2 : Act) (w2 : World), (∃ y rts', Post y rts' ∧ rts'.length = rs.length ∧ s = ((((st1.back rs rts').ext 1).fill st1.rt.length (effR st1.rt.length y).2.1 (effR st1.rt.length y).2.2).put dst (effR st1.rt.length y).1)) → Holds Z E s a2 w2 →
        wpAny P .any ops (fun ex a' w' => ∃ st', Holds Z E st' a' w' ∧ Q ex st') fuel (listed.setIfInBounds i true) a2 w2 := by
      rintro s a2 w2 ⟨y, rts', hp, hl, rfl⟩ hB
      obtain ⟨_, hq⟩ := c6 y rts' hp hl
      obtain ⟨B, ⟨k6, k7⟩, b1, b2, b3, b4⟩ := regQ_ok _ _ _ hq
      refine phase2C hZ hE hMs (U := fun k => us.contains k) (B := B) hpre (fun u hu hUu => ?_) (fun u u' o hu hu' hUu hUu' ho t ht hd => ?_) htail (fun fuel listed a2 w3 hsz hl hf hB => ?_) fuel _ _ _ _ (by simpa using hsz) (count_set (by omega) hin hfi hc) (fun j hj => ?_) (fun k hk hu => ?_) (fun j o hj hfj ed hed hb => ?_) ?_ hB
      · have ho : ops[u]? = some (ops[u]'(by omega)) := Array.getElem?_eq_getElem (by omega)
        obtain ⟨p1, p2, p3, p4⟩ := k6 _ (List.mem_filterMap.2 ⟨u, by simpa using hUu, by rw [Array.getElem?_toList]; exact ho⟩)
        split at p4
        · rename_i av s2 hev2
          have hq2 := (evalQ_ag (H := fun _ => true) (st1 := B) (fun r _ => ⟨rfl, rfl⟩) p2 (fun x _ => ⟨rfl, hin_true _⟩) hev2).2
          refine ⟨_, ⟨(ops[u]'(by omega)).dst, av, none⟩, nid, ho, ⟨rfl, p3, fun x _ => hin_true _, .inr ⟨by rw [p1]; rfl, .quiet p2 hq2 rfl⟩⟩, rfl, fun t ht => ?_, by omega⟩
          rw [ht] at p4
          exact p4
        · exact p4.elim
      · have := hUr u (by simpa using hUu) u' (by simpa using hUu')
        have ho2 : ops.toList[u]? = some o := by rw [Array.getElem?_toList]; exact ho
        rw [ho2] at this
        simp only [Option.map_some, Option.getD_some, List.all_eq_true] at this
        have h9 := this t ht
        have hd2 : ((ops.toList[u']?).bind (·.dst)) = some t := by rw [Array.getElem?_toList]; exact hd
        rw [hd2] at h9
        simp only [beq_self_eq_true, Bool.not_true, Bool.false_or, Bool.and_eq_true, Bool.not_eq_true', beq_eq_false_iff_ne] at h9
        exact ⟨ancs_ok h9.1, h9.2⟩
      · exact tail_ok hZ hE (m := M) (fun i2 k hi2 hmi hk => htail i2 k hi2 hmi hk) hpre (ops.size - M) M fuel listed _ a2 w3 (by omega) (Nat.le_refl _) hsz hl hf hB k7
      · rw [hset] at hj
        simp only [Bool.or_eq_true, beq_iff_eq] at hj
        rcases hj with h | rfl
        · have := hle j h; omega
        · omega
      · rw [hset]
        rcases Nat.lt_trichotomy k i with h | h | h
        · rw [hdn k h hu]; rfl
        · simp [h]
        · have h2 := (hMid k h hk).1
          rw [h2] at hu; cases hu
      · rw [hset] at hfj ⊢
        simp only [Bool.or_eq_true, beq_iff_eq] at hfj ⊢
        rcases hfj with h | rfl
        · exact .inl (hcl j o hj h ed hed hb)
        · exact .inl (hpl o hj ed hed hb)
      · have q0 := put_rt (((st1.back rs rts').ext 1).fill st1.rt.length (effR st1.rt.length y).2.1 (effR st1.rt.length y).2.2) dst (effR st1.rt.length y).1
        have q1 := put_rt (((A.back rs rts').ext 1).fill A.rt.length (effR A.rt.length y).2.1 (effR A.rt.length y).2.2) dst (effR A.rt.length y).1
        have hbk : ∀ x, keepR st1 rs rts' x = keepR A rs rts' x := fun x => by unfold keepR; rw [e1, e2]
        refine ⟨?_, ?_, ?_, fun t => ?_⟩
        · rw [b1, q0.2.2, q1.2.2]
          simp only [St.fill, St.ext, St.back]; exact e3
        · rw [b2, q0.1, q1.1]
          simp only [St.fill, St.ext, St.back, e1]
        · rw [b3, q0.2.1, q1.2.1]
          simp only [St.fill, St.ext, St.back, e1, e2]
        · rcases b4 t with h | ⟨o, ho, hd⟩
          rotate_left
          · right
            obtain ⟨k, hk⟩ := List.getElem?_of_mem ho
            rw [List.getElem?_drop, List.getElem?_take] at hk
            split at hk
            · rename_i hkM
              have hk2 : ops[i + 1 + k]? = some o := by rw [← Array.getElem?_toList]; exact hk
              have hul := hMid (i + 1 + k) (by omega) hkM
              refine ⟨i + 1 + k, hkM, hul.1, ?_, by simp [dstAt, hk2, hd]⟩
              simp only [hset]
              cases hv : listed.getD (i + 1 + k) false with
              | true => have := hle _ hv; omega
              | false => simp; omega
            · cases hk
          · rw [h]
            rcases hgetA0 t with h2 | ⟨u, g1, g2, g3, g4⟩
            · left
              have hm1 : ∀ sl, getA (sl.map fun x : Nat × AV => (x.1, keepR st1 rs rts' x.2)) t = keepR A rs rts' (getA sl t) := fun sl => by
                rw [getA_map (keepR st1 rs rts') (by simp [keepR, killR]) t sl, hbk]
              have hm2 : ∀ sl, getA (sl.map fun x : Nat × AV => (x.1, keepR A rs rts' x.2)) t = keepR A rs rts' (getA sl t) := fun sl => getA_map (keepR A rs rts') (by simp [keepR, killR]) t sl
              cases dst with
              | none =>
                simp only [St.put, St.fill, St.ext, St.back]
                rw [hm1, hm2, h2]
              | some d =>
                simp only [St.put, St.fill, St.ext, St.back, getA]
                split
                · rw [e1]
                · rw [hm1, hm2, h2]
            · right
              exact ⟨u, by omega, g2, by simp only [hset, g3, Bool.false_or, beq_eq_false_iff_ne]; omega, g4⟩
    unfold wpOp
    simp only [hoc]
    rw [if_pos (by simp [Region.wanted, k1])]
    left
    exact stepA_ok hZ hE hh' hstep hcont
end
end Go.Abs

/- A drawn region with a lent call, step by step: rules for simp; calls that are lent roots, told by relations. -/
namespace Go.Abs
open Go
set_option linter.unusedVariables false
set_option linter.unusedSimpArgs false
section
variable {Z : TypeId → Nat} {P : Program} {G : World → Prop} {B0 nl base nid : Nat} {Q : Exit → St → Prop} {st : St}
variable {d : List (Option Nat)} {K : St → Prop} {dst : Option Nat} {op : Op} {ty : TypeId} {pos : String} {af : Array Edge} {rest : List Oper}
def CallCM (Z : TypeId → Nat) (P : Program) (G : World → Prop) (B0 : Nat) (st : St) (f : FuncId) (args : List AV) (K : AV → St → Prop) (_ : Dm K) : Prop := CallC Z P G B0 st f args K
@[simp] theorem regC_eq {us mid tail : List Oper} {fv : Operand} {args : Array Operand} {tys : Array TypeId} : regC Z P G B0 nid d us mid ⟨dst, .call { callee := .value fv, args := args, argTypes := tys }, ty, pos, af, none⟩ tail K st = match evA st fv with
    | .fn f first caps => CallCM Z P G B0 st f (first ++ args.toList.map (evA st) ++ caps) (fun av s => s.can dst = true ∧ regQ P nid mid (s.put dst av) fun B => (∀ o ∈ us, postU P nid B o) ∧ regA Z P G B0 d K tail B) ⟨⟩
    | _ => False := by
  simp only [regC, true_and]
  rfl
@[simp] theorem regQ_nil : regQ P nid [] st K = K st := rfl
@[simp] theorem regQ_cons : regQ P nid (⟨dst, op, ty, pos, af, none⟩ :: rest) st K = (quiet op = true ∧ st.can dst = true ∧ optK (evalOp P st nid op) (fun r => regQ P nid rest (st.put dst r.1) K) ⟨⟩) := by
  simp only [regQ, true_and, optK]
  cases evalOp P st nid op <;> rfl
/-- What a call's lent roots are: a bundle of facts. -/
def LentR (st : St) (rs : List Nat) (args args' : List AV) (rts : Rows) (bxs : List Bool) : Prop :=
  (∀ i ∈ rs, i < st.rt.length) ∧ rs.Nodup ∧ args = args'.map (ren rs) ∧ (∀ x ∈ args', hd rs.length x = true) ∧ (rs.map fun i => st.rt.getD i []) = rts ∧ (rs.map fun i => st.bx.getD i false) = bxs
theorem CallC.rootsP (rs : List Nat) {f : FuncId} {args args' : List AV} {rts : Rows} {bxs : List Bool} {Post : AV → Rows → Prop} {K : AV → St → Prop} (hF : Does Z P G B0 f args' rts bxs Post) (hc : LentR st rs args args' rts bxs)
    (hk : ∀ y r, Post y r → r.length = rs.length → K (effR st.rt.length y).1 (((st.back rs r).ext 1).fill st.rt.length (effR st.rt.length y).2.1 (effR st.rt.length y).2.2)) : CallCM Z P G B0 st f args K ⟨⟩ := by
  obtain ⟨h1, h2, h3, h4, rfl, rfl⟩ := hc
  exact ⟨rs, args', Post, h1, h2, h3, h4, hF, hk⟩
theorem CallA.rootsP (rs : List Nat) {f : FuncId} {args args' : List AV} {rts : Rows} {bxs : List Bool} {Post : AV → Rows → Prop} {K : AV → St → Prop} (hF : Does Z P G B0 f args' rts bxs Post) (hc : LentR st rs args args' rts bxs)
    (hk : ∀ y r, Post y r → r.length = rs.length → K (unpR ((st.back rs r).ext 1) st.rt.length y).1 (unpR ((st.back rs r).ext 1) st.rt.length y).2) : CallM Z P G B0 st f args K ⟨⟩ := by
  obtain ⟨h1, h2, h3, h4, rfl, rfl⟩ := hc
  exact CallA.roots rs h1 h2 h3 h4 hF hk
end
attribute [simp] LentR
/-! ### Bits -/
theorem and_bound (a : Int) (n : Nat) (hn : n ≤ 9223372036854775807) : 0 ≤ andI .i64 a (n : Int) ∧ andI .i64 a (n : Int) ≤ n := by
  unfold andI
  have h1 : (BitVec.ofInt 64 a &&& BitVec.ofInt 64 (n : Int)).toNat ≤ n := by
    rw [BitVec.toNat_and]
    refine Nat.le_trans Nat.and_le_right ?_
    rw [BitVec.toNat_ofInt]
    have : ((n : Int) % ((2 ^ 64 : Nat) : Int)).toNat = n := by
      rw [Int.emod_eq_of_lt (by omega) (by omega)]; rfl
    omega
  have hb : IntKind.bits .i64 = 64 := rfl
  rw [hb]
  generalize (BitVec.ofInt 64 a &&& BitVec.ofInt 64 (n : Int)).toNat = m at h1
  rw [wrap_i64 (by omega)]
  omega
end Go.Abs

/- Rows of structs of scalars that a function of the library turns or hands back. -/
namespace Go.Abs
open Go
set_option linter.unusedSimpArgs false
set_option linter.unusedVariables false
variable {Z : TypeId → Nat} {P : Program} {G : World → Prop} {B0 : Nat}
def scR (ls : List (List Value)) : Rows := ls.map (·.map Cell.sc)
theorem flat_get {sz : Nat} : ∀ (ls : List (List Value)) (i c : Nat), (∀ l ∈ ls, l.length = sz) → c < sz → ls.flatten[i * sz + c]? = ls[i]?.bind (·[c]?)
  | [], i, c, _, _ => by simp
  | l :: ls, 0, c, h, hc => by
    have hl := h l (by simp)
    simp only [List.flatten_cons, Nat.zero_mul, Nat.zero_add, List.getElem?_cons_zero, Option.bind_some]
    rw [List.getElem?_append_left (by omega)]
  | l :: ls, i + 1, c, h, hc => by
    have hl := h l (by simp)
    have ih := flat_get ls i c (fun x hx => h x (by simp [hx])) hc
    simp only [List.flatten_cons, List.getElem?_cons_succ]
    rw [List.getElem?_append_right (by rw [hl, Nat.add_mul]; omega), hl, ← ih]
    congr 1
    rw [Nat.add_mul]; omega
theorem flat_len {sz : Nat} : ∀ (ls : List (List Value)), (∀ l ∈ ls, l.length = sz) → ls.flatten.length = ls.length * sz
  | [], _ => by simp
  | l :: ls, h => by
    have hl := h l (by simp)
    have ih := flat_len ls (fun x hx => h x (by simp [hx]))
    simp only [List.flatten_cons, List.length_append, List.length_cons, ih, hl, Nat.add_mul]; omega
theorem cellAt_scR {ls : List (List Value)} {i c : Nat} {cell : Cell} (h : cellAt (scR ls) i c = some cell) : ∃ l a, ls[i]? = some l ∧ l[c]? = some a ∧ cell = .sc a := by
  unfold cellAt scR at h
  rw [List.getElem?_map] at h
  cases hx : ls[i]? with
  | none => rw [hx] at h; cases h
  | some l =>
    rw [hx] at h
    simp only [Option.map_some, Option.bind_some, List.getElem?_map] at h
    cases hc : l[c]? with
    | none => rw [hc] at h; cases h
    | some a => rw [hc] at h; exact ⟨l, a, rfl, hc, by simpa using h.symm⟩
theorem scR_len (ls : List (List Value)) : (scR ls).length = ls.length := by simp [scR]
theorem scR_rows {sz : Nat} {ls : List (List Value)} (h : ∀ l ∈ ls, l.length = sz) : ∀ x ∈ scR ls, x.length = sz := by
  intro x hx
  obtain ⟨a, ha, rfl⟩ := List.mem_map.1 hx
  simpa using h a ha
theorem lv_flat {sz : Nat} {ls : List (List Value)} (h : ∀ l ∈ ls, l.length = sz) {i c : Nat} {l : List Value} {a : Value} (hl : ls[i]? = some l) (ha : l[c]? = some a) : lv ls.flatten sz i c = a := by
  have hc : c < sz := by rw [← h l (List.mem_of_getElem? hl)]; exact (List.getElem?_eq_some_iff.1 ha).1
  unfold lv
  rw [List.getD_eq_getElem?_getD, flat_get ls i c h hc, hl]
  simp [ha]
/-- A row of structs of scalars in memory, as a cell. -/
theorem RC.ofOwnsR {w : World} {S : Nat → Prop} {e : TypeId} {sz : Nat} {v : Value} {ls : List (List Value)} (hz : Z e = sz) (hl : ∀ l ∈ ls, l.length = sz) (hsc : ∀ l ∈ ls, ∀ a ∈ l, isSc a = true) (ho : w.ownsRow 0 e sz v ls.length ls.flatten) (hS : ∀ g, v.ownBlock = some g → ¬ S g) :
    RC Z w S (.row true e (scR ls)) v (fun k => v.ownBlock = some k) := by
  have h := RC.own (Z := Z) (w := w) (S := S) (e := e) (es := scR ls) (v := v) sz hz ls.flatten (fun _ _ _ => False) (by rw [scR_len]; exact ho) (scR_rows hl) (fun i c cell hc => by
    obtain ⟨l, a, h1, h2, rfl⟩ := cellAt_scR hc
    rw [lv_flat hl h1 h2]
    exact .sc (hsc l (List.mem_of_getElem? h1) a (List.mem_of_getElem? h2))) (fun _ _ _ _ h => h) (fun _ _ _ _ _ h => h.elim) (fun g hg => ⟨hS g hg, fun _ _ h => h⟩)
  have e : (fun k => v.ownBlock = some k ∨ ∃ i c, (fun _ _ _ => False : Nat → Nat → Nat → Prop) i c k) = fun k => v.ownBlock = some k := by
    funext k; simp
  rw [e] at h
  exact h
/-- What such a cell says of memory. -/
theorem RC.toOwnsR {w : World} {S : Nat → Prop} {e : TypeId} {sz : Nat} {v : Value} {ls : List (List Value)} {fp : Nat → Prop} (hz : Z e = sz) (hl : ∀ l ∈ ls, l.length = sz) (h : RC Z w S (.row true e (scR ls)) v fp) : w.ownsRow 0 e sz v ls.length ls.flatten ∧ (∀ k, fp k ↔ v.ownBlock = some k) ∧ ∀ l ∈ ls, ∀ a ∈ l, isSc a = true := by
  cases h with
  | own sz2 hz2 vs fps ho hsz hr hout hd hg =>
    rw [hz] at hz2; subst hz2
    rw [scR_len] at ho
    have hvl : vs.length = ls.length * sz := ho.1
    have hvs : vs = ls.flatten := by
      apply List.ext_getElem?
      intro j
      by_cases hj : j < ls.length * sz
      · have h0 : 0 < sz := by
          rcases Nat.eq_zero_or_pos sz with h0 | h0
          · rw [h0] at hj; omega
          · exact h0
        have hc := Nat.mod_lt j h0
        have hi : j / sz < ls.length := (Nat.div_lt_iff_lt_mul h0).2 hj
        have hjj : j = j / sz * sz + j % sz := by rw [Nat.mul_comm]; exact (Nat.div_add_mod j sz).symm
        have h1 : ls[j / sz]? = some ls[j / sz] := List.getElem?_eq_getElem hi
        have hll := hl _ (List.getElem_mem hi)
        have h2 : ls[j / sz][j % sz]? = some (ls[j / sz][j % sz]'(by omega)) := List.getElem?_eq_getElem (by omega)
        have hcell : cellAt (scR ls) (j / sz) (j % sz) = some (.sc (ls[j / sz][j % sz]'(by omega))) := by simp [cellAt, scR, h1, h2]
        have h3 := sc_rc (hr _ _ _ hcell)
        have h4 := flat_get ls (j / sz) (j % sz) hl hc
        rw [← hjj, h1] at h4
        rw [h4]
        simp only [Option.bind_some, h2]
        rw [← h3]
        unfold lv
        rw [← hjj, List.getD_eq_getElem?_getD, List.getElem?_eq_getElem (by omega)]
        rfl
      · rw [List.getElem?_eq_none (by omega), List.getElem?_eq_none (by rw [flat_len ls hl]; omega)]
    subst hvs
    refine ⟨ho, fun k => ⟨fun hk => ?_, fun hk => .inl hk⟩, fun l hlm a ha => ?_⟩
    · rcases hk with hk | ⟨i, c, hk⟩
      · exact hk
      · cases hc : cellAt (scR ls) i c with
        | none => exact absurd hk (hout i c hc k)
        | some cell =>
          obtain ⟨l, a, h1, h2, rfl⟩ := cellAt_scR hc
          exact absurd hk (sc_fp (hr i c _ hc) k)
    · obtain ⟨i, hi⟩ := List.getElem?_of_mem hlm
      obtain ⟨c, hc⟩ := List.getElem?_of_mem ha
      have hcell : cellAt (scR ls) i c = some (.sc a) := by simp [cellAt, scR, hi, hc]
      exact sc_isSc (hr i c _ hcell)
/-- What a row that is read says of memory. -/
theorem shr_read {w : World} {S : Nat → Prop} {e : TypeId} {sz : Nat} {v : Value} {ls : List (List Value)} (hz : Z e = sz) (hl : ∀ l ∈ ls, l.length = sz) (hne : ls ≠ []) (h : RC Z w S (.row false e (scR ls)) v (fun _ => False)) :
    ∃ b off cap cur ty fz, v = .slice (some ⟨b, off, none⟩) ls.length cap ∧ S b ∧ w.heap[b]? = some (.cells cur ty fz) ∧ ls.length ≤ cap ∧ cap ≤ maxLen ∧ (cur.toList.drop off).take (ls.length * sz) = ls.flatten ∧ ∀ l ∈ ls, ∀ a ∈ l, isSc a = true := by
  cases h with
  | shr sz2 hz2 vs hs hsz hr =>
    rw [hz] at hz2; subst hz2
    rw [scR_len] at hs
    obtain ⟨hvl, hs⟩ := hs
    have hvs : vs = ls.flatten := by
      apply List.ext_getElem?
      intro j
      by_cases hj : j < ls.length * sz
      · have h0 : 0 < sz := by
          rcases Nat.eq_zero_or_pos sz with h0 | h0
          · rw [h0] at hj; omega
          · exact h0
        have hc := Nat.mod_lt j h0
        have hi : j / sz < ls.length := (Nat.div_lt_iff_lt_mul h0).2 hj
        have hjj : j = j / sz * sz + j % sz := by rw [Nat.mul_comm]; exact (Nat.div_add_mod j sz).symm
        have h1 : ls[j / sz]? = some ls[j / sz] := List.getElem?_eq_getElem hi
        have hll := hl _ (List.getElem_mem hi)
        have h2 : ls[j / sz][j % sz]? = some (ls[j / sz][j % sz]'(by omega)) := List.getElem?_eq_getElem (by omega)
        have hcell : cellAt (scR ls) (j / sz) (j % sz) = some (.sc (ls[j / sz][j % sz]'(by omega))) := by simp [cellAt, scR, h1, h2]
        have h3 := sc_rc (hr _ _ _ hcell)
        have h4 := flat_get ls (j / sz) (j % sz) hl hc
        rw [← hjj, h1] at h4
        rw [h4]
        simp only [Option.bind_some, h2]
        rw [← h3]
        unfold lv
        rw [← hjj, List.getD_eq_getElem?_getD, List.getElem?_eq_getElem (by omega)]
        rfl
      · rw [List.getElem?_eq_none (by omega), List.getElem?_eq_none (by rw [flat_len ls hl]; omega)]
    subst hvs
    have hsc : ∀ l ∈ ls, ∀ a ∈ l, isSc a = true := fun l hlm a ha => by
      obtain ⟨i, hi⟩ := List.getElem?_of_mem hlm
      obtain ⟨c, hc⟩ := List.getElem?_of_mem ha
      have hcell : cellAt (scR ls) i c = some (.sc a) := by simp [cellAt, scR, hi, hc]
      exact sc_isSc (hr i c _ hcell)
    have hpos : 0 < ls.length := List.length_pos_iff.2 hne
    rcases hs with ⟨_, h0⟩ | ⟨b, off, cap, cur, ty, fz, rfl, hb, hh, hnc, hcm, hv⟩ | ⟨a, cap, _, h0, _⟩
    · omega
    · exact ⟨b, off, cap, cur, ty, fz, rfl, hb, hh, hnc, hcm, hv, hsc⟩
    · omega
section
variable {f : FuncId} {e : TypeId} {sz : Nat} {ls ms : List (List Value)}
/-- One own row is lent, the rest is closed: what the call finds, and what stands when it is taken. -/
theorem turn_coreR (hz : Z e = sz) (hl : ∀ l ∈ ls, l.length = sz) {w : World} {S : Nat → Prop} {vals : Nat → Nat → Value} {fps : Nat → Nat → Nat → Prop} {cb : Nat → Nat} {vs : List Value} {ex : List AV} (hI : Inv Z (entOf w S [[.row true e (scR ls)]] [false] vals fps cb) ⟨0, [], [[.row true e (scR ls)]], [false]⟩ ⟨#[], []⟩ w S vals fps cb)
    (hA : RL (RA Z w S [[.row true e (scR ls)]] vals (adr [false] cb)) (.bor [(0, 0)] 0 ls.length :: ex) vs) :
    ∃ us, vs = vals 0 0 :: us ∧ RL (RA Z w S [[.row true e (scR ls)]] vals (adr [false] cb)) ex us ∧ w.ownsRow 0 e sz (vals 0 0) ls.length ls.flatten ∧ (∀ g, (vals 0 0).ownBlock = some g → ¬ S g) ∧ (∀ l ∈ ls, ∀ a ∈ l, isSc a = true) ∧
      ∀ w', Fr (fun k => (vals 0 0).ownBlock = some k) w w' → ∃ fps', Inv Z (entOf w S [[.row true e (scR ls)]] [false] vals fps cb) ⟨0, [], [[.hole]], [false]⟩ ⟨#[], []⟩ w' S vals fps' cb ∧ Flt (entOf w S [[.row true e (scR ls)]] [false] vals fps cb) ⟨0, [], [[.hole]], [false]⟩ fps' cb (fun k => (vals 0 0).ownBlock = some k) ∧ ∀ r c k, fps' r c k → fps r c k := by
  have hlk : look ([[.row true e (scR ls)]] : Rows) [(0, 0)] = some (.row true e (scR ls)) := by simp [look, cellAt]
  have hrc := hI.rr.rc 0 0 (.row true e (scR ls)) (by simp [cellAt])
  obtain ⟨ho, hfp, hscx⟩ := hrc.toOwnsR hz hl
  obtain ⟨h1, h2⟩ := hA
  match vs, h1 with
  | u :: us, h1 =>
    have hu := h2 0 _ u rfl rfl
    have hus : u = vals 0 0 := by
      cases hu with
      | bor hl2 hsz hlen hs =>
        rw [hlk] at hl2; cases hl2
        rename_i sz2
        have key : subH sz (vals 0 0) 0 ls.length u := by
          have hs' : subH sz2 (vals 0 0) 0 ls.length u := by simpa [plc] using hs
          rcases hs' with hs' | ⟨g, n, cap, h3, h4, h5⟩
          · exact .inl hs'
          · exact .inr ⟨g, n, cap, h3, h4, h5.imp id (fun ⟨a, _⟩ => absurd a (Nat.lt_irrefl 0))⟩
        exact sub_self ho key
    subst hus
    refine ⟨us, rfl, ⟨by simpa using h1, fun i x v hx hv => h2 (i + 1) x v (by simpa using hx) (by simpa using hv)⟩, ho, fun g hg => hrc.notS g ((hfp g).2 hg), hscx, fun w' hw => ?_⟩
    obtain ⟨fps1, fpc, I1, hrc1, hflt, hsub, hfpc, _⟩ := hI.take hlk
    have hfp1 := (hrc1.toOwnsR hz hl).2.1
    have hplc : (plc w ([[.row true e (scR ls)]] : Rows) vals (adr [false] cb) [(0, 0)]).1 = vals 0 0 := rfl
    have hfr : Fr fpc w w' := ⟨hw.os, hw.tape, hw.output, hw.size, fun k hk hn => hw.block k hk fun hh => hn ((hfp1 k).2 hh)⟩
    have hfS : ∀ k, fpc k → ¬ S k := fun k hk => hrc1.notS k hk
    have I2 := I1.world hfr (X := fpc) ⟨hflt.no, hflt.nb, hflt.own⟩ hfS
    exact ⟨fps1, I2, ⟨fun k hk => hflt.no k ((hfp1 k).2 hk), fun k hk => hflt.nb k ((hfp1 k).2 hk), fun k hk => hflt.own k ((hfp1 k).2 hk)⟩, hsub⟩
/-- A function that hands a row of structs of scalars back, turned: in its place or in a new block. -/
theorem Does.turnResR (hc : callable P f = true) (hz : Z e = sz) (hl : ∀ l ∈ ls, l.length = sz) (hm : ∀ l ∈ ms, l.length = sz) (hsc : (∀ l ∈ ls, ∀ a ∈ l, isSc a = true) → ∀ l ∈ ms, ∀ a ∈ l, isSc a = true) {ex : List AV} (Q : World → (Nat → Prop) → List Value → Prop)
    (hQ : ∀ (w : World) (S : Nat → Prop) (rts : Rows) (vals : Nat → Nat → Value) (ad : Nat → Nat → Option Addr) (us : List Value), (∀ k, S k → k < w.heap.size) → RL (RA Z w S rts vals ad) ex us → Q w S us)
    (hcall : ∀ (w : World) (S : Nat → Prop) (v : Value) (us : List Value), w.ownsRow 0 e sz v ls.length ls.flatten → (∀ g, v.ownBlock = some g → ¬ S g) → (∀ l ∈ ls, ∀ a ∈ l, isSc a = true) → Q w S us → Calls P f (v :: us).toArray w fun en w' => ∃ u, en = .returned u ∧ w'.ownsRow 0 e sz u ms.length ms.flatten ∧ Fr (fun k => v.ownBlock = some k) w w' ∧ ∀ g, u.ownBlock = some g → v.ownBlock = some g ∨ w.heap.size ≤ g) :
    Does Z P G B0 f (.bor [(0, 0)] 0 ls.length :: ex) [[.row true e (scR ls)]] [false] (fun y r => y = .c (.row true e (scR ms)) ∧ r = [[.hole]]) := by
  refine ⟨hc, fun w S vals fps cb vs hK hG hB hL hI hA => ?_⟩
  obtain ⟨us, rfl, hex, ho, hS, hx, hrest⟩ := turn_coreR hz hl hI hA
  refine (hcall w S _ us ho hS hx (hQ w S _ _ _ us hI.slt hex)).mono ?_
  rintro en w' ⟨u, rfl, ho', hfr, hu⟩
  obtain ⟨fps1, I2, hflt, hsub⟩ := hrest w' hfr
  have hI0 := hI
  refine ⟨.c (.row true e (scR ms)), [[.hole]], u, S, vals, fps1, cb, fun k => u.ownBlock = some k, rfl, ⟨rfl, rfl⟩, rfl, rfl, I2, .pk (.c (RC.ofOwnsR hz hm (hsc hx) ho' (fun g hg hSg => ?_))), ⟨fun k hk r c hf => ?_, fun k hk r hb => ?_, fun k hk => ?_⟩⟩
  · rcases hu g hg with h | h
    · exact hS g h hSg
    · have := hI0.slt g hSg; omega
  · rcases hu k hk with h | h
    · exact hflt.no k h r c hf
    · have := hI0.rr.lt (hsub r c k hf); omega
  · cases r with
    | zero => simp at hb
    | succ r => simp at hb
  · rcases hu k hk with h | h
    · exact hflt.own k h
    · exact .inr h
end
theorem RL.three {R : AV → Value → Prop} {x y z : AV} {vs : List Value} (h : RL R [x, y, z] vs) : ∃ u v t, vs = [u, v, t] ∧ R x u ∧ R y v ∧ R z t := by
  obtain ⟨h1, h2⟩ := h
  match vs, h1 with
  | [u, v, t], _ => exact ⟨u, v, t, rfl, h2 0 _ _ rfl rfl, h2 1 _ _ rfl rfl, h2 2 _ _ rfl rfl⟩
end Go.Abs

/- slices.Insert in memory: what is copied, what a row holds then. -/
namespace Go.Abs
open Go
set_option linter.unusedSimpArgs false
set_option linter.unusedVariables false
variable {P : Program}
theorem run_copy_cellsN (w : World) (dT sT ty elem : TypeId) (k b o dLen dCap : Nat) (a : Addr) (sLen sCap : Nat) (cs : List Value) (hu : P.underlying dT = some (.slice elem)) (hs : (P.info? elem).map (·.size) = some k) (hn : cs.length = Nat.min sLen dLen * k)
    (hsrc : ∀ j v, cs[j]? = some v → w.cell? (a.add j) = some v) (hc : ∀ j, j < cs.length → (w.cell? ⟨b, o + j, none⟩).isSome = true) (hf : ∀ j, j < cs.length → w.frozen? ⟨b, o + j, none⟩ = false) (h1 : ∀ v ∈ cs, v.oneCell' = true) :
    (Builtin.copy_ #[dT, sT] ty #[.slice (some ⟨b, o, none⟩) dLen dCap, .slice (some a) sLen sCap]).run P w = .ok (goInt (Nat.min sLen dLen)) (w.setCells b o cs) := by
  have hfc := run_firstCells_some (P := P) w k (Nat.min sLen dLen) a sLen sCap cs hn hsrc
  have hst := run_storeCells_cells (P := P) b o cs 0 w (by simpa using hc) (by simpa using hf) h1
  simp only [Nat.add_zero] at hst
  cases hq : P.info? elem with
  | none => simp [hq] at hs
  | some i =>
    have hi : i.size = k := by simpa [hq] using hs
    simp [Builtin.copy_, run_underlying hu, Builtin.lenOf, sizeOf, typeInfo, hq, hi, hfc, hst]
/-- Memory is the same but for the draws. -/
structure Same (w w' : World) : Prop where
  heap : w'.heap = w.heap
  os : w'.os = w.os
  tape : w'.tape = w.tape
  output : w'.output = w.output
theorem Same.refl (w : World) : Same w w := ⟨rfl, rfl, rfl, rfl⟩
theorem Same.drew (w : World) : Same w w.drew := ⟨rfl, rfl, rfl, rfl⟩
theorem Same.trans {a b c : World} (h : Same a b) (k : Same b c) : Same a c := ⟨k.heap.trans h.heap, k.os.trans h.os, k.tape.trans h.tape, k.output.trans h.output⟩
section
variable {w : World} {e : TypeId} {sz n : Nat} {xs us : List Value}
/-- What a row is, told by its block. -/
theorem row_of {g cap : Nat} {cur : Array Value} (hb : w.heap[g]? = some (.cells cur e (0, 0))) (hnc : n ≤ cap) (hcm : cap ≤ maxLen) (hcs : cur.size = cap * sz) (hx : xs.length = n * sz) (hv : ∀ j, j < xs.length → cur[j]? = xs[j]?) : w.ownsRow 0 e sz (.slice (some ⟨g, 0, none⟩) n cap) n xs := by
  refine ⟨hx, .inr ⟨g, cap, cur, rfl, Nat.zero_le _, hb, hnc, hcm, hcs, ?_⟩⟩
  apply List.ext_getElem?
  intro j
  rw [List.getElem?_take]
  split
  · rename_i hj
    rw [← hx] at hj
    rw [Array.getElem?_toList]
    exact hv j hj
  · rename_i hj
    rw [← hx] at hj
    rw [List.getElem?_eq_none (by omega)]
theorem row_at {g cap : Nat} (ho : w.ownsRow 0 e sz (.slice (some ⟨g, 0, none⟩) n cap) n xs) : ∃ cur, w.heap[g]? = some (.cells cur e (0, 0)) ∧ n ≤ cap ∧ cap ≤ maxLen ∧ cur.size = cap * sz ∧ xs.length = n * sz ∧ ∀ j, j < xs.length → cur[j]? = xs[j]? := by
  obtain ⟨hx, hr⟩ := ho
  rcases hr with ⟨hh, _⟩ | ⟨g2, cap2, cur, hh, hb, hg, hnc, hcm, hcs, ht⟩
  · cases hh
  · cases hh
    refine ⟨cur, hg, hnc, hcm, hcs, hx, fun j hj => ?_⟩
    rw [← ht, List.getElem?_take, if_pos (by omega), Array.getElem?_toList]
theorem ins_at (i j : Nat) (hl : i ≤ xs.length) : (xs.take i ++ us ++ xs.drop i)[j]? = if j < i then xs[j]? else if j < i + us.length then us[j - i]? else xs[j - us.length]? := by
  by_cases c1 : j < i
  · rw [if_pos c1, List.append_assoc, List.getElem?_append_left (by simp; omega), List.getElem?_take_of_lt c1]
  · rw [if_neg c1]
    by_cases c2 : j < i + us.length
    · rw [if_pos c2, List.append_assoc, List.getElem?_append_right (by simp; omega)]
      simp only [List.length_take, Nat.min_eq_left hl]
      rw [List.getElem?_append_left (by omega)]
    · rw [if_neg c2, List.append_assoc, List.getElem?_append_right (by simp; omega)]
      simp only [List.length_take, Nat.min_eq_left hl]
      rw [List.getElem?_append_right (by omega), List.getElem?_drop]
      congr 1; omega
theorem ins_len (i : Nat) (hl : i ≤ xs.length) : (xs.take i ++ us ++ xs.drop i).length = xs.length + us.length := by simp; omega
theorem fr_set {g o : Nat} {vs : List Value} {a : World} (h : Same w a) : Fr (fun k => k = g) w (a.setCells g o vs) := by
  obtain ⟨h1, h2, h3, h4, h5⟩ := setCells_off (g := g) vs o a
  exact ⟨h1.trans h.os, h2.trans h.tape, h3.trans h.output, by rw [h4, h.heap]; exact Nat.le_refl _, fun k _ hk => by rw [h5 k hk, h.heap]⟩
theorem Fr.same {X : Nat → Prop} {a b : World} (h : Fr X w a) (k : Same a b) : Fr X w b := ⟨k.os.trans h.os, k.tape.trans h.tape, k.output.trans h.output, by rw [k.heap]; exact h.size, fun j hj hx => by rw [k.heap]; exact h.block j hj hx⟩
/-- There is room, at the end: the spare cells take it. -/
theorem own_end {g cap : Nat} (ho : w.ownsRow 0 e sz (.slice (some ⟨g, 0, none⟩) n cap) n xs) (hr : n + 1 ≤ cap) (hu : us.length = sz) : (w.setCells g (n * sz) us).ownsRow 0 e sz (.slice (some ⟨g, 0, none⟩) (n + 1) cap) (n + 1) (xs ++ us) := by
  obtain ⟨cur, hb, hnc, hcm, hcs, hx, hv⟩ := row_at ho
  have hfit : n * sz + us.length ≤ cur.size := by
    rw [hcs, hu]
    have := Nat.mul_le_mul_right sz hr
    rw [Nat.add_mul] at this; omega
  obtain ⟨cur', h1, h2, h3⟩ := setCells_on us (n * sz) w cur hb hfit
  refine row_of h1 hr hcm (by rw [h2]; exact hcs) (by rw [List.length_append, hx, hu, Nat.add_mul]; omega) fun j hj => ?_
  rw [h3 j]
  rw [List.length_append] at hj
  by_cases c : n * sz ≤ j
  · rw [if_pos (by omega), List.getElem?_append_right (by omega), hx]
  · rw [if_neg (by omega), List.getElem?_append_left (by omega)]
    exact hv j (by omega)
/-- There is room, in the middle: what stands from there on is moved up. -/
theorem own_shift {g cap i : Nat} (ho : w.ownsRow 0 e sz (.slice (some ⟨g, 0, none⟩) n cap) n xs) (hi : i < n) (hr : n + 1 ≤ cap) (hu : us.length = sz) {a b : World} (ha : Same w a) (hb : Same (a.setCells g ((i + 1) * sz) (xs.drop (i * sz))) b) :
    (b.setCells g (i * sz) us).ownsRow 0 e sz (.slice (some ⟨g, 0, none⟩) (n + 1) cap) (n + 1) (xs.take (i * sz) ++ us ++ xs.drop (i * sz)) ∧ Fr (fun k => k = g) w (b.setCells g (i * sz) us) := by
  obtain ⟨cur, hbk, hnc, hcm, hcs, hx, hv⟩ := row_at ho
  have hin : i * sz ≤ n * sz := Nat.mul_le_mul_right sz (by omega)
  have hn1 : (n + 1) * sz ≤ cap * sz := Nat.mul_le_mul_right sz hr
  have e1 : (i + 1) * sz = i * sz + sz := by rw [Nat.add_mul]; omega
  have e2 : (n + 1) * sz = n * sz + sz := by rw [Nat.add_mul]; omega
  obtain ⟨cur1, h1, h2, h3⟩ := setCells_on (xs.drop (i * sz)) ((i + 1) * sz) a cur (by rw [ha.heap]; exact hbk) (by rw [List.length_drop, hx]; omega)
  obtain ⟨cur2, k1, k2, k3⟩ := setCells_on us (i * sz) b cur1 (by rw [hb.heap]; exact h1) (by omega)
  refine ⟨row_of k1 hr hcm (by rw [k2, h2]; exact hcs) (by rw [ins_len _ (by omega), hx, hu]; omega) fun j hj => ?_, ?_⟩
  · rw [ins_len _ (by omega), hx] at hj
    rw [k3 j, h3 j, ins_at _ _ (by omega)]
    by_cases c1 : j < i * sz
    · rw [if_neg (by omega), if_neg (by omega), if_pos c1]
      exact hv j (by omega)
    · rw [if_neg c1]
      by_cases c2 : j < i * sz + us.length
      · rw [if_pos (by omega), if_pos c2]
      · rw [if_neg (by omega), if_neg c2, if_pos (by rw [List.length_drop, hx]; omega), List.getElem?_drop]
        congr 1; omega
  · have f1 : Fr (fun k => k = g) w (a.setCells g ((i + 1) * sz) (xs.drop (i * sz))) := fr_set ha
    have f2 := f1.same hb
    have f3 : Fr (fun k => k = g) b (b.setCells g (i * sz) us) := fr_set (Same.refl b)
    exact f2.trans f3 fun k _ h => h
/-- No room: a new row. -/
theorem own_new {i c G : Nat} {z : Array Value} {a b d : World} (hx : xs.length = n * sz) (hi : i < n) (hu : us.length = sz) (hz : z.size = sz) (hG : n + 1 ≤ G) (hGm : G ≤ maxLen) (ha : Same (w.alloc (.cells ((xs.take (i * sz)).toArray ++ Builtin.zeroCells z (n + 1 - i) ++ Builtin.zeroCells z (G - (n + 1))) e)) a)
    (hb : Same (a.setCells w.heap.size (i * sz) us) b) :
    (b.setCells w.heap.size ((i + 1) * sz) (xs.drop (i * sz))).ownsRow 0 e sz (.slice (some ⟨w.heap.size, 0, none⟩) (n + 1) G) (n + 1) (xs.take (i * sz) ++ us ++ xs.drop (i * sz)) ∧ Fr (fun _ => False) w (b.setCells w.heap.size ((i + 1) * sz) (xs.drop (i * sz))) := by
  have hin : i * sz ≤ n * sz := Nat.mul_le_mul_right sz (by omega)
  have e1 : (i + 1) * sz = i * sz + sz := by rw [Nat.add_mul]; omega
  have e2 : (n + 1) * sz = n * sz + sz := by rw [Nat.add_mul]; omega
  have hGs : (n + 1) * sz ≤ G * sz := Nat.mul_le_mul_right sz hG
  obtain ⟨cur, hcur⟩ : ∃ cur, cur = (xs.take (i * sz)).toArray ++ Builtin.zeroCells z (n + 1 - i) ++ Builtin.zeroCells z (G - (n + 1)) := ⟨_, rfl⟩
  rw [← hcur] at ha
  have hcs : cur.size = G * sz := by
    rw [hcur]
    simp only [Array.size_append, List.size_toArray, size_zeroCells, hz, List.length_take, Nat.min_eq_left (show i * sz ≤ xs.length by omega), ← Nat.add_mul]
    congr 1; omega
  have hc0 : ∀ j, j < i * sz → cur[j]? = xs[j]? := fun j hj => by
    rw [hcur, Array.getElem?_append_left (by simp; omega), Array.getElem?_append_left (by simp; omega)]
    simp [List.getElem?_take_of_lt hj]
  have hbk : (w.alloc (.cells cur e)).heap[w.heap.size]? = some (.cells cur e (0, 0)) := heap_alloc_new w _
  obtain ⟨cur1, h1, h2, h3⟩ := setCells_on us (i * sz) a cur (by rw [ha.heap]; exact hbk) (by omega)
  obtain ⟨cur2, k1, k2, k3⟩ := setCells_on (xs.drop (i * sz)) ((i + 1) * sz) b cur1 (by rw [hb.heap]; exact h1) (by rw [List.length_drop]; omega)
  refine ⟨row_of k1 hG hGm (by rw [k2, h2]; exact hcs) (by rw [ins_len _ (by omega), hx, hu]; omega) fun j hj => ?_, ?_⟩
  · rw [ins_len _ (by omega), hx] at hj
    rw [k3 j, h3 j, ins_at _ _ (by omega)]
    by_cases c1 : j < i * sz
    · rw [if_neg (by omega), if_neg (by omega), if_pos c1]
      exact hc0 j c1
    · rw [if_neg c1]
      by_cases c2 : j < i * sz + us.length
      · rw [if_neg (by omega), if_pos (by omega), if_pos c2]
      · rw [if_pos (by rw [List.length_drop, hx]; omega), if_neg c2, List.getElem?_drop]
        congr 1; omega
  · have f0 : Fr (fun _ => False) w (w.alloc (.cells cur e)) := ⟨rfl, rfl, rfl, by simp, fun k hk _ => heap_alloc_old w _ k hk⟩
    have f1 : Fr (fun k => k = w.heap.size) a (a.setCells w.heap.size (i * sz) us) := fr_set (Same.refl a)
    have f2 : Fr (fun k => k = w.heap.size) b (b.setCells w.heap.size ((i + 1) * sz) (xs.drop (i * sz))) := fr_set (Same.refl b)
    have g1 := ((f0.same ha).trans f1 (fun k hk h => by omega)).same hb
    exact g1.trans f2 (fun k hk h => by omega)
end
/-- slices.overlaps at two blocks of which the second bears no mark: they do not overlap. -/
theorem run_overlaps_b (w : World) (tS tR e : TypeId) (ht : P.underlying tS = some (.slice e)) (size : Nat) (hz : ∀ w, (Go.sizeOf e).run P w = .ok size w) (a b : Addr) (la ca lb cb : Nat) (hne : a.block ≠ b.block) (tA tB : TypeId) (kA kB : Nat)
    (hsa : w.shape? a.block = some (tA, kA)) (hsb : w.shape? b.block = some (tB, kB)) (hkA : kA ≠ 0) (hfb : ∀ o, w.frozen? { block := b.block, off := o, spot := none } = false) (hb0 : b.spot = none) :
    (Extern.SlicesOverlaps.overlaps #[tS, tS] #[tR] #[.slice (some a) la ca, .slice (some b) lb cb]).run P w = .ok (.bool false) w := by
  have hnb : (a.block != b.block) = true := by simpa using hne
  have hnb' : (a.block == b.block) = false := by simpa using hne
  have hfb0 : w.frozen? b = false := by
    obtain ⟨bb, bo, bs⟩ := b
    cases hb0
    exact hfb bo
  change Sem.run P (α := Value) (do
    let some t := (#[tS, tS] : Array TypeId)[0]? | stuck "slices.overlaps: no parameter types"
    let .slice elem ← underlying t | stuck "slices.overlaps: slice type expected"
    let size ← sizeOf elem
    match (some a : Option Addr), (some b : Option Addr) with
    | some a, some b =>
      if la = 0 ∨ lb = 0 ∨ size = 0 then pure (Value.bool false)
      else if a.block != b.block && (← frozen a) && (← frozen b) then unsupported .addressObserved
      else do
        if a.block != b.block then do
          noView a; noView b
          if ← mayBeOne a b then return Value.bool ((← choose (.extern "sameAddr.stringBytes" 2)) == 1)
        pure (Value.bool (a.block == b.block && a.off < b.off + lb * size && b.off < a.off + la * size))
    | _, _ => pure (Value.bool false)) w = _
  by_cases h0 : la = 0 ∨ lb = 0 ∨ size = 0
  · simp [run_underlying ht, hz, h0]
  · cases kA with
    | zero => exact absurd rfl hkA
    | succ kA =>
      have hfe := hfb kB
      cases hfa : w.frozen? a with
      | true => simp [run_underlying ht, hz, h0, hnb, hnb', frozen, noView, viewAt, mayBeOne, stringish, shape, Sem.run, hsa, hsb, hfa, hfb0, hfe]
      | false =>
        cases hfk : w.frozen? { block := a.block, off := kA + 1, spot := none } with
        | true => simp [run_underlying ht, hz, h0, hnb, hnb', frozen, noView, viewAt, mayBeOne, stringish, shape, Sem.run, hsa, hsb, hfa, hfb0, hfe, hfk]
        | false => simp [run_underlying ht, hz, h0, hnb, hnb', frozen, noView, viewAt, mayBeOne, stringish, shape, Sem.run, hsa, hsb, hfa, hfb0, hfe, hfk]
/-- 'copy' as a step of a walk, where its run is known. -/
theorem wp_copyN (w : World) {o : Oper} {a : Act} {K : Act → World → Prop} {Q : Exit → Act → World → Prop} (d s : Operand) (t t' : TypeId) (ho : o.op = .call { callee := .builtin .copy, args := #[d, s], argTypes := #[t, t'] }) (v u : Value) (hd : a.eval d = v) (hs : a.eval s = u) {v' : Value} {w' : World}
    (hr : (Builtin.copy_ #[t, t'] o.type #[v, u]).run P w = .ok v' w') (h : K (a.put o.dst v') w') : o.wp P a w K Q := by
  unfold Oper.wp execOp
  simp only [ho, resolve, invoke, builtin, Sem.run_bind, Sem.run_pure, Result.andThen_ok, List.map_toArray, List.map_cons, List.map_nil, hd, hs, hr]
  exact h
theorem wpList_copyN (w : World) {ops : Array Oper} {rest : List Oper} {o : Oper} {a : Act} {Q : Exit → Act → World → Prop} (hgd : o.guard = none) (d s : Operand) (t t' : TypeId) (ho : o.op = .call { callee := .builtin .copy, args := #[d, s], argTypes := #[t, t'] }) (v u : Value) (hd : a.eval d = v) (hs : a.eval s = u)
    {v' : Value} {w' : World} (hr : (Builtin.copy_ #[t, t'] o.type #[v, u]).run P w = .ok v' w') (h : wpList P ops Q rest (a.put o.dst v') w') : wpList P ops Q (o :: rest) a w :=
  wpList_plain hgd fun _ hK => wp_copyN w d s t t' ho v u hd hs hr (hK _ _ h)
theorem step_copyN {ops : Array Oper} {o : Oper} {a : Act} {w : World} {K : Act → World → Prop} {Q : Exit → Act → World → Prop} {E : Prop} (hg : o.guard = none) (d x : Operand) (dT sT : TypeId) (hop : o.op = Op.call { callee := Callee.builtin Builtin.copy, args := #[d, x], argTypes := #[dT, sT] })
    (v u : Value) (hd : a.eval d = v) (hx : a.eval x = u) {v' : Value} {w' : World} (hr : (Builtin.copy_ #[dT, sT] o.type #[v, u]).run P w = .ok v' w') (hK : K (a.put o.dst v') w') : if Region.wanted o (yielded ops a.tmps) = true then Oper.wp P o a w K Q else E := by
  have hw : Region.wanted o (yielded ops a.tmps) = true := by simp [Region.wanted, hg]
  rw [if_pos hw]
  unfold Oper.wp
  simp [execOp, hop, resolve, invoke, builtin, hd, hx, hr, Result.andThen]
  exact hK
/-- One is taken out: what stands behind it is moved down, the last is made zero. -/
theorem own_del {w : World} {e : TypeId} {sz m g cap i : Nat} {xs zs : List Value} (ho : w.ownsRow 0 e sz (.slice (some ⟨g, 0, none⟩) (m + 1) cap) (m + 1) xs) (hi : i ≤ m) (hz : zs.length = sz) {a b : World} (ha : Same w a) (hb : Same (a.setCells g (i * sz) (xs.drop ((i + 1) * sz))) b) :
    (b.setCells g (m * sz) zs).ownsRow 0 e sz (.slice (some ⟨g, 0, none⟩) m cap) m (xs.take (i * sz) ++ xs.drop ((i + 1) * sz)) ∧ Fr (fun k => k = g) w (b.setCells g (m * sz) zs) := by
  obtain ⟨cur, hbk, hnc, hcm, hcs, hx, hv⟩ := row_at ho
  have e1 : (i + 1) * sz = i * sz + sz := by rw [Nat.add_mul]; omega
  have e2 : (m + 1) * sz = m * sz + sz := by rw [Nat.add_mul]; omega
  have him : i * sz ≤ m * sz := Nat.mul_le_mul_right sz hi
  have hn1 : (m + 1) * sz ≤ cap * sz := Nat.mul_le_mul_right sz hnc
  have hdl : (xs.drop ((i + 1) * sz)).length = m * sz - i * sz := by rw [List.length_drop, hx]; omega
  obtain ⟨cur1, h1, h2, h3⟩ := setCells_on (xs.drop ((i + 1) * sz)) (i * sz) a cur (by rw [ha.heap]; exact hbk) (by rw [hdl]; omega)
  obtain ⟨cur2, k1, k2, k3⟩ := setCells_on zs (m * sz) b cur1 (by rw [hb.heap]; exact h1) (by omega)
  refine ⟨row_of k1 (by omega) hcm (by rw [k2, h2]; exact hcs) (by rw [List.length_append, List.length_take, hdl, hx]; omega) fun j hj => ?_, ?_⟩
  · rw [List.length_append, List.length_take, hdl, hx] at hj
    rw [k3 j, if_neg (by omega), h3 j]
    by_cases c : j < i * sz
    · rw [if_neg (by omega), List.getElem?_append_left (by rw [List.length_take, hx]; omega), List.getElem?_take_of_lt c]
      exact hv j (by omega)
    · rw [if_pos (by omega), List.getElem?_append_right (by rw [List.length_take, hx]; omega)]
      congr 1
      rw [List.length_take, hx]; omega
  · have f1 : Fr (fun k => k = g) w (a.setCells g (i * sz) (xs.drop ((i + 1) * sz))) := fr_set ha
    have f2 := f1.same hb
    have f3 : Fr (fun k => k = g) b (b.setCells g (m * sz) zs) := fr_set (Same.refl b)
    exact f2.trans f3 fun k _ h => h
/-- 'clear' of one element of some cells. -/
theorem run_clearN (w : World) (t e ty : TypeId) (z : Value) (cells : List Value) (ht : P.underlying t = some (.slice e)) (hv : ∀ w, (zeroValue e).run P w = .ok z w) (hz : z.cells = cells.toArray) (h0 : 0 < cells.length) (h1 : ∀ v ∈ cells, v.oneCell' = true) (b o c : Nat)
    (hc : ∀ j, j < cells.length → (w.cell? ⟨b, o + j, none⟩).isSome = true) (hf : ∀ j, j < cells.length → w.frozen? ⟨b, o + j, none⟩ = false) :
    (Builtin.clear_ #[t] ty #[.slice (some ⟨b, o, none⟩) 1 c]).run P w = .ok (.tuple #[]) (w.setCells b o cells) := by
  have hzc : (Builtin.zeroCells z.cells 1).toList = cells := by
    rw [hz]
    simp [Builtin.zeroCells]
    apply List.ext_getElem
    · simp
    · intro i h1 h2
      simp [Nat.mod_eq_of_lt h2, List.getElem?_eq_getElem h2]
  have hst := run_storeCells_cells (P := P) b o cells 0 w (by simpa using hc) (by simpa using hf) h1
  simp only [Nat.add_zero] at hst
  simp [Builtin.clear_, run_underlying ht, hv, hzc, hst]
theorem flat_take {sz : Nat} : ∀ (ls : List (List Value)) (i : Nat), (∀ l ∈ ls, l.length = sz) → ls.flatten.take (i * sz) = (ls.take i).flatten
  | [], i, _ => by simp
  | l :: ls, 0, _ => by simp
  | l :: ls, i + 1, h => by
    have hl := h l (by simp)
    have ih := flat_take ls i (fun x hx => h x (by simp [hx]))
    rw [List.flatten_cons, List.take_succ_cons, List.flatten_cons, ← ih, show (i + 1) * sz = l.length + i * sz by rw [hl, Nat.add_mul]; omega, List.take_length_add_append]
theorem flat_drop {sz : Nat} : ∀ (ls : List (List Value)) (i : Nat), (∀ l ∈ ls, l.length = sz) → ls.flatten.drop (i * sz) = (ls.drop i).flatten
  | [], i, _ => by simp
  | l :: ls, 0, _ => by simp
  | l :: ls, i + 1, h => by
    have hl := h l (by simp)
    have ih := flat_drop ls i (fun x hx => h x (by simp [hx]))
    rw [List.flatten_cons, List.drop_succ_cons, ← ih, show (i + 1) * sz = l.length + i * sz by rw [hl, Nat.add_mul]; omega, List.drop_length_add_append]
theorem Fr.mono {X Y : Nat → Prop} {w w' : World} (h : Fr X w w') (hs : ∀ k, X k → Y k) : Fr Y w w' := ⟨h.os, h.tape, h.output, h.size, fun k hk hn => h.block k hk fun hx => hn (hs k hx)⟩
end Go.Abs

/- A text's bytes in a block of their own: made by a conversion, read, written, turned back into a text. -/
namespace Go.Abs
open Go
set_option linter.unusedSimpArgs false
set_option linter.unusedVariables false
variable {Z : TypeId → Nat} {P : Program}
section
variable {E : Ent} {st : St} {a : Act} {w : World} {S : Nat → Prop} {vals : Nat → Nat → Value} {fps : Nat → Nat → Nat → Prop} {cb : Nat → Nat}
/-- Operations that leave the world: it is the very same. -/
def same (op : Op) : Bool :=
  match op with
  | .move _ | .assign _ | .load _ _ | .fieldAddr _ _ _ | .indexAddr _ _ _ => true
  | _ => false
theorem evalSame {nid : Nat} (hZ0 : ZOk P Z) (h : Inv Z E st a w S vals fps cb) (o : Oper) (hs : same o.op = true) {av : AV} {st' : St} (hb : evalOp P st nid o.op = some (av, st')) :
    st' = st ∧ ∃ v, (execOp a.eval o).run P w = .ok (.value v) w ∧ RA Z w S st.rt vals (adr st.bx cb) av v := by
  obtain ⟨dst, op, type, pos, after, guard⟩ := o
  have hev := h.eval
  have omap : ∀ {q : Option AV}, (q.map fun r => (r, st)) = some (av, st') → ∃ r, q = some r ∧ (av, st') = (r, st) := by
    intro q hq
    simp only [Option.map_eq_some_iff] at hq
    obtain ⟨r, h1, h2⟩ := hq
    exact ⟨r, h1, h2.symm⟩
  cases op with
  | move x => cases hb; exact ⟨rfl, _, by simp [execOp], hev x⟩
  | assign x => cases hb; exact ⟨rfl, _, by simp [execOp], hev x⟩
  | load t x =>
    simp only [evalOp] at hb
    split at hb
    · rename_i ag n ht
      obtain ⟨r, h1, h2⟩ := omap hb
      obtain ⟨u, h3, h4⟩ := load_ok (P := P) h ht (hev x) h1
      cases h2
      exact ⟨rfl, u, by simp [execOp, h3], h4⟩
    · cases hb
  | fieldAddr t x f =>
    obtain ⟨r, h1, h2⟩ := omap hb
    obtain ⟨u, h3, h4⟩ := fieldAddrA_ok (P := P) h (hev x) h1
    cases h2
    exact ⟨rfl, u, by simp [execOp, h3], h4⟩
  | indexAddr t x i =>
    simp only [evalOp] at hb
    split at hb
    · rename_i hel
      obtain ⟨r, h1, h2⟩ := omap hb
      obtain ⟨u, h3, h4⟩ := indexAddrA_ok (P := P) hZ0 h (elOk_spec hel) (hev x) (hev i) h1
      cases h2
      exact ⟨rfl, u, by simp [execOp, h3], h4⟩
    · cases hb
  | _ => simp [same] at hs
theorem eval_put {d : Nat} {v : Value} (hd : d < a.tmps.size) (t : Nat) : (a.put (some d) v).tmps.getD t undef = if t = d then v else a.tmps.getD t undef := by
  simp only [Act.put, Array.getD_eq_getD_getElem?, Array.getElem?_setIfInBounds]
  by_cases h : d = t
  · subst h; simp [hd]
  · rw [if_neg h, if_neg (fun e => h e.symm)]
end
/-- A frame that holds, and a block of bytes that nothing else knows. -/
def HB (Z : TypeId → Nat) (E : Ent) (eB : TypeId) (st : St) (a : Act) (w : World) (blk cap : Nat) (bs : List Int) : Prop :=
  ∃ S vals fps cb cur, Inv Z E st a w S vals fps cb ∧ w.heap[blk]? = some (.cells cur eB (cur.size, cur.size + 1)) ∧ cur.size = cap ∧ bs.length ≤ cap ∧ cap ≤ maxLen ∧ (∀ (j : Nat) b, bs[j]? = some b → cur[j]? = some (.int .u8 b)) ∧
    E.w0.heap.size ≤ blk ∧ ¬ S blk ∧ (∀ r c, ¬ fps r c blk) ∧ ∀ r, st.bx.getD r false = true → cb r ≠ blk
section
variable {E : Ent} {eB : TypeId} {st : St} {a : Act} {w : World} {blk cap : Nat} {bs : List Int}
theorem HB.holds (h : HB Z E eB st a w blk cap bs) : Holds Z E st a w := by
  obtain ⟨S, vals, fps, cb, cur, hI, _⟩ := h
  exact ⟨S, vals, fps, cb, hI⟩
theorem HB.size (h : HB Z E eB st a w blk cap bs) : a.tmps.size = st.nt := by
  obtain ⟨S, vals, fps, cb, cur, hI, _⟩ := h
  exact hI.nt
theorem HB.defers (h : HB Z E eB st a w blk cap bs) : a.defers = [] := by
  obtain ⟨S, vals, fps, cb, cur, hI, _⟩ := h
  exact hI.dfr
theorem HB.cell (h : HB Z E eB st a w blk cap bs) {j : Nat} {b : Int} (hj : bs[j]? = some b) : w.cell? ⟨blk, j, none⟩ = some (.int .u8 b) := by
  obtain ⟨S, vals, fps, cb, cur, hI, h1, _, _, _, h5, _⟩ := h
  rw [cell_of_row w blk j cur _ _ h1]
  exact h5 j b hj
theorem HB.frozen (h : HB Z E eB st a w blk cap bs) {j : Nat} (hj : j < bs.length) : w.frozen? ⟨blk, j, none⟩ = false := by
  obtain ⟨S, vals, fps, cb, cur, hI, h1, h2, h3, _⟩ := h
  unfold World.frozen?
  rw [h1]
  simp
  omega
theorem HB.lens (h : HB Z E eB st a w blk cap bs) : bs.length ≤ cap ∧ cap ≤ maxLen := by
  obtain ⟨S, vals, fps, cb, cur, hI, h1, h2, h3, h4, _⟩ := h
  exact ⟨h3, h4⟩
theorem HB.putDead (h : HB Z E eB st a w blk cap bs) {d : Nat} (hd : d < st.nt) (v : Value) : HB Z E eB (st.put (some d) .dead) (a.put (some d) v) w blk cap bs := by
  obtain ⟨S, vals, fps, cb, cur, hI, h1, h2, h3, h4, h5, h6, h7, h8, h9⟩ := h
  exact ⟨S, vals, fps, cb, cur, hI.put (by simpa [St.can] using hd) .dead, h1, h2, h3, h4, h5, h6, h7, h8, h9⟩
theorem HB.putSc (h : HB Z E eB st a w blk cap bs) {d : Nat} (hd : d < st.nt) {v : Value} (hv : isSc v = true) : HB Z E eB (st.put (some d) (.c (.sc v))) (a.put (some d) v) w blk cap bs := by
  obtain ⟨S, vals, fps, cb, cur, hI, h1, h2, h3, h4, h5, h6, h7, h8, h9⟩ := h
  exact ⟨S, vals, fps, cb, cur, hI.put (by simpa [St.can] using hd) (.c (.sc hv)), h1, h2, h3, h4, h5, h6, h7, h8, h9⟩
/-- Draws alone. -/
theorem HB.drawn (h : HB Z E eB st a w blk cap bs) {w' : World} (hs : Same w w') : HB Z E eB st a w' blk cap bs := by
  obtain ⟨S, vals, fps, cb, cur, hI, h1, h2, h3, h4, h5, h6, h7, h8, h9⟩ := h
  exact ⟨S, vals, fps, cb, cur, hI.grow ⟨hs.os, hs.tape, hs.output, by rw [hs.heap]; exact Nat.le_refl _, fun k _ _ => by rw [hs.heap]⟩, by rw [hs.heap]; exact h1, h2, h3, h4, h5, h6, h7, h8, h9⟩
/-- A byte is written. -/
theorem HB.store (h : HB Z E eB st a w blk cap bs) {j : Nat} (hj : j < bs.length) (b : Int) : HB Z E eB st a (w.setCell ⟨blk, j, none⟩ (.int .u8 b)) blk cap (bs.set j b) := by
  obtain ⟨S, vals, fps, cb, cur, hI, h1, h2, h3, h4, h5, h6, h7, h8, h9⟩ := h
  have hw : (w.setCell ⟨blk, j, none⟩ (.int .u8 b)).heap[blk]? = some (.cells (cur.setIfInBounds j (.int .u8 b)) eB (cur.size, cur.size + 1)) := by
    simp only [World.setCell, Array.getElem?_modify, if_true, h1, Option.map_some]
    rfl
  have hfr : Fr (fun k => k = blk) w (w.setCell ⟨blk, j, none⟩ (.int .u8 b)) := ⟨rfl, rfl, rfl, by simp [World.setCell], fun k _ hk => by
    simp only [World.setCell, Array.getElem?_modify]
    rw [if_neg (fun e => hk e.symm)]⟩
  refine ⟨S, vals, fps, cb, cur.setIfInBounds j (.int .u8 b), hI.world (X := fun k => k = blk) hfr ⟨fun k hk r c => by rw [hk]; exact h8 r c, fun k hk r hb => by rw [hk]; exact h9 r hb, fun k hk => .inr (by rw [hk]; exact h6)⟩ (fun k hk => by rw [hk]; exact h7),
    by rw [hw]; simp, by simpa using h2, by simpa using h3, h4, fun i x hx => ?_, h6, h7, h8, h9⟩
  rw [List.getElem?_set] at hx
  rw [Array.getElem?_setIfInBounds]
  split at hx
  · rename_i e
    cases hx
    subst e
    rw [if_pos rfl, if_pos (by omega)]
  · rename_i e
    rw [if_neg e]
    exact h5 i x hx
/-- An operation that leaves the world. -/
theorem HB.step (hZ0 : ZOk P Z) (h : HB Z E eB st a w blk cap bs) (o : Oper) (hs : same o.op = true) {nid : Nat} {av : AV} (hb : evalOp P st nid o.op = some (av, st)) (hd : st.can o.dst = true) :
    ∃ v, (execOp a.eval o).run P w = .ok (.value v) w ∧ HB Z E eB (st.put o.dst av) (a.put o.dst v) w blk cap bs := by
  obtain ⟨S, vals, fps, cb, cur, hI, h1, h2, h3, h4, h5, h6, h7, h8, h9⟩ := h
  obtain ⟨_, v, hv, hr⟩ := evalSame hZ0 hI o hs hb
  have e : (st.put o.dst av).bx = st.bx := by cases o.dst <;> rfl
  exact ⟨v, hv, S, vals, fps, cb, cur, hI.put hd hr, h1, h2, h3, h4, h5, h6, h7, h8, by rw [e]; exact h9⟩
end
section
variable {E : Ent} {st : St} {a : Act} {w : World} {ops : Array Oper} {rest : List Oper} {o : Oper} {Q : Exit → Act → World → Prop}
/-- The conversion to bytes. -/
theorem wp_toBytes {tS tB eB : TypeId} {x : Operand} {t : ByteArray} {d : Nat} (hg : o.guard = none) (hdst : o.dst = some d) (ho : o.op = .convert tS tB x) (hs : P.underlying tS = some .string) (hd : P.underlying tB = some (.slice eB)) (he : P.underlying eB = some (.int .u8)) (hh : Holds Z E st a w) (hx : evA st x = .c (.sc (.string t))) (hc : d < st.nt)
    (hK : ∀ blk cap a' w', HB Z E eB (st.put (some d) .dead) a' w' blk cap (t.data.toList.map fun b => (b.toNat : Int)) → a'.tmps.getD d undef = .slice (some ⟨blk, 0, none⟩) t.size cap → wpList P ops Q rest a' w') : wpList P ops Q (o :: rest) a w := by
  refine wpList_plain hg fun K hK' => ?_
  obtain ⟨S, vals, fps, cb, hI⟩ := hh
  have hv := hI.eval x
  rw [hx] at hv
  obtain ⟨hv, hsc⟩ := sc_inv hv
  have htl : t.size ≤ maxLen := by simpa [isSc] using hsc
  have hrun := Lib.run_convert_string_bytes (P := P) w tS tB eB t hs hd he
  unfold Oper.wp execOp
  simp only [ho, hv, Sem.run_bind, hrun, Result.andThen_ok, Sem.run_pure, Oper.upon]
  refine hK' _ _ (hK w.heap.size (grownCap w t.size 0 eB) _ _ ?_ ?_)
  · have hfr : Fr (fun _ => False) w (Lib.bytesWorld w eB t) := ⟨rfl, rfl, rfl, by rw [Lib.bytesWorld_size]; omega, fun k hk _ => Lib.bytesWorld_at_old w eB t k hk⟩
    have hcs : (Lib.bytesCells w eB t).size = grownCap w t.size 0 eB := by
      have := grownCap_ge w t.size 0 eB
      have e : t.data.size = t.size := rfl
      simp only [Lib.bytesCells, Array.size_append, Array.size_map, Array.size_replicate, e]; omega
    have hlen : (t.data.toList.map fun b => (b.toNat : Int)).length = t.size := by
      have e : t.data.size = t.size := rfl
      simp [e]
    refine ⟨S, vals, fps, cb, Lib.bytesCells w eB t, ?_, Lib.bytesWorld_at_new w eB t, hcs, by rw [hlen]; exact grownCap_ge w _ _ _, grownCap_le_maxLen w _ _ _ htl, fun j b hb => ?_, hI.fr.size, fun hS => ?_, fun r c hf => ?_, fun r hb e => ?_⟩
    · rw [hdst]
      exact (hI.grow hfr).put (by simpa [St.can] using hc) .dead
    · rw [List.getElem?_map] at hb
      cases hx : t.data.toList[j]? with
      | none => rw [hx] at hb; cases hb
      | some x =>
        rw [hx] at hb
        cases hb
        have hj : j < t.data.size := by simpa using (List.getElem?_eq_some_iff.1 hx).1
        rw [Array.getElem?_toList] at hx
        unfold Lib.bytesCells
        rw [Array.getElem?_append_left (by simpa using hj), Array.getElem?_map, hx]
        rfl
    · have := hI.slt _ hS; omega
    · have := hI.rr.lt hf; omega
    · have := hI.box_lt hb; omega
  · rw [hdst, eval_put (by rw [hI.nt]; exact hc)]
    simp
/-- The conversion back. -/
theorem run_ofBytes {eB : TypeId} {blk cap c : Nat} {bs : List Int} {tB tS : TypeId} (h : HB Z E eB st a w blk cap bs) (hB : P.underlying tB = some (.slice eB)) (he : P.underlying eB = some (.int .u8)) (hS : P.underlying tS = some .string) :
    (convert tB tS (.slice (some ⟨blk, 0, none⟩) bs.length c)).run P w = .ok (.string (bytesText bs)) w := by
  rw [run_convert_bytes_string w tB tS eB (some ⟨blk, 0, none⟩) _ c hB he hS]
  refine run_bytesToString w ⟨blk, 0, none⟩ _ c bs ?_
  have := run_loadCells_list (P := P) w ⟨blk, 0, none⟩ (bs.map (Value.int .u8)) (fun j v hj => by
    rw [Addr.add_lit, Nat.zero_add]
    rw [List.getElem?_map] at hj
    cases hb : bs[j]? with
    | none => rw [hb] at hj; cases hj
    | some b => rw [hb] at hj; cases hj; exact h.cell hb)
  simpa using this
theorem HB.text {eB : TypeId} {blk cap : Nat} {bs : List Int} (h : HB Z E eB st a w blk cap bs) : isSc (.string (bytesText bs)) = true := by
  have := h.lens
  simp only [isSc, decide_eq_true_eq, bytesText_size]; omega
end
end Go.Abs

/- Code over a frame and a block of bytes. -/
namespace Go.Abs
open Go
set_option linter.unusedSimpArgs false
set_option linter.unusedVariables false
variable {Z : TypeId → Nat} {P : Program} {G : World → Prop} {B0 nl : Nat} {Q : Exit → St → Prop} {st : St}
theorem Does.bodyW {f : FuncId} {args : List AV} {rts : Rows} {bxs : List Bool} {Post : AV → Rows → Prop} {fn : Func} {c : Code} (hf : P.funcs[f]? = some fn) (hb : fn.body = some c) (hc : (fn.name == "runtime.NumGoroutine") = false) (hn : args.length ≤ fn.ntmps)
    (h : (∀ x ∈ args, factA x) → W Z P G B0 rts.length c (exitQ P fn rts.length Post) ⟨fn.ntmps, zipSl 0 args, rts, bxs⟩) : Does Z P G B0 f args rts bxs Post := by
  refine ⟨by unfold callable; rw [hf]; simp only [hb, Option.isSome_some, Bool.true_and, bne, hc, Bool.not_false], ?_⟩
  intro w S vals fps cb vs hK hG hB hL hI hA
  have hfact : ∀ x ∈ args, factA x := by
    intro x hx
    obtain ⟨i, hi, rfl⟩ := List.getElem_of_mem hx
    have hl := hA.1
    exact (hA.2 i _ _ (List.getElem?_eq_getElem hi) (List.getElem?_eq_getElem (by omega))).fact
  exact (Does.intro hf hb (by unfold callable; rw [hf]; simp only [hb, Option.isSome_some, Bool.true_and, bne, hc, Bool.not_false]) hn (h hfact)).2 w S vals fps cb vs hK hG hB hL hI hA
theorem W_cut (hZ : ZOk P Z) {x y y' : Code} {N : St → Prop} (hy : ∀ s, wpA Z P G B0 nl y (thenQ N Q) s → W Z P G B0 nl y' Q s) (h : wpA Z P G B0 nl (.seq x y) (thenQ N Q) st) : W Z P G B0 nl (.seq x y') Q st := by
  have h1 : wpA Z P G B0 nl x (thenQ (wpA Z P G B0 nl y (thenQ N Q)) (thenQ N Q)) st := h
  refine W_seq (W_mono (wpA_ok hZ x _ st h1) fun ex s hq => ?_)
  cases ex with
  | normal => exact hy s hq
  | _ => exact hq
theorem W_last (hZ : ZOk P Z) {x rest : Code} (h : wpA Z P G B0 nl x (thenQ (W Z P G B0 nl rest Q) Q) st) : W Z P G B0 nl (.seq x rest) Q st := W_seq (wpA_ok hZ x _ st h)
theorem W_cut4 (hZ : ZOk P Z) {x0 x1 x2 x3 rest : Code} (h : wpA Z P G B0 nl (.seq x0 (.seq x1 (.seq x2 x3))) (thenQ (W Z P G B0 nl rest Q) Q) st) : W Z P G B0 nl (.seq x0 (.seq x1 (.seq x2 (.seq x3 rest)))) Q st :=
  W_cut hZ (fun s hs => W_cut hZ (fun s hs => W_cut hZ (fun s hs => W_last hZ hs) hs) hs) h
/-- The code behind, with the bytes at hand in slot tb. -/
def WB (Z : TypeId → Nat) (P : Program) (G : World → Prop) (B0 nl : Nat) (eB : TypeId) (c : Code) (Q : Exit → St → Prop) (st : St) (tb : Nat) (bs : List Int) : Prop :=
  ∀ (E : Ent) (a : Act) (w : World) (blk cap : Nat), EOk G B0 E → E.nl = nl → HB Z E eB st a w blk cap bs → a.tmps.getD tb undef = .slice (some ⟨blk, 0, none⟩) bs.length cap → c.wp P (fun ex a' w' => ∃ st', Holds Z E st' a' w' ∧ Q ex st') a w
section
variable {E : Ent} {a : Act} {w : World} {ops : Array Oper} {N : Exit → Act → World → Prop}
theorem regA_then (hZ : ZOk P Z) (hE : EOk G B0 E) {dsts : List (Option Nat)} {K : St → Prop} {l2 : List Oper} (hK : ∀ s a w, K s → Holds Z E s a w → wpList P ops N l2 a w) : ∀ (l : List Oper) (st : St) (a : Act) (w : World), (∀ o ∈ l, o.guard = none) → Holds Z E st a w → regA Z P G B0 dsts K l st → wpList P ops N (l ++ l2) a w
  | [], st, a, w, _, hh, h => hK st a w h hh
  | o :: l, st, a, w, hg, hh, h => by
    have h0 : o.guard = none := hg o (by simp)
    simp only [regA, gateA, h0] at h
    exact wpList_plain h0 fun K' hK' => stepA_ok hZ hE hh h fun s a' w' hk hh' => hK' _ _ (regA_then hZ hE hK l s a' w' (fun o ho => hg o (by simp [ho])) hh' hk)
/-- Operations that leave the world, one behind the other. -/
def regS (P : Program) (tb : Nat) (K : St → Prop) : List Oper → St → Prop
  | [], st => K st
  | o :: r, st => o.guard = none ∧ same o.op = true ∧ o.dst ≠ some tb ∧ st.can o.dst = true ∧ match evalOp P st st.rt.length o.op with
    | some x => regS P tb K r (st.put o.dst x.1)
    | none => False
theorem regS_ok (hZ : ZOk P Z) {eB tb : Nat} {blk cap : Nat} {bs : List Int} {v : Value} {K : St → Prop} {l2 : List Oper} (hK : ∀ s a, K s → HB Z E eB s a w blk cap bs → a.tmps.getD tb undef = v → wpList P ops N l2 a w) : ∀ (l : List Oper) (st : St) (a : Act), HB Z E eB st a w blk cap bs → a.tmps.getD tb undef = v → regS P tb K l st → wpList P ops N (l ++ l2) a w
  | [], st, a, hh, hv, h => hK st a h hh hv
  | o :: l, st, a, hh, hv, h => by
    obtain ⟨hg, hs, hne, hc, h⟩ := h
    split at h
    · rename_i x hx
      obtain ⟨av, st'⟩ := x
      obtain ⟨S, vals, fps, cb, cur, hI, _⟩ := id hh
      obtain ⟨rfl, _⟩ := evalSame hZ hI o hs hx
      obtain ⟨u, hu, hb⟩ := hh.step hZ o hs hx hc
      refine wpList_plain hg fun K' hK' => ?_
      simp only [Oper.wp, hu, Oper.upon]
      refine hK' _ _ (regS_ok hZ hK l _ _ hb ?_ h)
      cases hd : o.dst with
      | none => exact hv
      | some d =>
        have hdn : d < a.tmps.size := by rw [hh.size]; simpa [St.can, hd] using hc
        rw [eval_put hdn, if_neg (fun e => hne (by rw [hd, e]))]
        exact hv
    · exact h.elim
end
/-- A region whose end makes a text's bytes. -/
theorem W_bytes (hZ : ZOk P Z) {id : Nat} {ops : Array Oper} {rest : Code} (n : Nat) {o1 o2 : Oper} {tS tB eB : TypeId} {x : Operand} {d tb : Nat} (he : ops.toList = ops.toList.take n ++ [o1, o2]) (hgs : ∀ o ∈ ops.toList.take n, o.guard = none) (hg1 : o1.guard = none) (hd1 : o1.dst = some d) (ho1 : o1.op = .convert tS tB x) (hg2 : o2.guard = none) (hd2 : o2.dst = some tb) (ho2 : o2.op = .assign (.tmp d))
    (hS : P.underlying tS = some .string) (hB : P.underlying tB = some (.slice eB)) (hu : P.underlying eB = some (.int .u8))
    (h : regA Z P G B0 (ops.toList.map (·.dst)) (fun s => ∃ t : ByteArray, evA s x = .c (.sc (.string t)) ∧ d < s.nt ∧ tb < s.nt ∧ WB Z P G B0 nl eB rest Q ((s.put (some d) .dead).put (some tb) .dead) tb (t.data.toList.map fun b => (b.toNat : Int))) (ops.toList.take n) st) : W Z P G B0 nl (.seq (.region id ops false) rest) Q st := by
  intro E a w hE hnl hh
  refine wp_seq (wp_region_list ?_)
  rw [he]
  refine regA_then hZ hE (fun s a w ⟨t, h1, h2, h3, h4⟩ hh' => ?_) _ st a w hgs hh h
  refine wp_toBytes hg1 hd1 ho1 hS hB hu hh' h1 h2 fun blk cap a' w' hb hv => ?_
  refine wpList_plain hg2 fun K' hK' => ?_
  have hev : a'.eval (.tmp d) = a'.tmps.getD d undef := rfl
  unfold Oper.wp execOp
  simp only [ho2, hev, hv, Sem.run_pure, Oper.upon]
  have hlen : (t.data.toList.map fun b => (b.toNat : Int)).length = t.size := by
    have e : t.data.size = t.size := rfl
    simp [e]
  have htb : tb < a'.tmps.size := by rw [hb.size]; exact h3
  refine hK' _ _ (h4 E _ w' blk cap hE hnl (by rw [hd2]; exact hb.putDead h3 _) ?_)
  rw [hd2, eval_put htb, if_pos rfl, hlen]
theorem WB_mid {c rest : Code} {eB tb : Nat} {bs bs' : List Int} {st' : St} (h6 : ∀ (E : Ent) (a : Act) (w : World) (blk cap : Nat), HB Z E eB st a w blk cap bs → a.tmps.getD tb undef = .slice (some ⟨blk, 0, none⟩) bs.length cap → c.wp P (fun ex a' w' => ex = .normal ∧ HB Z E eB st' a' w' blk cap bs' ∧ a'.tmps.getD tb undef = .slice (some ⟨blk, 0, none⟩) bs'.length cap) a w)
    (h : WB Z P G B0 nl eB rest Q st' tb bs') : WB Z P G B0 nl eB (.seq c rest) Q st tb bs := by
  intro E a w blk cap hE hnl hb hv
  refine wp_seq (wp_mono (h6 E a w blk cap hb hv) fun ex a' w' ⟨h1, h2, h3⟩ => ?_)
  subst h1
  exact h E a' w' blk cap hE hnl h2 h3
/-- A region that turns the bytes back into a text. -/
theorem WB_text (hZ : ZOk P Z) {id : Nat} {ops : Array Oper} {rest : Code} (n : Nat) {o1 o2 : Oper} {post : List Oper} {tS tB eB : TypeId} {d m tb : Nat} {bs : List Int} (he : ops.toList = ops.toList.take n ++ o1 :: o2 :: post) (hgp : ∀ o ∈ post, o.guard = none) (hg1 : o1.guard = none) (hd1 : o1.dst = some m) (ho1 : o1.op = .move (.tmp tb)) (hg2 : o2.guard = none) (hd2 : o2.dst = some d) (ho2 : o2.op = .convert tB tS (.tmp m))
    (hS : P.underlying tS = some .string) (hB : P.underlying tB = some (.slice eB)) (hu : P.underlying eB = some (.int .u8))
    (h : regS P tb (fun s => m < s.nt ∧ d < s.nt ∧ regA Z P G B0 (ops.toList.map (·.dst)) (W Z P G B0 nl rest Q) post ((s.put (some m) .dead).put (some d) (.c (.sc (.string (bytesText bs)))))) (ops.toList.take n) st) : WB Z P G B0 nl eB (.seq (.region id ops false) rest) Q st tb bs := by
  intro E a w blk cap hE hnl hb hv
  refine wp_seq (wp_region_list ?_)
  rw [he]
  refine regS_ok hZ (tb := tb) (fun s a ⟨h1, h2, h3⟩ hb hv => ?_) _ st a hb hv h
  have hm : m < a.tmps.size := by rw [hb.size]; exact h1
  refine wpList_plain hg1 fun K' hK' => ?_
  have hev : a.eval (.tmp tb) = a.tmps.getD tb undef := rfl
  unfold Oper.wp execOp
  simp only [ho1, hev, hv, Sem.run_pure, Oper.upon]
  refine hK' _ _ ?_
  clear hK'
  have hb2 := hb.putDead h1 (.slice (some ⟨blk, 0, none⟩) bs.length cap)
  rw [hd1]
  have hv2 : (a.put (some m) (.slice (some ⟨blk, 0, none⟩) bs.length cap)).tmps.getD m undef = .slice (some ⟨blk, 0, none⟩) bs.length cap := by rw [eval_put hm, if_pos rfl]
  refine wpList_plain hg2 fun K' hK' => ?_
  have hev2 : (a.put (some m) (.slice (some ⟨blk, 0, none⟩) bs.length cap)).eval (.tmp m) = .slice (some ⟨blk, 0, none⟩) bs.length cap := hv2
  have hrun := run_ofBytes (c := cap) hb2 hB hu hS
  unfold Oper.wp execOp
  simp only [ho2, hev2, Sem.run_bind, hrun, Result.andThen_ok, Sem.run_pure, Oper.upon]
  refine hK' _ _ ?_
  rw [hd2]
  have hb3 := hb2.putSc (d := d) (by simpa [St.put] using h2) hb.text
  have hfin := regA_then (ops := ops) (N := Exit.then (Code.wp P rest (fun ex a' w' => ∃ st', Holds Z E st' a' w' ∧ Q ex st')) (fun ex a' w' => ∃ st', Holds Z E st' a' w' ∧ Q ex st')) (l2 := []) hZ hE (fun s a w hs hh => hs E a w hE hnl hh) post _ _ w hgp hb3.holds h3
  rw [List.append_nil] at hfin
  exact hfin
def St.deads (st : St) (D : List Nat) : St := { st with sl := D.map (fun d => (d, AV.dead)) ++ st.sl }
theorem WB_dead {c rest : Code} {eB tb : Nat} {bs : List Int} (D : List Nat) (bs' : List Int) (h6 : ∀ (E : Ent) (a : Act) (w : World) (blk cap : Nat), HB Z E eB st a w blk cap bs → a.tmps.getD tb undef = .slice (some ⟨blk, 0, none⟩) bs.length cap → c.wp P (fun ex a' w' => ex = .normal ∧ HB Z E eB (st.deads D) a' w' blk cap bs' ∧ a'.tmps.getD tb undef = .slice (some ⟨blk, 0, none⟩) bs'.length cap) a w)
    (h : WB Z P G B0 nl eB rest Q (st.deads D) tb bs') : WB Z P G B0 nl eB (.seq c rest) Q st tb bs := WB_mid h6 h
theorem ex_cons {α : Type} {l : List α} {n : Nat} (h : l.length = n + 1) : ∃ x r, l = x :: r ∧ r.length = n := by
  cases l with
  | nil => simp at h
  | cons x r => exact ⟨x, r, rfl, by simpa using h⟩
theorem HB.slot {E : Ent} {eB : TypeId} {a : Act} {w : World} {blk cap : Nat} {bs : List Int} (h : HB Z E eB st a w blk cap bs) {t : Nat} {v : Value} (hv : getA st.sl t = .c (.sc v)) : a.tmps.getD t undef = v := by
  obtain ⟨S, vals, fps, cb, cur, hI, _⟩ := h
  have := hI.sl t
  rw [hv] at this
  exact (sc_inv this).1
/-- Slots that are told nothing of any more. -/
theorem HB.agree {E : Ent} {eB : TypeId} {a a' : Act} {w : World} {blk cap : Nat} {bs : List Int} {D : List Nat} (h : HB Z E eB st a w blk cap bs) (hs : a'.tmps.size = a.tmps.size) (hd : a'.defers = []) (ha : ∀ t, t ∉ D → a'.tmps.getD t undef = a.tmps.getD t undef) : HB Z E eB (st.deads D) a' w blk cap bs := by
  obtain ⟨S, vals, fps, cb, cur, hI, rest⟩ := h
  refine ⟨S, vals, fps, cb, cur, ⟨hd, by rw [hs]; exact hI.nt, hI.fr, hI.s0, hI.slt, hI.slf, hI.sn, hI.rr, hI.own, hI.box, hI.bxl, hI.bxn, hI.bxS, hI.bxd, fun t => ?_, hI.lnl, hI.lent⟩, rest⟩
  have key : ∀ (D : List Nat), getA (D.map (fun d => (d, AV.dead)) ++ st.sl) t = if t ∈ D then .dead else getA st.sl t := by
    intro D
    induction D with
    | nil => simp
    | cons d D ih =>
      simp only [List.map_cons, List.cons_append, getA, ih, List.mem_cons]
      by_cases c : d = t
      · subst c; simp
      · have c' : t ≠ d := fun e => c e.symm
        rw [if_neg c]
        by_cases c2 : t ∈ D
        · simp [c2]
        · simp [c2, c']
  simp only [St.deads, key]
  split
  · exact .dead
  · rename_i ht
    rw [ha t ht]
    exact hI.sl t
def puts : Act → List (Nat × Value) → Act
  | a, [] => a
  | a, (d, v) :: r => puts (a.put (some d) v) r
theorem puts_spec : ∀ (l : List (Nat × Value)) (a : Act), (puts a l).tmps.size = a.tmps.size ∧ (puts a l).defers = a.defers ∧ ∀ t, t ∉ l.map (·.1) → (puts a l).tmps.getD t undef = a.tmps.getD t undef
  | [], a => ⟨rfl, rfl, fun _ _ => rfl⟩
  | (d, v) :: r, a => by
    obtain ⟨h1, h2, h3⟩ := puts_spec r (a.put (some d) v)
    refine ⟨h1.trans (by simp [Act.put]), h2, fun t ht => ?_⟩
    simp only [List.map_cons, List.mem_cons, not_or] at ht
    rw [puts, h3 t ht.2]
    simp only [Act.put, Array.getD_eq_getD_getElem?, Array.getElem?_setIfInBounds]
    rw [if_neg (fun e => ht.1 e.symm)]
/-- Code that reads the bytes and writes one of them, told of memory alone. -/
theorem WB_write {c rest : Code} {eB tb ta : Nat} {bs : List Int} (k : Int) (j : Nat) (b : Int) (D : List Nat) (htD : tb ∉ D) (hj : j < bs.length) (hta : getA st.sl ta = .c (.sc (.int .i64 k)))
    (h6 : ∀ (a : Act) (w : World) (blk cap : Nat), a.tmps.size = st.nt → a.defers = [] → a.tmps.getD tb undef = .slice (some ⟨blk, 0, none⟩) bs.length cap → a.tmps.getD ta undef = .int .i64 k → (∀ (i : Nat) x, bs[i]? = some x → w.cell? ⟨blk, i, none⟩ = some (.int .u8 x)) → (∀ i, i < bs.length → w.frozen? ⟨blk, i, none⟩ = false) → bs.length ≤ cap → cap ≤ maxLen →
      c.wp P (fun ex a' w' => ex = .normal ∧ ∃ (l : List (Nat × Value)) (w0 : World), l.map (·.1) = D ∧ a' = puts a l ∧ Same w w0 ∧ w' = w0.setCell ⟨blk, j, none⟩ (.int .u8 b)) a w)
    (h : WB Z P G B0 nl eB rest Q (st.deads D) tb (bs.set j b)) : WB Z P G B0 nl eB (.seq c rest) Q st tb bs := by
  refine WB_mid (fun E a w blk cap hb hv => ?_) h
  refine wp_mono (h6 a w blk cap hb.size hb.defers hv (hb.slot hta) (fun i x hx => hb.cell hx) (fun i hi => hb.frozen hi) hb.lens.1 hb.lens.2) ?_
  rintro ex a' w' ⟨h1, l, w0, hl, rfl, hs, rfl⟩
  obtain ⟨p1, p2, p3⟩ := puts_spec l a
  rw [hl] at p3
  refine ⟨h1, ?_, by rw [p3 tb htD, List.length_set]; exact hv⟩
  exact ((hb.agree p1 (p2.trans hb.defers) p3).drawn hs).store hj b
end Go.Abs

/- A drawn region by a schedule: operations that wait for one another in a chain (calls by contracts, stores), and quiet operations that may come anywhere between. -/
namespace Go.Abs
open Go
set_option linter.unusedVariables false
set_option linter.unusedSimpArgs false
variable {Z : TypeId → Nat}
section
variable {P : Program} {G : World → Prop} {B0 nl : Nat} {Q : Exit → St → Prop}
/-- A call by a contract: lent roots, or a snapshot of its arguments. -/
def CallE (Z : TypeId → Nat) (P : Program) (G : World → Prop) (B0 : Nat) (st : St) (f : FuncId) (args : List AV) (K : AV → St → Prop) : Prop :=
  CallC Z P G B0 st f args K ∨ ∃ (args' : List AV) (Post : AV → Prop), snapL st args = some args' ∧ Does Z P G B0 f args' [] [] (fun y _ => Post y) ∧
    ∀ y, Post y → noShrA y = true ∧ K (effR st.rt.length y).1 ((st.ext 1).fill st.rt.length (effR st.rt.length y).2.1 (effR st.rt.length y).2.2)
def stepS (Z : TypeId → Nat) (P : Program) (G : World → Prop) (B0 nid : Nat) (A : St) (o : Oper) (R : St → Prop) : Prop :=
  match o.op with
  | .call { callee := .value fv, args := args, argTypes := _ } => match evA A fv with
    | .fn f first caps => CallE Z P G B0 A f (first ++ args.toList.map (evA A) ++ caps) fun av s => s.can o.dst = true ∧ R (s.put o.dst av)
    | _ => False
  | op => (quiet op || (isM op && !makes op)) = true ∧ A.can o.dst = true ∧ match evalOp P A nid op with
    | some (av, s) => R (s.put o.dst av)
    | none => False
theorem put_getA (s s' : St) (d : Option Nat) (x : AV) (t : Nat) (h : d = some t ∨ getA s.sl t = getA s'.sl t) : getA (s.put d x).sl t = getA (s'.put d x).sl t := by
  cases d with
  | none =>
    rcases h with h | h
    · cases h
    · exact h
  | some d =>
    simp only [St.put, getA]
    split
    · rfl
    · rename_i hne
      rcases h with h | h
      · cases h; exact absurd rfl hne
      · exact h
theorem stepS_ok (hZ : ZOk P Z) {E : Ent} (hE : EOk G B0 E) {nid : Nat} (hnl : E.nl ≤ nid) {o : Oper} {A st1 : St} {R : St → Prop} (hs : stepS Z P G B0 nid A o R) (e1 : st1.rt = A.rt) (e2 : st1.bx = A.bx) (e3 : st1.nt = A.nt)
    (hev : ∀ x ∈ o.op.operands.toList, evA st1 x = evA A x) {a : Act} {w : World} (hh : Holds Z E st1 a w) {N : Act → World → Prop} {N2 : Exit → Act → World → Prop}
    (hN : ∀ s A' a' w', R A' → s.nt = A'.nt → s.rt = A'.rt → s.bx = A'.bx → (∀ t, o.dst = some t ∨ getA st1.sl t = getA A.sl t → getA s.sl t = getA A'.sl t) → Holds Z E s a' w' → N a' w') : o.wp P a w N N2 := by
  have hcan : ∀ {s s' : St}, s.nt = s'.nt → s'.can o.dst = true → s.can o.dst = true := by
    intro s s' h hc
    unfold St.can at hc ⊢
    rw [h]; exact hc
  have opgen : ∀ {av : AV} {s s' : St}, makes o.op = false → evalOp P st1 nid o.op = some (av, s) → R (s'.put o.dst av) → A.can o.dst = true → s.nt = st1.nt → s.nt = s'.nt → s.rt = s'.rt → s.bx = s'.bx → (∀ t, getA st1.sl t = getA A.sl t → getA s.sl t = getA s'.sl t) → o.wp P a w N N2 := by
    intro av s s' hmk hb hR hc h0 h1 h2 h3 h4
    obtain ⟨S, vals, fps, cb, hI⟩ := hh
    obtain ⟨v, w2, S', vals', fps', cb', hrun, hI2, hRA⟩ := evalOp_ok hZ hI o (fun h => by rw [hmk] at h; cases h) hnl hb
    have q := put_rt s o.dst av
    have q' := put_rt s' o.dst av
    have hp := hN (s.put o.dst av) (s'.put o.dst av) (a.put o.dst v) w2 hR (by rw [q.2.2, q'.2.2, h1]) (by rw [q.1, q'.1, h2]) (by rw [q.2.1, q'.2.1, h3]) (fun t ht => put_getA _ _ _ _ _ (ht.imp id (h4 t))) ⟨S', vals', fps', cb', hI2.put (hcan (h0.trans e3) hc) hRA⟩
    rcases hrun with hrun | ⟨hrun, rfl⟩
    · simp only [Oper.wp, hrun, Oper.upon]; exact hp
    · simp only [Oper.wp, hrun, Oper.upon]; exact hp
  have gen : ((quiet o.op || (isM o.op && !makes o.op)) = true ∧ A.can o.dst = true ∧ match evalOp P A nid o.op with
    | some (av, s) => R (s.put o.dst av)
    | none => False) → o.wp P a w N N2 := by
    rintro ⟨g1, g2, g3⟩
    split at g3
    rotate_left
    · exact g3.elim
    rename_i av s hb
    rcases hq : quiet o.op with _ | _
    · rw [hq] at g1
      simp only [Bool.false_or, Bool.and_eq_true, Bool.not_eq_true'] at g1
      obtain ⟨κ, m, f⟩ := evalM_frame g1.1 hb
      have hA : st1 = { A with sl := st1.sl } := by
        rw [← e1, ← e2, ← e3]
      have hb1 := f st1.sl (by rw [← hA]; exact hev)
      rw [← hA] at hb1
      exact opgen g1.2 hb1 g3 g2 (m.1.trans e3.symm) rfl rfl rfl (fun t ht => by
        simp only [mapS]
        rw [m.2.1]
        have h1 : ∀ sl, getA (sl.map fun x : Nat × AV => (x.1, κ x.2)) t = κ (getA sl t) := fun sl => getA_map κ m.2.2 t sl
        rw [h1, mapS, h1, ht])
    · have hq2 := evalQ_ag (H := fun _ => true) (st := A) (st1 := st1) (fun r _ => by rw [e1, e2]; exact ⟨rfl, rfl⟩) hq (fun x hx => ⟨(hev x hx).symm, hin_true _⟩) hb
      obtain ⟨rfl, hb1⟩ := hq2
      refine opgen ?_ hb1 g3 g2 rfl e3 e1 e2 (fun t ht => ht)
      cases ho : o.op <;> rw [ho] at hq <;> first | rfl | (simp [quiet] at hq; done) | skip
      rename_i c
      obtain ⟨cal, args, tys⟩ := c
      cases cal with
      | builtin b => cases b <;> first | rfl | (simp [quiet] at hq; done)
      | _ => first | rfl | (simp [quiet] at hq; done)
  obtain ⟨dst, op, type, pos, after, guard⟩ := o
  dsimp only at hev hN hcan gen opgen
  unfold stepS at hs
  dsimp only at hs
  split at hs
  rotate_left
  · exact gen hs
  rename_i fv args tys
  split at hs
  rotate_left
  · exact hs.elim
  rename_i fi first caps hfv
  have hfv1 : evA st1 fv = .fn fi first caps := by rw [hev fv (by simp [Op.operands, Call.operands])]; exact hfv
  have hargs1 : args.toList.map (evA st1) = args.toList.map (evA A) := List.map_congr_left fun x hx => hev x (by simp [Op.operands, Call.operands]; exact .inr (by simpa using hx))
  let K : St → Prop := fun s => ∃ A', R A' ∧ s.nt = A'.nt ∧ s.rt = A'.rt ∧ s.bx = A'.bx ∧ ∀ t, dst = some t ∨ getA st1.sl t = getA A.sl t → getA s.sl t = getA A'.sl t
  have hstep : stepA Z P G B0 st1 ⟨dst, .call { callee := .value fv, args := args, argTypes := tys }, type, pos, after, guard⟩ K := by
    simp only [stepA, hfv1, hargs1]
    rcases hs with ⟨rs, args', Post, c1, c2, c3, c4, c5, c6⟩ | ⟨args', Post, c1, c2, c3⟩
    · refine CallA.roots rs (args' := args') (Post := Post) (by rw [e1]; exact c1) c2 c3 c4 (by rw [e1, e2]; exact c5) fun y rts' hp hl => ?_
      rw [effR_ok]
      obtain ⟨hc, hR⟩ := c6 y rts' hp hl
      refine ⟨hcan (by simp only [St.fill, St.ext, St.back]; exact e3) hc, _, hR, ?_⟩
      have q0 := put_rt (((st1.back rs rts').ext 1).fill st1.rt.length (effR st1.rt.length y).2.1 (effR st1.rt.length y).2.2) dst (effR st1.rt.length y).1
      have q1 := put_rt (((A.back rs rts').ext 1).fill A.rt.length (effR A.rt.length y).2.1 (effR A.rt.length y).2.2) dst (effR A.rt.length y).1
      have hbk : ∀ x, keepR st1 rs rts' x = keepR A rs rts' x := fun x => by unfold keepR; rw [e1, e2]
      refine ⟨?_, ?_, ?_, fun t ht => ?_⟩
      · rw [q0.2.2, q1.2.2]
        simp only [St.fill, St.ext, St.back]; exact e3
      · rw [q0.1, q1.1]
        simp only [St.fill, St.ext, St.back, e1]
      · rw [q0.2.1, q1.2.1]
        simp only [St.fill, St.ext, St.back, e1, e2]
      · rw [e1]
        refine put_getA _ _ _ _ _ (ht.imp id fun h => ?_)
        have hm1 : ∀ sl, getA (sl.map fun x : Nat × AV => (x.1, keepR st1 rs rts' x.2)) t = keepR A rs rts' (getA sl t) := fun sl => by
          rw [getA_map (keepR st1 rs rts') (by simp [keepR, killR]) t sl, hbk]
        have hm2 : ∀ sl, getA (sl.map fun x : Nat × AV => (x.1, keepR A rs rts' x.2)) t = keepR A rs rts' (getA sl t) := fun sl => getA_map (keepR A rs rts') (by simp [keepR, killR]) t sl
        simp only [St.fill, St.ext, St.back]
        rw [hm1, hm2, h]
    · refine CallA.snap (args' := args') (Post := Post) (by rw [← c1]; exact (snapL_ag (H := fun _ => true) (st := A) (st1 := st1) (fun r _ => by rw [e1, e2]; exact ⟨rfl, rfl⟩) _ (by
        generalize first ++ args.toList.map (evA A) ++ caps = l
        exact (show ∀ l : List AV, hinL (fun _ => true) l = true from fun l => by
          have := hin_true (.agg l)
          simpa [hin] using this) l)).symm) c2 fun y hp => ?_
      obtain ⟨hn, hc, hR⟩ := c3 y hp
      refine ⟨hn, ?_⟩
      rw [effR_ok]
      refine ⟨hcan (by simp only [St.fill, St.ext]; exact e3) hc, _, hR, ?_⟩
      have q0 := put_rt ((st1.ext 1).fill st1.rt.length (effR st1.rt.length y).2.1 (effR st1.rt.length y).2.2) dst (effR st1.rt.length y).1
      have q1 := put_rt ((A.ext 1).fill A.rt.length (effR A.rt.length y).2.1 (effR A.rt.length y).2.2) dst (effR A.rt.length y).1
      refine ⟨?_, ?_, ?_, fun t ht => ?_⟩
      · rw [q0.2.2, q1.2.2]
        simp only [St.fill, St.ext]; exact e3
      · rw [q0.1, q1.1]
        simp only [St.fill, St.ext, e1]
      · rw [q0.2.1, q1.2.1]
        simp only [St.fill, St.ext, e1, e2]
      · rw [e1]
        refine put_getA _ _ _ _ _ (ht.imp id fun h => ?_)
        simp only [St.fill, St.ext]
        exact h
  exact stepA_ok hZ hE hh hstep fun s a' w' ⟨A', h1, h2, h3, h4, h5⟩ hB => hN s A' a' w' h1 h2 h3 h4 h5 hB
/-- A place in a schedule: which operation; does it float; which floating ones are still to be looked at behind it. -/
abbrev Plc := Nat × Bool × List Nat
/-- The walk along a schedule, in a state where every quiet operation is done as soon as it can be. -/
def walkS (Z : TypeId → Nat) (P : Program) (G : World → Prop) (B0 nid : Nat) (K : St → Prop) : List (Nat × Oper) → List (Oper × Plc) → St → Prop
  | us, [], A => (∀ x ∈ us, postU P nid A x.2) ∧ K A
  | us, (o, i, true, _) :: r, A => o.guard = none ∧ quiet o.op = true ∧ A.can o.dst = true ∧ match evalOp P A nid o.op with
    | some (av, _) => walkS Z P G B0 nid K ((i, o) :: us) r (A.put o.dst av)
    | none => False
  | us, (o, i, false, kp) :: r, A => (∀ x ∈ us, postU P nid A x.2) ∧ o.guard = none ∧ stepS Z P G B0 nid A o (walkS Z P G B0 nid K (us.filter fun x => kp.contains x.1) r)
def items (ops : List Oper) (sc : List Plc) : List (Oper × Plc) := sc.filterMap fun x => (ops[x.1]?).map fun o => (o, x)
def chainOk (ops : List Oper) : List Plc → List Nat → Bool
  | [], _ => true
  | (i, true, _) :: r, cs => (cs.all fun c => ((ancs ops).getD i 0).testBit c) && chainOk ops r cs
  | (i, false, _) :: r, cs => (cs.all fun c => ((ancs ops).getD i 0).testBit c) && chainOk ops r (i :: cs)
def keepOk (ops : List Oper) : List Plc → List Nat → Bool
  | [], _ => true
  | (i, true, _) :: r, us => keepOk ops r (i :: us)
  | (i, false, kp) :: r, us => (us.all fun u => kp.contains u || ((ancs ops).getD i 0).testBit u) && keepOk ops r us
def planOkS (ops : List Oper) (sc : List Plc) : Bool :=
  okD ops && (sc.all fun x => decide (x.1 < ops.length)) && ((List.range ops.length).all fun i => sc.any fun x => x.1 == i) && chainOk ops sc [] && keepOk ops sc [] && decide ((sc.map (·.1)).Nodup) &&
  (sc.all fun x => sc.all fun y => !y.2.1 || ((ops[x.1]?).map fun o => (readsOf (ops.map (·.dst)) o).all fun t => !(((ops[y.1]?).bind (·.dst)) == some t) || (((ancs ops).getD x.1 0).testBit y.1 && !(y.1 == x.1))).getD true)
theorem chain_all {ops : List Oper} : ∀ (l : List Plc) (cs : List Nat), chainOk ops l cs = true → ∀ x ∈ l, ∀ c ∈ cs, ((ancs ops).getD x.1 0).testBit c = true
  | [], _, _, x, hx, _, _ => by cases hx
  | (i, true, kp) :: r, cs, h, x, hx, c, hc => by
    simp only [chainOk, Bool.and_eq_true, List.all_eq_true] at h
    rcases List.mem_cons.1 hx with rfl | hx
    · exact h.1 c hc
    · exact chain_all r cs h.2 x hx c hc
  | (i, false, kp) :: r, cs, h, x, hx, c, hc => by
    simp only [chainOk, Bool.and_eq_true, List.all_eq_true] at h
    rcases List.mem_cons.1 hx with rfl | hx
    · exact h.1 c hc
    · exact chain_all r (i :: cs) h.2 x hx c (List.mem_cons_of_mem _ hc)
theorem chain_app {ops : List Oper} : ∀ (p l : List Plc) (cs : List Nat), chainOk ops (p ++ l) cs = true → ∃ cs', chainOk ops l cs' = true
  | [], l, cs, h => ⟨cs, h⟩
  | (i, true, kp) :: p, l, cs, h => by
    simp only [List.cons_append, chainOk, Bool.and_eq_true] at h
    exact chain_app p l cs h.2
  | (i, false, kp) :: p, l, cs, h => by
    simp only [List.cons_append, chainOk, Bool.and_eq_true] at h
    exact chain_app p l _ h.2
theorem chain_head {ops : Array Oper} {p r : List Plc} {c : Nat} {kp : List Nat} (h : chainOk ops.toList (p ++ (c, false, kp) :: r) [] = true) : ∀ x ∈ r, Anc ops x.1 c := by
  obtain ⟨cs, h2⟩ := chain_app _ _ _ h
  simp only [chainOk, Bool.and_eq_true] at h2
  exact fun x hx => ancs_ok (chain_all _ _ h2.2 x hx c (List.mem_cons_self ..))
theorem keep_head {ops : Array Oper} {c : Nat} {kp : List Nat} {r : List Plc} : ∀ (p : List Plc) (us : List Nat), keepOk ops.toList (p ++ (c, false, kp) :: r) us = true → ∀ u, (u ∈ us ∨ ∃ k, (u, true, k) ∈ p) → kp.contains u = true ∨ Anc ops c u
  | [], us, h, u, hu => by
    simp only [List.nil_append, keepOk, Bool.and_eq_true, List.all_eq_true, Bool.or_eq_true] at h
    rcases hu with hu | ⟨k, hu⟩
    · exact (h.1 u hu).imp id ancs_ok
    · cases hu
  | (i, true, k) :: p, us, h, u, hu => by
    simp only [List.cons_append, keepOk] at h
    refine keep_head p (i :: us) h u ?_
    rcases hu with hu | ⟨k2, hu⟩
    · exact .inl (List.mem_cons_of_mem _ hu)
    · rcases List.mem_cons.1 hu with hu | hu
      · cases hu; exact .inl (List.mem_cons_self ..)
      · exact .inr ⟨k2, hu⟩
  | (i, false, k) :: p, us, h, u, hu => by
    simp only [List.cons_append, keepOk, Bool.and_eq_true] at h
    refine keep_head p us h.2 u ?_
    rcases hu with hu | ⟨k2, hu⟩
    · exact .inl hu
    · rcases List.mem_cons.1 hu with hu | hu
      · cases hu
      · exact .inr ⟨k2, hu⟩
structure JS (Z : TypeId → Nat) (P : Program) (G : World → Prop) (B0 nid : Nat) (K : St → Prop) (ops : Array Oper) (sc : List Plc) (listed : Array Bool) (st : St) (pre rest : List Plc) (us : List (Nat × Oper)) (A : St) : Prop where
  app : pre ++ rest = sc
  hp : ∀ x ∈ pre, x.2.1 = false → listed.getD x.1 false = true
  hr : ∀ x ∈ rest, listed.getD x.1 false = false
  hus : ∀ i k o, (i, true, k) ∈ pre → ops[i]? = some o → (i, o) ∈ us ∨ listed.getD i false = true
  walk : walkS Z P G B0 nid K us (items ops.toList rest) A
  nt : st.nt = A.nt
  rt : st.rt = A.rt
  bx : st.bx = A.bx
  near : ∀ t, getA st.sl t = getA A.sl t ∨ ∃ u k, (u, true, k) ∈ pre ∧ listed.getD u false = false ∧ dstAt ops u = some t
theorem items_cons {ops : List Oper} {i : Nat} {b : Bool × List Nat} {r : List Plc} {o : Oper} (h : ops[i]? = some o) : items ops ((i, b) :: r) = (o, i, b) :: items ops r := by
  unfold items
  simp [h]
theorem JS.norm {K : St → Prop} {nid : Nat} {ops : Array Oper} {sc : List Plc} (hin : ∀ x ∈ sc, x.1 < ops.size) {listed : Array Bool} {st : St} : ∀ (rest pre : List Plc) (us : List (Nat × Oper)) (A : St), JS Z P G B0 nid K ops sc listed st pre rest us A →
    ∃ pre' rest' us' A', JS Z P G B0 nid K ops sc listed st pre' rest' us' A' ∧ (rest' = [] ∨ ∃ c kp r, rest' = (c, false, kp) :: r)
  | [], pre, us, A, h => ⟨pre, [], us, A, h, .inl rfl⟩
  | (c, false, kp) :: r, pre, us, A, h => ⟨pre, _, us, A, h, .inr ⟨c, kp, r, rfl⟩⟩
  | (i, true, kp) :: r, pre, us, A, h => by
    have hi : i < ops.size := hin (i, true, kp) (by rw [← h.app]; simp)
    have ho : ops.toList[i]? = some (ops[i]'hi) := by rw [Array.getElem?_toList]; exact Array.getElem?_eq_getElem hi
    have hw := h.walk
    rw [items_cons ho] at hw
    obtain ⟨g1, g2, g3, g4⟩ := hw
    split at g4
    rotate_left
    · exact g4.elim
    rename_i av s hb
    have q := put_rt A (ops[i]'hi).dst av
    refine JS.norm hin r (pre ++ [(i, true, kp)]) _ _ ⟨by rw [← h.app]; simp, fun x hx hf => ?_, fun x hx => h.hr x (List.mem_cons_of_mem _ hx), fun j k o hj hjo => ?_, g4, by rw [h.nt, q.2.2], by rw [h.rt, q.1], by rw [h.bx, q.2.1], fun t => ?_⟩
    · rcases List.mem_append.1 hx with hx | hx
      · exact h.hp x hx hf
      · simp only [List.mem_singleton] at hx
        subst hx; cases hf
    · rcases List.mem_append.1 hj with hj | hj
      · exact (h.hus j k o hj hjo).imp (List.mem_cons_of_mem _) id
      · simp only [List.mem_singleton, Prod.mk.injEq, true_and] at hj
        obtain ⟨rfl, rfl⟩ := hj
        rw [Array.getElem?_eq_getElem hi] at hjo
        cases hjo
        exact .inl (List.mem_cons_self ..)
    · by_cases hd : (ops[i]'hi).dst = some t
      · exact .inr ⟨i, kp, by simp, h.hr (i, true, kp) (List.mem_cons_self ..), by simp [dstAt, Array.getElem?_eq_getElem hi, hd]⟩
      · rcases h.near t with h1 | ⟨u, k, h1, h2, h3⟩
        · left
          rw [h1]
          cases hdd : (ops[i]'hi).dst with
          | none => rfl
          | some d =>
            simp only [St.put, getA]
            rw [if_neg (fun c => hd (by rw [hdd, c]))]
        · exact .inr ⟨u, k, by simp [h1], h2, h3⟩
theorem walk_any (hZ : ZOk P Z) {E : Ent} (hE : EOk G B0 E) {nid : Nat} (hnl : E.nl ≤ nid) {ops : Array Oper} {sc : List Plc} (hok : planOkS ops.toList sc = true) {K : St → Prop} {N : Exit → Act → World → Prop} (hN : ∀ st a w, K st → Holds Z E st a w → N .normal a w) :
    ∀ (fuel : Nat) (listed : Array Bool) (st : St) (pre rest : List Plc) (us : List (Nat × Oper)) (A : St) (a : Act) (w : World), listed.size = ops.size → ((List.range ops.size).filter fun i => !listed.getD i false).length ≤ fuel →
      (∀ j o, ops[j]? = some o → listed.getD j false = true → ∀ e ∈ o.after, Region.binds .any e = true → listed.getD e.on false = true) →
      JS Z P G B0 nid K ops sc listed st pre rest us A → Holds Z E st a w → wpAny P .any ops N fuel listed a w := by
  simp only [planOkS, Bool.and_eq_true, List.all_eq_true, decide_eq_true_eq] at hok
  obtain ⟨⟨⟨⟨⟨⟨hD, hlt⟩, hall⟩, hch⟩, hkp⟩, hnd⟩, hrd⟩ := hok
  have hpre := okD_pre (ops := ops) hD
  have hin : ∀ x ∈ sc, x.1 < ops.size := fun x hx => by simpa using hlt x hx
  have hsc : ∀ i, i < ops.size → ∃ b, (i, b) ∈ sc := fun i hi => by
    have := hall i (by simpa using hi)
    simp only [List.any_eq_true, beq_iff_eq] at this
    obtain ⟨x, hx, rfl⟩ := this
    exact ⟨x.2, hx⟩
  have hread : ∀ {c : Nat} {b : Bool × List Nat} {u : Nat} {k : List Nat} {o : Oper} {t : Nat}, (c, b) ∈ sc → (u, true, k) ∈ sc → ops[c]? = some o → t ∈ readsOf (ops.toList.map (·.dst)) o → dstAt ops u = some t → Anc ops c u ∧ u ≠ c := by
    intro c b u k o t hc hu ho ht hd
    have h1 := hrd _ hc _ hu
    have ho2 : ops.toList[c]? = some o := by rw [Array.getElem?_toList]; exact ho
    simp only [Bool.not_true, Bool.false_or, ho2, Option.map_some, Option.getD_some, List.all_eq_true] at h1
    have h2 := h1 t ht
    have hd2 : ((ops.toList[u]?).bind (·.dst)) = some t := by rw [Array.getElem?_toList]; exact hd
    rw [hd2] at h2
    simp only [beq_self_eq_true, Bool.not_true, Bool.false_or, Bool.and_eq_true, Bool.not_eq_true', beq_eq_false_iff_ne] at h2
    exact ⟨ancs_ok h2.1, h2.2⟩
  have huniq : ∀ {p r : List Plc} {x y : Plc}, p ++ r = sc → x ∈ p → y ∈ r → x.1 ≠ y.1 := by
    intro p r x y h hx hy he
    rw [← h, List.map_append, List.nodup_append] at hnd
    exact hnd.2.2 x.1 (List.mem_map_of_mem hx) y.1 (List.mem_map_of_mem hy) he
  have hfin : ∀ (listed : Array Bool) (st : St) (pre rest : List Plc) (us : List (Nat × Oper)) (A : St) (a : Act) (w : World), (∀ i, i < ops.size → listed.getD i false = true) → JS Z P G B0 nid K ops sc listed st pre rest us A → Holds Z E st a w → N .normal a w := by
    intro listed st pre rest us A a w hl hJ hh
    obtain ⟨pre, rest, us, A, hJ, hre⟩ := hJ.norm hin
    rcases hre with rfl | ⟨c, kp, r, rfl⟩
    · refine hN A a w hJ.walk.2 (Eqv.holds ⟨hJ.nt, hJ.rt, hJ.bx, fun t => ?_⟩ hh)
      rcases hJ.near t with h | ⟨u, k, h1, h2, _⟩
      · exact h
      · rw [hl u (hin (u, true, k) (by rw [← hJ.app]; simp [h1]))] at h2; cases h2
    · have := hJ.hr (c, false, kp) (List.mem_cons_self ..)
      rw [hl c (hin (c, false, kp) (by rw [← hJ.app]; simp))] at this; cases this
  intro fuel
  induction fuel with
  | zero =>
    intro listed st pre rest us A a w hsz hc hcl hJ hh
    have hl : ∀ i, i < ops.size → listed.getD i false = true := fun i hi => by
      have h0 := List.eq_nil_of_length_eq_zero (Nat.le_zero.1 hc)
      rw [List.filter_eq_nil_iff] at h0
      have := h0 i (by simpa using hi)
      simpa using this
    refine ⟨?_, hfin listed st pre rest us A a w hl hJ hh⟩
    cases hrdy : Region.ready .any ops listed with
    | nil => rfl
    | cons i l =>
      obtain ⟨h1, h2, _⟩ := ready_inv hsz (i := i) (by rw [hrdy]; simp)
      rw [hl i h1] at h2; cases h2
  | succ fuel ih =>
    intro listed st pre rest us A a w hsz hc hcl hJ hh
    refine ⟨fun hr => hfin listed st pre rest us A a w (ready_all hpre listed hsz hr) hJ hh, fun i hi => ?_⟩
    obtain ⟨hil, hfi, hpl⟩ := ready_inv hsz hi
    obtain ⟨hla, hea⟩ := ready_anc hsz hcl hi
    obtain ⟨pre, rest, us, A, hJ, hre⟩ := hJ.norm hin
    have hset := listed_set (listed := listed) (i := i) (by omega)
    have hclset : ∀ j o, ops[j]? = some o → (listed.setIfInBounds i true).getD j false = true → ∀ e ∈ o.after, Region.binds .any e = true → (listed.setIfInBounds i true).getD e.on false = true := by
      intro j o' hj hfj ed hed hb
      rw [hset] at hfj ⊢
      simp only [Bool.or_eq_true, beq_iff_eq] at hfj ⊢
      rcases hfj with h | rfl
      · exact .inl (hcl j o' hj h ed hed hb)
      · exact .inl (hpl o' hj ed hed hb)
    have ho : ops[i]? = some (ops[i]'hil) := Array.getElem?_eq_getElem hil
    have hpost : ∀ x ∈ us, postU P nid A x.2 := by
      have hw := hJ.walk
      rcases hre with rfl | ⟨c, kp, r, rfl⟩
      · exact hw.1
      · have hcl2 : c < ops.size := hin (c, false, kp) (by rw [← hJ.app]; simp)
        rw [items_cons (o := ops[c]'hcl2) (by rw [Array.getElem?_toList]; exact Array.getElem?_eq_getElem hcl2)] at hw
        exact hw.1
    have hops : ∀ b, (i, b) ∈ sc → ∀ t ∈ readsOf (ops.toList.map (·.dst)) (ops[i]'hil), getA st.sl t = getA A.sl t := by
      intro b hb t ht
      rcases hJ.near t with h | ⟨u, k, h1, h2, h3⟩
      · exact h
      · obtain ⟨h4, h5⟩ := hread (k := k) hb (by rw [← hJ.app]; simp [h1]) ho ht h3
        rw [hea u h4 h5] at h2; cases h2
    obtain ⟨b, hb⟩ := hsc i hil
    have hb2 := hb
    rw [← hJ.app] at hb2
    rcases List.mem_append.1 hb2 with hip | hir
    · obtain ⟨b, kb⟩ := b
      have hbt : b = true := by
        cases b with
        | true => rfl
        | false => rw [hJ.hp _ hip rfl] at hfi; cases hfi
      subst hbt
      have hiu : (i, ops[i]'hil) ∈ us := by
        rcases hJ.hus i kb _ hip ho with h | h
        · exact h
        · rw [h] at hfi; cases hfi
      obtain ⟨p1, p2, p3, p4⟩ := hpost _ hiu
      dsimp only at p1 p2 p3 p4
      split at p4
      rotate_left
      · exact p4.elim
      rename_i av s2 hev2
      have hq := (evalQ_ag (H := fun _ => true) (st1 := A) (fun r _ => ⟨rfl, rfl⟩) p2 (fun x _ => ⟨rfl, hin_true _⟩) hev2).2
      have hs : StepD Z P G B0 (ops.toList.map (·.dst)) (fun _ => true) nid (ops[i]'hil) A ⟨(ops[i]'hil).dst, av, none⟩ := ⟨rfl, p3, fun x _ => hin_true _, .inr ⟨by rw [p1]; rfl, .quiet p2 hq rfl⟩⟩
      have hgo := stepD_ok (H := fun _ => true) hZ hE hnl hs (st1 := st) (hops _ hb) (fun r _ => by rw [hJ.rt, hJ.bx]; exact ⟨rfl, rfl⟩) hJ.nt (fun n hn2 => by simp [Eff.root] at hn2) hh (K := wpAny P .any ops N fuel (listed.setIfInBounds i true)) (N := N) (fun a' w' hh' => by
        have hr := on_rt ⟨(ops[i]'hil).dst, av, none⟩ st
        refine ih _ _ pre rest us A a' w' (by simpa using hsz) (count_set (by omega) hil hfi hc) hclset ⟨hJ.app, fun x hx hf => by rw [hset, hJ.hp x hx hf]; rfl, fun x hx => ?_, fun j k o hj hjo => (hJ.hus j k o hj hjo).imp id (fun h => by rw [hset, h]; rfl), hJ.walk, hr.2.2.trans hJ.nt, hr.1.trans hJ.rt, hr.2.1.trans hJ.bx, fun t => ?_⟩ hh'
        · rw [hset, hJ.hr x hx]
          simp only [Bool.false_or, beq_eq_false_iff_ne]
          exact fun e => huniq hJ.app hip hx e.symm
        · rw [on_getA]
          by_cases hd2 : (ops[i]'hil).dst = some t
          · rw [if_pos hd2]
            left
            rw [hd2] at p4
            exact p4
          · rw [if_neg hd2]
            rcases hJ.near t with h | ⟨u, k, h1, h2, h3⟩
            · exact .inl h
            · refine .inr ⟨u, k, h1, ?_, h3⟩
              simp only [hset, h2, Bool.false_or, beq_eq_false_iff_ne]
              rintro rfl
              exact hd2 (by simpa [dstAt, ho] using h3))
      unfold wpOp
      simp only [ho]
      split
      · rename_i hw; rw [if_pos hw] at hgo; exact .inl hgo
      · rename_i hw; rw [if_neg hw] at hgo; exact hgo
    · rcases hre with rfl | ⟨c, kp, r, rfl⟩
      · cases hir
      have hc0 := hJ.hr (c, false, kp) (List.mem_cons_self ..)
      rcases List.mem_cons.1 hir with hic | hir
      rotate_left
      · exfalso
        have h1 := chain_head (by rw [← hJ.app] at hch; exact hch) _ hir
        have h2 : c ≠ i := huniq (p := pre ++ [(c, false, kp)]) (r := r) (x := (c, false, kp)) (y := (i, b)) (by rw [← hJ.app]; simp) (by simp) hir
        rw [hea c h1 h2] at hc0; cases hc0
      simp only [Prod.mk.injEq] at hic
      obtain ⟨rfl, rfl⟩ := hic
      have hw := hJ.walk
      rw [items_cons (o := ops[i]'hil) (by rw [Array.getElem?_toList]; exact ho)] at hw
      obtain ⟨_, g1, g2⟩ := hw
      unfold wpOp
      simp only [ho]
      rw [if_pos (by simp [Region.wanted, g1])]
      left
      refine stepS_ok hZ hE hnl g2 hJ.rt hJ.bx hJ.nt (fun x hx => ?_) hh fun s A' a' w' h1 h2 h3 h4 h5 hh' => ?_
      · cases x with
        | tmp t => exact hops _ hb t (by unfold readsOf; rw [List.mem_append]; left; exact List.mem_flatMap.2 ⟨_, hx, by simp [slotOf]⟩)
        | _ => rfl
      · refine ih _ _ (pre ++ [(i, false, kp)]) r _ A' a' w' (by simpa using hsz) (count_set (by omega) hil hfi hc) hclset ⟨by rw [← hJ.app]; simp, fun x hx hf => ?_, fun x hx => ?_, fun j k o hj hjo => ?_, h1, h2, h3, h4, fun t => ?_⟩ hh'
        · rw [hset]
          rcases List.mem_append.1 hx with hx | hx
          · rw [hJ.hp x hx hf]; rfl
          · simp only [List.mem_singleton] at hx
            subst hx; simp
        · rw [hset, hJ.hr x (List.mem_cons_of_mem _ hx)]
          simp only [Bool.false_or, beq_eq_false_iff_ne]
          exact fun e => huniq (p := pre ++ [(i, false, kp)]) (r := r) (x := (i, false, kp)) (by rw [← hJ.app]; simp) (by simp) hx e.symm
        · rcases List.mem_append.1 hj with hj | hj
          · rcases hJ.hus j k o hj hjo with h | h
            · rcases keep_head (ops := ops) pre [] (by rw [← hJ.app] at hkp; exact hkp) j (.inr ⟨k, hj⟩) with h6 | h6
              · exact .inl (List.mem_filter.2 ⟨h, h6⟩)
              · right
                rw [hset, hea j h6 (huniq hJ.app hj (List.mem_cons_self ..))]; rfl
            · right
              rw [hset, h]; rfl
          · simp at hj
        · by_cases hd : (ops[i]'hil).dst = some t
          · exact .inl (h5 t (.inl hd))
          · rcases hJ.near t with h | ⟨u, k, k1, k2, k3⟩
            · exact .inl (h5 t (.inr h))
            · refine .inr ⟨u, k, by simp [k1], ?_, k3⟩
              simp only [hset, k2, Bool.false_or, beq_eq_false_iff_ne]
              rintro rfl
              exact hd (by simpa [dstAt, ho] using k3)
theorem W_drawS (hZ : ZOk P Z) (hmo : P.follows .mixedOrders = true) {ops : Array Oper} {st : St} (sc : List Plc) (nid : Nat) (hb : Nat.ble st.rt.length nid = true) (hok : planOkS ops.toList sc = true)
    (h : walkS Z P G B0 nid (Q .normal) [] (items ops.toList sc) st) : DrawA Z P G B0 nl ops Q st := by
  intro id E a w hE hnl hh
  refine wp_region_any hmo ?_
  have hbn : E.nl ≤ st.rt.length := by
    obtain ⟨S, vals, fps, cb, hI⟩ := hh
    exact hI.lnl
  have hh0 : Holds Z E st a { w with drawn := w.drawn + 1 } := by
    obtain ⟨S, vals, fps, cb, hI⟩ := hh
    exact ⟨S, vals, fps, cb, hI.grow (w' := { w with drawn := w.drawn + 1 }) ⟨rfl, rfl, rfl, Nat.le_refl _, fun _ _ _ => rfl⟩⟩
  have hf : ∀ j, (Array.replicate ops.size false).getD j false = false := fun j => by
    simp only [Array.getD_eq_getD_getElem?, Array.getElem?_replicate]
    split <;> rfl
  refine walk_any hZ hE (nid := nid) (Nat.le_trans hbn (Nat.le_of_ble_eq_true hb)) hok (K := Q .normal) (fun st' a' w' hk hh' => ⟨st', hh', hk⟩) ops.size _ st [] sc [] st a _ (by simp) ?_ (fun j o hj hfj => ?_) ⟨rfl, fun x hx => (List.not_mem_nil hx).elim, fun x _ => hf _, fun i k o hi => (List.not_mem_nil hi).elim, h, rfl, rfl, rfl, fun t => .inl rfl⟩ hh0
  · exact Nat.le_trans (List.length_filter_le _ _) (by simp)
  · rw [hf] at hfj; cases hfj
end
end Go.Abs

/- Rules for simp: a drawn region by a schedule. -/
namespace Go.Abs
open Go
set_option linter.unusedVariables false
set_option linter.unusedSimpArgs false
section
variable {Z : TypeId → Nat} {P : Program} {G : World → Prop} {B0 nl base nid : Nat} {Q : Exit → St → Prop} {st : St}
variable {K R : St → Prop} {us : List (Nat × Oper)} {i : Nat} {kp : List Nat} {dst : Option Nat} {op : Op} {ty : TypeId} {pos : String} {af : Array Edge} {r : List (Oper × Plc)}
def CallEM (Z : TypeId → Nat) (P : Program) (G : World → Prop) (B0 : Nat) (st : St) (f : FuncId) (args : List AV) (K : AV → St → Prop) (_ : Dm K) : Prop := CallE Z P G B0 st f args K
def stepSM (Z : TypeId → Nat) (P : Program) (G : World → Prop) (B0 nid : Nat) (A : St) (o : Oper) (R : St → Prop) (_ : Dm R) : Prop := stepS Z P G B0 nid A o R
@[simp] theorem walkS_nil : walkS Z P G B0 nid K us [] st = ((∀ x ∈ us, postU P nid st x.2) ∧ K st) := rfl
@[simp] theorem walkS_u : walkS Z P G B0 nid K us ((⟨dst, op, ty, pos, af, none⟩, i, true, kp) :: r) st = (quiet op = true ∧ st.can dst = true ∧ optK (evalOp P st nid op) (fun q => walkS Z P G B0 nid K ((i, ⟨dst, op, ty, pos, af, none⟩) :: us) r (st.put dst q.1)) ⟨⟩) := by
  simp only [walkS, true_and, optK]
  cases evalOp P st nid op <;> rfl
@[simp] theorem walkS_c : walkS Z P G B0 nid K us ((⟨dst, op, ty, pos, af, none⟩, i, false, kp) :: r) st = ((∀ x ∈ us, postU P nid st x.2) ∧ stepSM Z P G B0 nid st ⟨dst, op, ty, pos, af, none⟩ (walkS Z P G B0 nid K (us.filter fun x => kp.contains x.1) r) ⟨⟩) := by
  simp only [walkS, true_and]
  rfl
@[simp] theorem stepSM_call {fv : Operand} {args : Array Operand} {tys : Array TypeId} : stepSM Z P G B0 nid st ⟨dst, .call { callee := .value fv, args := args, argTypes := tys }, ty, pos, af, none⟩ R ⟨⟩ = match evA st fv with
    | .fn f first caps => CallEM Z P G B0 st f (first ++ args.toList.map (evA st) ++ caps) (fun av s => s.can dst = true ∧ R (s.put dst av)) ⟨⟩
    | _ => False := rfl
theorem stepSM_op (h : ∀ fv args tys, op ≠ .call { callee := .value fv, args := args, argTypes := tys }) : stepSM Z P G B0 nid st ⟨dst, op, ty, pos, af, none⟩ R ⟨⟩ = ((quiet op || (isM op && !makes op)) = true ∧ st.can dst = true ∧ optK (evalOp P st nid op) (fun q => R (q.2.put dst q.1)) ⟨⟩) := by
  unfold stepSM stepS optK
  dsimp only
  split
  · rename_i fv args tys; exact absurd rfl (h fv args tys)
  · cases evalOp P st nid op <;> rfl
@[simp] theorem stepSM_move {x : Operand} : stepSM Z P G B0 nid st ⟨dst, .move x, ty, pos, af, none⟩ R ⟨⟩ = (st.can dst = true ∧ optK (evalOp P st nid (.move x)) (fun q => R (q.2.put dst q.1)) ⟨⟩) := by rw [stepSM_op (by simp)]; simp [quiet]
@[simp] theorem stepSM_assign {x : Operand} : stepSM Z P G B0 nid st ⟨dst, .assign x, ty, pos, af, none⟩ R ⟨⟩ = (st.can dst = true ∧ optK (evalOp P st nid (.assign x)) (fun q => R (q.2.put dst q.1)) ⟨⟩) := by rw [stepSM_op (by simp)]; simp [quiet]
@[simp] theorem stepSM_build {t : TypeId} {x : Array (Nat × Operand)} : stepSM Z P G B0 nid st ⟨dst, .build t x, ty, pos, af, none⟩ R ⟨⟩ = (st.can dst = true ∧ optK (evalOp P st nid (.build t x)) (fun q => R (q.2.put dst q.1)) ⟨⟩) := by rw [stepSM_op (by simp)]; simp [quiet]
@[simp] theorem stepSM_load {t : TypeId} {x : Operand} : stepSM Z P G B0 nid st ⟨dst, .load t x, ty, pos, af, none⟩ R ⟨⟩ = (st.can dst = true ∧ optK (evalOp P st nid (.load t x)) (fun q => R (q.2.put dst q.1)) ⟨⟩) := by rw [stepSM_op (by simp)]; simp [quiet]
@[simp] theorem stepSM_extract {x : Operand} {i : Nat} : stepSM Z P G B0 nid st ⟨dst, .extract x i, ty, pos, af, none⟩ R ⟨⟩ = (st.can dst = true ∧ optK (evalOp P st nid (.extract x i)) (fun q => R (q.2.put dst q.1)) ⟨⟩) := by rw [stepSM_op (by simp)]; simp [quiet]
@[simp] theorem stepSM_binOp {b : BinOp} {t u : TypeId} {x y : Operand} : stepSM Z P G B0 nid st ⟨dst, .binOp b t x y u, ty, pos, af, none⟩ R ⟨⟩ = (st.can dst = true ∧ optK (evalOp P st nid (.binOp b t x y u)) (fun q => R (q.2.put dst q.1)) ⟨⟩) := by rw [stepSM_op (by simp)]; simp [quiet]
@[simp] theorem stepSM_store {t : TypeId} {x y : Operand} : stepSM Z P G B0 nid st ⟨dst, .store t x y, ty, pos, af, none⟩ R ⟨⟩ = (st.can dst = true ∧ optK (evalOp P st nid (.store t x y)) (fun q => R (q.2.put dst q.1)) ⟨⟩) := by rw [stepSM_op (by simp)]; simp [isM, makes]
theorem CallE.rootsP (rs : List Nat) {f : FuncId} {args args' : List AV} {rts : Rows} {bxs : List Bool} {Post : AV → Rows → Prop} {K : AV → St → Prop} (hF : Does Z P G B0 f args' rts bxs Post) (hc : LentR st rs args args' rts bxs)
    (hk : ∀ y r, Post y r → r.length = rs.length → K (effR st.rt.length y).1 (((st.back rs r).ext 1).fill st.rt.length (effR st.rt.length y).2.1 (effR st.rt.length y).2.2)) : CallEM Z P G B0 st f args K ⟨⟩ := by
  obtain ⟨h1, h2, h3, h4, rfl, rfl⟩ := hc
  exact .inl ⟨rs, args', Post, h1, h2, h3, h4, hF, hk⟩
theorem CallE.snapP {f : FuncId} {args args' : List AV} {Post : AV → Prop} {K : AV → St → Prop} (hF : Does Z P G B0 f args' [] [] fun y _ => Post y) (hs : snapL st args = some args')
    (hk : ∀ y, Post y → noShrA y = true ∧ K (effR st.rt.length y).1 ((st.ext 1).fill st.rt.length (effR st.rt.length y).2.1 (effR st.rt.length y).2.2)) : CallEM Z P G B0 st f args K ⟨⟩ := .inr ⟨args', Post, hs, hF, hk⟩
theorem CallE.snapE {f : FuncId} {args args' : List AV} {y : AV} {K : AV → St → Prop} (hF : Does Z P G B0 f args' [] [] fun z _ => z = y) (hs : snapL st args = some args') (hn : noShrA y = true)
    (hk : K (effR st.rt.length y).1 ((st.ext 1).fill st.rt.length (effR st.rt.length y).2.1 (effR st.rt.length y).2.2)) : CallEM Z P G B0 st f args K ⟨⟩ := CallE.snapP hF hs fun z hz => by subst hz; exact ⟨hn, hk⟩
attribute [simp] items
end
end Go.Abs

