/- Abstract states of Go's memory: what frames hold, and rules for code over them (part 2). -/
import Derived.Test.YtbhbkaonlillhaaAba
/- A row that is turned in place, as a whole; 'clear'. -/
namespace Go.Abs
open Go
set_option linter.unusedVariables false
set_option linter.unusedSimpArgs false
variable {Z : TypeId → Nat}
theorem plc_setc (w : World) (x : Cell) : ∀ (p : Path) (es : Rows) (vals : Nat → Nat → Value) (ad : Nat → Nat → Option Addr) (cell : Cell), look es p = some cell → plc w (setc es p x) vals ad p = plc w es vals ad p
  | [], _, _, _, _, h => by simp [look] at h
  | [(i, c)], _, _, _, _, _ => rfl
  | (i, c) :: q :: p, es, vals, ad, cell, h => by
    obtain ⟨e, es', hc, hin⟩ := look_inv h
    rw [setc_own q p x hc, plc_own vals ad q p hc]
    have hc2 : cellAt (put1 es i c (.row true e (setc es' (q :: p) x))) i c = some (.row true e (setc es' (q :: p) x)) := by rw [cellAt_put hc]; simp
    rw [plc_own vals ad q p hc2, setc_width]
    exact plc_setc w x (q :: p) es' _ _ cell hin
theorem look_setc_self (x : Cell) : ∀ (p : Path) (es : Rows) (cell : Cell), look es p = some cell → look (setc es p x) p = some x
  | [], _, _, h => by simp [look] at h
  | [(i, c)], es, cell, h => by rw [setc_one, look_one, cellAt_put (y := cell) h]; simp
  | (i, c) :: q :: p, es, cell, h => by
    obtain ⟨e, es', hc, hin⟩ := look_inv h
    rw [setc_own q p x hc]
    have hc2 : cellAt (put1 es i c (.row true e (setc es' (q :: p) x))) i c = some (.row true e (setc es' (q :: p) x)) := by rw [cellAt_put hc]; simp
    rw [look_own q p hc2]
    exact look_setc_self x (q :: p) es' cell hin
theorem put_put (es : Rows) (i c : Nat) (x y : Cell) : put1 (put1 es i c x) i c y = put1 es i c y := by
  unfold put1
  apply List.ext_getElem?
  intro j
  simp only [List.getElem?_modify]
  by_cases h : i = j
  · subst h; cases es[i]? <;> simp
  · simp [h]
theorem setc_setc (x y : Cell) : ∀ (p : Path) (es : Rows) (cell : Cell), look es p = some cell → setc (setc es p x) p y = setc es p y
  | [], _, _, h => by simp [look] at h
  | [(i, c)], es, cell, h => by rw [setc_one, setc_one, setc_one, put_put]
  | (i, c) :: q :: p, es, cell, h => by
    obtain ⟨e, es', hc, hin⟩ := look_inv h
    rw [setc_own q p x hc, setc_own q p y hc]
    have hc2 : cellAt (put1 es i c (.row true e (setc es' (q :: p) x))) i c = some (.row true e (setc es' (q :: p) x)) := by rw [cellAt_put hc]; simp
    rw [setc_own q p y hc2, put_put, setc_setc x y (q :: p) es' cell hin]
section
variable {E : Ent} {st : St} {a : Act} {w w' : World} {S S' : Nat → Prop} {vals : Nat → Nat → Value} {fps : Nat → Nat → Nat → Prop} {cb : Nat → Nat}
/-- What is in hand goes where a hole is, under the value that stands there. -/
theorem Inv.give (h : Inv Z E st a w S vals fps cb) {p : Path} (hl : look st.rt p = some .hole) {cell' : Cell} {fp : Nat → Prop} (hrc : RC Z w S cell' (plc w st.rt vals (adr st.bx cb) p).1 fp) (hf : Flt E st fps cb fp) :
    ∃ fps', Inv Z E (st.setSc p cell') a w S vals fps' cb ∧ (∀ r c k, fps' r c k → fps r c k ∨ fp k) := by
  obtain ⟨fpc, h1, h2, h3⟩ := h.setAt hl
  have hO : SetOk Z E st w w S vals fps cb p fpc fp cell' (plc w st.rt vals (adr st.bx cb) p).1 := by
    refine ⟨hrc, fun k hk => ⟨fun r c hk2 => absurd hk2 (hf.no k hk r c), hf.nb k hk, hf.own k hk⟩, rfl, rfl, rfl, Nat.le_refl _, fun _ _ _ _ => rfl, fun x hx cur ty hh => ?_, fun r c hp _ _ => by rw [hp, plc_one]⟩
    have hsame : ∀ (cur : Array Value) (o : Nat) (v : Value), cur[o]? = some v → cur.setIfInBounds o v = cur := by
      intro cur o v hv
      apply Array.ext_getElem?
      intro j
      rw [Array.getElem?_setIfInBounds]
      split
      · rename_i he; subst he; split
        · exact hv.symm
        · rename_i hlt; rw [Array.getElem?_eq_none (by omega)] at hv; cases hv
      · rfl
    rw [hh]
    congr 1
    refine congrArg (fun c => Obj.cells c ty (0, 0)) (hsame cur x.off _ ?_).symm
    obtain ⟨cur2, ty2, k1, k2, _⟩ := h.cellAt hl hx
    rw [hh] at k1
    cases k1
    exact k2
  obtain ⟨fps', _, hI, hs, _⟩ := h3 w cell' _ _ hO
  have hI := hI rfl
  rw [upd_self] at hI
  exact ⟨fps', hI, fun r c k hk => (hs r c k hk).imp (fun h => h.1) id⟩
def rowLen (e : TypeId) : Cell → Option Nat
  | .row true e' es => if e' = e then some es.length else none
  | _ => none
theorem rowLen_some {e : TypeId} {c : Cell} {n : Nat} (h : rowLen e c = some n) : ∃ es, c = .row true e es ∧ es.length = n := by
  unfold rowLen at h
  split at h
  · rename_i e' es
    split at h
    · rename_i he; cases h; subst he; exact ⟨_, rfl, rfl⟩
    · cases h
  · cases h
/-- A slot behind such a call: the row's header stays. -/
def keepB (p : Path) (e : TypeId) (c' : Cell) (n : Nat) (x : AV) : AV :=
  match x with
  | .bor q lo len => if q = p ∧ rowLen e c' = some n then .bor q lo len else kill p (.bor q lo len)
  | x => kill p x
def keepS (p : Path) (e : TypeId) (c' : Cell) (n : Nat) (sl : List (Nat × AV)) : List (Nat × AV) := sl.map fun x => (x.1, keepB p e c' n x.2)
theorem getA_keep (p : Path) (e : TypeId) (c' : Cell) (n t : Nat) : ∀ sl, getA (keepS p e c' n sl) t = keepB p e c' n (getA sl t)
  | [] => rfl
  | (k, v) :: r => by
    have ih := getA_keep p e c' n t r
    simp only [keepS, List.map_cons, getA] at ih ⊢
    split
    · rfl
    · exact ih
def St.lent (st : St) (p : Path) (e : TypeId) (c' : Cell) (n : Nat) : St := ⟨st.nt, keepS p e c' n st.sl, setc st.rt p c', st.bx⟩
/-- The row at a place is another one from now on. -/
theorem Inv.lend (h : Inv Z E st a w S vals fps cb) {p : Path} {e : TypeId} {es : Rows} (hl : look st.rt p = some (.row true e es)) :
    ∃ fpc, RC Z w S (.row true e es) (plc w st.rt vals (adr st.bx cb) p).1 fpc ∧
      ∀ w' c' fp', Fr fpc w w' → RC Z w' S c' (plc w st.rt vals (adr st.bx cb) p).1 fp' → (∀ k, fp' k → fpc k ∨ w.heap.size ≤ k) → ∃ fps3, Inv Z E (st.lent p e c' es.length) a w' S vals fps3 cb := by
  obtain ⟨fps1, fpc, I1, hrc, hflt, hsub, hfpc, htr⟩ := h.take hl
  refine ⟨fpc, hrc, fun w' c' fp' hfr hrc2 hown0 => ?_⟩
  have hlk1 : look (setc st.rt p .hole) p = some .hole := look_setc_self .hole p st.rt _ hl
  generalize hvv : (plc w st.rt vals (adr st.bx cb) p).1 = val at hrc hrc2
  have hS1f : ∀ k, fpc k → ¬ S k := fun k hk hs => hrc.notS k hk hs
  have hlo : ∀ k, fpc k → E.lf k ∨ E.w0.heap.size ≤ k := fun k hk => hflt.own k hk
  have I2 : Inv Z E (st.setAt p .hole) a w' S vals fps1 cb := I1.world hfr ⟨hflt.no, hflt.nb, hflt.own⟩ hS1f
  have hval : (plc w' (setc st.rt p .hole) vals (adr st.bx cb) p).1 = val := by
    have h5 : plc w' (setc st.rt p .hole) vals (adr st.bx cb) p = plc w (setc st.rt p .hole) vals (adr st.bx cb) p :=
      plc_frame p _ vals _ fps1 _ I1.rr hlk1 fun ic rest _ k hk => hfr.block k (I1.rr.lt hk) fun hx => hflt.no k hx _ _ hk
    rw [h5, plc_setc w .hole p st.rt vals _ _ hl, hvv]
  have hnew : ∀ k, (fpc k ∨ w.heap.size ≤ k) → (∀ r c, ¬ fps1 r c k) ∧ (∀ r, st.bx.getD r false = true → cb r ≠ k) ∧ ¬ S k ∧ (E.lf k ∨ E.w0.heap.size ≤ k) := by
    intro k hk
    rcases hk with hk | hk
    · exact ⟨hflt.no k hk, hflt.nb k hk, fun hs => hS1f k hk hs, hlo k hk⟩
    · exact ⟨fun r c hk2 => by have := I1.rr.lt hk2; omega, fun r hr e => by have := h.box_lt hr; omega, fun hs => by have := h.slt k hs; omega, .inr (Nat.le_trans h.fr.size hk)⟩
  have hlk2 : look (st.setAt p .hole).rt p = some .hole := hlk1
  obtain ⟨fps3, I3, hs3⟩ := I2.give hlk2 (cell' := c') (fp := fp') (by
    have : (plc w' (st.setAt p .hole).rt vals (adr (st.setAt p .hole).bx cb) p).1 = val := hval
    rw [this]; exact hrc2) ⟨fun k hk => (hnew k (hown0 k hk)).1, fun k hk => (hnew k (hown0 k hk)).2.1, fun k hk => (hnew k (hown0 k hk)).2.2.2⟩
  refine ⟨fps3, ?_⟩
  have hstep : Inv Z E ⟨st.nt, killS p st.sl, setc st.rt p c', st.bx⟩ a w' S vals fps3 cb := by
    have := I3
    unfold St.setSc at this
    simp only [St.setAt] at this
    rw [setc_setc .hole c' p st.rt _ hl] at this
    exact this
  refine { hstep with sl := fun t => ?_ }
  show RA Z w' S (setc st.rt p c') vals (adr st.bx cb) (getA (keepS p e c' es.length st.sl) t) _
  rw [getA_keep]
  have hk := hstep.sl t
  simp only [getA_kill] at hk
  have hx := h.sl t
  generalize getA st.sl t = x at hk hx
  unfold keepB
  split
  · rename_i q lo len
    split
    · rename_i hq
      obtain ⟨rfl, hlen⟩ := hq
      obtain ⟨es2, rfl, hlen⟩ := rowLen_some hlen
      generalize a.tmps.getD t undef = u at hx
      cases hx with
      | @bor _ e3 es3 sz _ _ _ hl3 hsz hln hss =>
        rw [hl] at hl3
        cases hl3
        rw [hvv] at hss
        obtain ⟨sz2, xs2, fq, ho2, hrows2, _, _, _, hze2⟩ := own_inner hrc2
        obtain ⟨sz1, xs1, fq1, ho1, hrows1, _, _, _, hze1⟩ := own_inner hrc
        have hplc : (plc w' (setc st.rt q (.row true e es2)) vals (adr st.bx cb) q).1 = val := by
          have h6 := plc_setc w' (.row true e es2) q (setc st.rt q .hole) vals (adr st.bx cb) _ hlk1
          rw [setc_setc .hole _ q st.rt _ hl] at h6
          rw [h6]; exact hval
        have hlk3 := look_setc_self (.row true e es2) q st.rt _ hl
        refine .bor hlk3 hrows2 (by omega) ?_
        rw [hplc]
        rcases hss with h0 | ⟨g, n, cap, hgv, hle, h0 | ⟨h7, off, cap', rfl, h8, h9, h10⟩⟩
        · exact .inl h0
        · exact .inr ⟨g, n, cap, hgv, hle, .inl h0⟩
        · refine .inr ⟨g, n, cap, hgv, hle, .inr ⟨h7, off, cap', rfl, h8, h9, ?_⟩⟩
          rcases h10 with h10 | h10
          · exact .inl h10
          · by_cases hl0 : len = 0
            · exact .inl hl0
            · right
              rw [h10]
              congr 1
              have hpos : 0 < es.length := by omega
              rw [← hsz _ (List.getElem_mem hpos), hrows1 _ (List.getElem_mem hpos), ← hze1, hze2]
    · exact hk
  · exact hk
/-! ### clear -/
theorem setCells_off {g : Nat} : ∀ (vs : List Value) (o : Nat) (w : World), (w.setCells g o vs).os = w.os ∧ (w.setCells g o vs).tape = w.tape ∧ (w.setCells g o vs).output = w.output ∧ (w.setCells g o vs).heap.size = w.heap.size ∧ ∀ k, k ≠ g → (w.setCells g o vs).heap[k]? = w.heap[k]?
  | [], o, w => ⟨rfl, rfl, rfl, rfl, fun _ _ => rfl⟩
  | v :: r, o, w => by
    obtain ⟨h1, h2, h3, h4, h5⟩ := setCells_off (g := g) r (o + 1) (w.setCell ⟨g, o, none⟩ v)
    refine ⟨h1, h2, h3, h4.trans (by simp [World.setCell]), fun k hk => (h5 k hk).trans ?_⟩
    simp only [World.setCell, Array.getElem?_modify]
    rw [if_neg (fun e => hk e.symm)]
theorem setCells_on {g : Nat} {e : TypeId} : ∀ (vs : List Value) (o : Nat) (w : World) (cur : Array Value), w.heap[g]? = some (.cells cur e (0, 0)) → o + vs.length ≤ cur.size →
    ∃ cur', (w.setCells g o vs).heap[g]? = some (.cells cur' e (0, 0)) ∧ cur'.size = cur.size ∧ ∀ j, cur'[j]? = if o ≤ j ∧ j < o + vs.length then vs[j - o]? else cur[j]?
  | [], o, w, cur, h, _ => ⟨cur, h, rfl, fun j => by simp; omega⟩
  | v :: r, o, w, cur, h, hl => by
    simp only [List.length_cons] at hl
    have h1 : (w.setCell ⟨g, o, none⟩ v).heap[g]? = some (.cells (cur.setIfInBounds o v) e (0, 0)) := by
      simp [World.setCell, Array.getElem?_modify, h]
    obtain ⟨cur', h2, h3, h4⟩ := setCells_on r (o + 1) _ _ h1 (by simp; omega)
    refine ⟨cur', h2, by simpa using h3, fun j => ?_⟩
    rw [h4 j]
    simp only [List.length_cons]
    by_cases c1 : o + 1 ≤ j ∧ j < o + 1 + r.length
    · rw [if_pos c1, if_pos (by omega), show j - o = (j - (o + 1)) + 1 by omega, List.getElem?_cons_succ]
    · rw [if_neg c1]
      by_cases c2 : j = o
      · subst c2
        rw [if_pos (by omega), Array.getElem?_setIfInBounds]
        simp [show j < cur.size by omega]
      · rw [if_neg (by omega), Array.getElem?_setIfInBounds, if_neg (by omega)]
def clearR (es : Rows) (lo n : Nat) (zc : List Cell) : Rows := es.take lo ++ List.replicate n zc ++ es.drop (lo + n)
def clearA (P : Program) (st : St) (t : TypeId) (x : AV) : Option (AV × St) :=
  match elemOf P t with
  | some e => match einfo P e with
    | some (_, _, zs) => match zcells (cellE P e) zs with
      | some zc => match x with
        | .bor p lo n => match look st.rt p with
          | some (.row true e' es) => if e' = e then some (.tup [], st.lent p e (.row true e (clearR es lo n zc)) es.length) else none
          | _ => none
        | _ => none
      | none => none
    | none => none
  | none => none
theorem clearR_len {es : Rows} {lo n : Nat} {zc : List Cell} (h : lo + n ≤ es.length) : (clearR es lo n zc).length = es.length := by
  simp [clearR]; omega
theorem clearR_get {es : Rows} {lo n : Nat} {zc : List Cell} (h : lo + n ≤ es.length) (i : Nat) : (clearR es lo n zc)[i]? = if lo ≤ i ∧ i < lo + n then some zc else es[i]? := by
  unfold clearR
  by_cases c1 : i < lo
  · rw [if_neg (by omega), List.append_assoc, List.getElem?_append_left (by simp; omega), List.getElem?_take_of_lt c1]
  · by_cases c2 : i < lo + n
    · rw [if_pos (by omega), List.append_assoc, List.getElem?_append_right (by simp; omega), List.getElem?_append_left (by simp; omega), List.getElem?_replicate, if_pos (by simp; omega)]
    · rw [if_neg (by omega), List.getElem?_append_right (by simp; omega), List.getElem?_drop]
      congr 1
      simp; omega
theorem clearA_ok {P : Program} (hZ0 : ZOk P Z) (h : Inv Z E st a w S vals fps cb) {t ty : TypeId} {x av : AV} {xu : Value} {st' : St} (hx : RA Z w S st.rt vals (adr st.bx cb) x xu) (hb : clearA P st t x = some (av, st')) :
    ∃ w' fps', (Builtin.clear_ #[t] ty #[xu]).run P w = .ok (.tuple #[]) w' ∧ Inv Z E st' a w' S vals fps' cb ∧ av = .tup [] := by
  unfold clearA at hb
  split at hb
  · rename_i e he
    split at hb
    · rename_i sz by_ zs hei
      split at hb
      · rename_i zc hzc
        split at hb
        · rename_i p lo n
          split at hb
          · rename_i e' es hl
            split at hb
            · rename_i hee
              subst hee
              simp only [Option.some.injEq, Prod.mk.injEq] at hb
              obtain ⟨rfl, rfl⟩ := hb
              obtain ⟨fpc, hrc, hlend⟩ := h.lend hl
              have hu := elemOf_spec he
              cases hx with
              | @bor _ e2 es2 sz2 _ _ _ hl2 hsz hlen hss =>
                rw [hl] at hl2
                cases hl2
                by_cases hn0 : n = 0
                · subst hn0
                  have hc0 : clearR es lo 0 zc = es := by simp [clearR]
                  rw [hc0]
                  obtain ⟨fps3, h3⟩ := hlend w _ fpc ⟨rfl, rfl, rfl, Nat.le_refl _, fun _ _ _ => rfl⟩ hrc fun k hk => .inl hk
                  refine ⟨w, fps3, ?_, h3, rfl⟩
                  rcases hss with ⟨_, rfl, _⟩ | ⟨g, m, cap, _, _, ⟨_, rfl⟩ | ⟨_, off, cap', rfl, _⟩⟩ <;> simp [Builtin.clear_, run_underlying hu]
                · obtain ⟨i, v, vs, hi, hz, hsz', hbi, hpos, hcs, hzl, hrl, h1⟩ := einfo_spec (Z := Z) (w := w) (S := S) (vals := vals) hei st.rt (adr st.bx cb)
                  obtain ⟨hzc1, hzc2⟩ := zcells_ok zs _ vs zc hrl hzc
                  generalize hvv : (plc w st.rt vals (adr st.bx cb) p).1 = val at hrc hss hlend
                  have hvl : vs.length = sz := by rw [← hrl.1]; exact hzl
                  cases hrc with
                  | own sz3 hz3 xs fps3 ho hsz3 hr hout hd hg =>
                    have e3 : sz3 = sz := by rw [← hz3, hZ0 e' i hi, hsz']
                    subst e3
                    have hne : 0 < es.length := by omega
                    have e2 : sz2 = sz3 := by rw [← hsz _ (List.getElem_mem hne), hsz3 _ (List.getElem_mem hne)]
                    subst e2
                    obtain ⟨g, m, cap, rfl, hle, hxu⟩ : ∃ g m cap, val = .slice (some ⟨g, 0, none⟩) m cap ∧ lo + n ≤ m ∧ ∃ c2, xu = .slice (some ⟨g, lo * sz2, none⟩) n c2 := by
                      rcases hss with ⟨_, _, _, h0⟩ | ⟨g, m, cap, hv, hle, ⟨h0, hx0⟩ | ⟨h0, off, cap', hx0, _, _, h10⟩⟩
                      · omega
                      · exact ⟨g, m, cap, hv, hle, cap, by rw [hx0, h0, Nat.zero_mul]⟩
                      · exact ⟨g, m, cap, hv, hle, cap', by rw [hx0, h10.resolve_left hn0]⟩
                    obtain ⟨c2, rfl⟩ := hxu
                    rcases ho.2 with ⟨h0, _⟩ | ⟨g', cap', cur, h0, hb0, hgh, hnc, hcm, hcsz, htk⟩
                    · cases h0
                    cases h0
                    let news := (List.replicate n vs).flatten
                    have hnl : news.length = n * sz2 := by simp [news, hvl]
                    have hin : lo * sz2 + n * sz2 ≤ es.length * sz2 := by rw [← Nat.add_mul]; exact Nat.mul_le_mul_right _ hlen
                    have hin2 : es.length * sz2 ≤ cur.size := by rw [hcsz]; exact Nat.mul_le_mul_right _ hnc
                    have hzero : (Builtin.zeroCells v.cells n).toList = news := by
                      rw [hcs]
                      apply List.ext_getElem?
                      intro j
                      simp only [Builtin.zeroCells, Array.toList_map, Array.toList_range, List.getElem?_map, List.size_toArray, hvl]
                      by_cases hj : j < n * sz2
                      · rw [List.getElem?_range hj, rep_get vs n j (by rw [hvl]; exact hj), hvl]
                        have hm : j % sz2 < vs.length := by rw [hvl]; exact Nat.mod_lt _ hpos
                        simp [hm]
                      · rw [List.getElem?_eq_none (by simpa using hj), List.getElem?_eq_none (by rw [hnl]; omega)]; rfl
                    have hone : ∀ u ∈ news, u.oneCell' = true := fun u hu => by
                      obtain ⟨l, hl1, hl2⟩ := List.mem_flatten.1 hu
                      rw [(List.mem_replicate.1 hl1).2] at hl2
                      exact h1 u hl2
                    have hrun := run_storeCells_cells (P := P) g (lo * sz2) news 0 w (fun j hj => by
                      have hlt : lo * sz2 + j < cur.size := by omega
                      simp [World.cell?, hgh, hlt]) (fun j hj => by simp [World.frozen?, hgh]) hone
                    rw [Nat.add_zero] at hrun
                    obtain ⟨o1, o2, o3, o4, o5⟩ := setCells_off (g := g) news (lo * sz2) w
                    obtain ⟨cur', q1, q2, q3⟩ := setCells_on news (lo * sz2) w cur hgh (by omega)
                    have hbg : ∀ k, fps3 = fps3 → (∃ i c, fps3 i c k) → k ≠ g := fun k _ ⟨i, c, hk⟩ e => (hg g rfl).2 i c (e ▸ hk)
                    have hSg : ∀ k, S k → k ≠ g := fun k hk e => (hg g rfl).1 (e ▸ hk)
                    have hlv : ∀ i c, i < es.length → c < sz2 → ∀ xs', xs' = cur'.toList.take (es.length * sz2) → lv xs' sz2 i c = if lo ≤ i ∧ i < lo + n then vs.getD c undef else lv xs sz2 i c := fun i c hi hc xs' hxs => by
                      have hlt : i * sz2 + c < es.length * sz2 := by
                        have : (i + 1) * sz2 ≤ es.length * sz2 := Nat.mul_le_mul_right _ hi
                        rw [Nat.add_mul, Nat.one_mul] at this; omega
                      unfold lv
                      rw [hxs, List.getD_eq_getElem?_getD, List.getElem?_take_of_lt hlt, Array.getElem?_toList, q3]
                      have key : (lo * sz2 ≤ i * sz2 + c ∧ i * sz2 + c < lo * sz2 + news.length) ↔ (lo ≤ i ∧ i < lo + n) := by
                        rw [hnl, ← Nat.add_mul]
                        constructor
                        · rintro ⟨k1, k2⟩
                          constructor
                          · rcases Nat.lt_or_ge i lo with k3 | k3
                            · have : (i + 1) * sz2 ≤ lo * sz2 := Nat.mul_le_mul_right _ k3
                              rw [Nat.add_mul, Nat.one_mul] at this; omega
                            · exact k3
                          · rcases Nat.lt_or_ge i (lo + n) with k3 | k3
                            · exact k3
                            · have : (lo + n) * sz2 ≤ i * sz2 := Nat.mul_le_mul_right _ k3
                              omega
                        · rintro ⟨k1, k2⟩
                          have h5 : lo * sz2 ≤ i * sz2 := Nat.mul_le_mul_right _ k1
                          have h6 : (i + 1) * sz2 ≤ (lo + n) * sz2 := Nat.mul_le_mul_right _ k2
                          rw [Nat.add_mul, Nat.one_mul] at h6
                          omega
                      by_cases hk : lo ≤ i ∧ i < lo + n
                      · rw [if_pos (key.2 hk), if_pos hk]
                        have e1 : i * sz2 + c - lo * sz2 = (i - lo) * sz2 + c := by
                          rw [Nat.sub_mul]
                          have h5 : lo * sz2 ≤ i * sz2 := Nat.mul_le_mul_right _ hk.1
                          omega
                        have hlt2 : (i - lo) * sz2 + c < n * sz2 := by
                          have : (i - lo + 1) * sz2 ≤ n * sz2 := Nat.mul_le_mul_right _ (by omega)
                          rw [Nat.add_mul, Nat.one_mul] at this; omega
                        rw [e1, rep_get vs n _ (by rw [hvl]; exact hlt2), hvl, Nat.mul_comm, Nat.mul_add_mod, Nat.mod_eq_of_lt hc, List.getD_eq_getElem?_getD]
                      · rw [if_neg (fun e => hk (key.1 e)), if_neg hk, List.getD_eq_getElem?_getD, ← htk, List.getElem?_take_of_lt hlt, Array.getElem?_toList]
                    have hc2 : ∀ i c cell, cellAt (clearR es lo n zc) i c = some cell → i < es.length ∧ c < sz2 ∧ ((lo ≤ i ∧ i < lo + n ∧ zc[c]? = some cell) ∨ (¬ (lo ≤ i ∧ i < lo + n) ∧ cellAt es i c = some cell)) := fun i c cell hc => by
                      unfold cellAt at hc
                      rw [clearR_get hlen] at hc
                      by_cases hk : lo ≤ i ∧ i < lo + n
                      · rw [if_pos hk] at hc
                        simp only [Option.bind_some] at hc
                        have := (List.getElem?_eq_some_iff.1 hc).1
                        exact ⟨by omega, by omega, .inl ⟨hk.1, hk.2, hc⟩⟩
                      · rw [if_neg hk] at hc
                        obtain ⟨k1, k2⟩ := cellAt_col hsz3 hc
                        exact ⟨k1, k2, .inr ⟨hk, hc⟩⟩
                    have hrc2 : RC Z (w.setCells g (lo * sz2) news) S (.row true e' (clearR es lo n zc)) (.slice (some ⟨g, 0, none⟩) es.length cap) (fun k => (Value.slice (some ⟨g, 0, none⟩) es.length cap).ownBlock = some k ∨ ∃ i c, (if lo ≤ i ∧ i < lo + n then False else fps3 i c k)) := by
                      refine .own sz2 hz3 (cur'.toList.take (es.length * sz2)) (fun i c k => if lo ≤ i ∧ i < lo + n then False else fps3 i c k) ⟨?_, .inr ⟨g, cap, cur', by rw [clearR_len hlen], hb0, q1, by rw [clearR_len hlen]; exact hnc, hcm, by rw [q2]; exact hcsz, by rw [clearR_len hlen]⟩⟩ (fun x hx => ?_) (fun i c cell hc => ?_) (fun i c hc k hk => ?_) (fun i c i' c' k k1 k2 => ?_) fun g2 hg2 => ?_
                      · rw [clearR_len hlen, List.length_take]; simp; omega
                      · obtain ⟨j, hj⟩ := List.getElem?_of_mem hx
                        rw [clearR_get hlen] at hj
                        split at hj
                        · cases hj; omega
                        · exact hsz3 _ (List.mem_of_getElem? hj)
                      · obtain ⟨k1, k2, k3⟩ := hc2 i c cell hc
                        rw [hlv i c k1 k2 _ rfl]
                        rcases k3 with ⟨k4, k5, k6⟩ | ⟨k4, k5⟩
                        · have e1 : (fun k => if lo ≤ i ∧ i < lo + n then False else fps3 i c k) = fun _ => False := by funext k; rw [if_pos ⟨k4, k5⟩]
                          rw [e1, if_pos ⟨k4, k5⟩]
                          have hlt : c < vs.length := by omega
                          refine (hzc2 c cell _ k6 (by rw [List.getD_eq_getElem?_getD, List.getElem?_eq_getElem hlt]; rfl)).frame0 (fun k hk => o5 k (hSg k hk)) fun _ hk => hk
                        · have e1 : (fun k => if lo ≤ i ∧ i < lo + n then False else fps3 i c k) = fps3 i c := by funext k; rw [if_neg k4]
                          rw [e1, if_neg k4]
                          exact (hr i c cell k5).frame (fun k hk => o5 k (hSg k hk)) (fun k hk => o5 k (hbg k rfl ⟨i, c, hk⟩)) (fun _ hk => hk) fun k hk => (hr i c cell k5).notS k hk
                      · split at hk
                        · exact hk
                        · rename_i hk2
                          refine hout i c ?_ k hk
                          unfold cellAt at hc ⊢
                          rw [clearR_get hlen, if_neg hk2] at hc
                          exact hc
                      · split at k1
                        · exact k1.elim
                        · split at k2
                          · exact k2.elim
                          · exact hd _ _ _ _ k k1 k2
                      · refine ⟨(hg g2 hg2).1, fun i c hk => ?_⟩
                        split at hk
                        · exact hk
                        · exact (hg g2 hg2).2 i c hk
                    obtain ⟨fps4, I4⟩ := hlend _ _ _ ⟨o1, o2, o3, by rw [o4]; exact Nat.le_refl _, fun k _ hk => o5 k fun e => hk (.inl (by rw [e]; rfl))⟩ hrc2 fun k hk => by
                      left
                      rcases hk with hk | ⟨i, c, hk⟩
                      · exact .inl hk
                      · split at hk
                        · exact hk.elim
                        · exact .inr ⟨i, c, hk⟩
                    refine ⟨_, fps4, ?_, I4, rfl⟩
                    obtain ⟨n, rfl⟩ : ∃ m, n = m + 1 := ⟨n - 1, by omega⟩
                    have hzv : (zeroValue e').run P w = .ok v w := by simp [zeroValue, typeInfo, hi, hz]
                    simp [Builtin.clear_, run_underlying hu, hzv, hzero, hrun]
            · cases hb
          · cases hb
        · cases hb
      · cases hb
    · cases hb
  · cases hb
end
end Go.Abs

/- All operations but calls of functions, together. -/
namespace Go.Abs
open Go
set_option linter.unusedVariables false
set_option linter.unusedSimpArgs false
variable {Z : TypeId → Nat}
def pickA (t : Bool) (x y : AV) : AV :=
  match x, y with
  | .c (.sc (.bool a)), .c (.sc (.bool b)) => .c (.sc (.bool (if t then a else b)))
  | x, y => if t then x else y
def minA (x y : AV) : Option AV :=
  match x, y with
  | .c (.sc (.int k a)), .c (.sc (.int _ b)) => some (.c (.sc (.int k (if b < a then b else a))))
  | _, _ => none
def maxA (x y : AV) : Option AV :=
  match x, y with
  | .c (.sc (.int k a)), .c (.sc (.int _ b)) => some (.c (.sc (.int k (if a < b then b else a))))
  | _, _ => none
def builtinA (P : Program) (st : St) (nid : Nat) (b : Builtin) (args : List AV) (tys : List TypeId) : Option (AV × St) :=
  match b, args, tys with
  | .len, [x], [t] => (lenA P t x).map fun (n : Nat) => (.c (.sc (.int .i64 (n : Int))), st)
  | .append, [s, x], [t, t'] => if t = t' then appendA P st nid t s x else none
  | .min, [x, y], _ => (minA x y).map fun r => (r, st)
  | .max, [x, y], _ => (maxA x y).map fun r => (r, st)
  | .clear, [x], [t] => clearA P st t x
  | _, _, _ => none
/-- An index's element type is one with a size. -/
def elOk (P : Program) (t : TypeId) : Bool :=
  match elemOf P t with
  | some e => (tinfo P e).isSome
  | none => true
def evalOp (P : Program) (st : St) (nid : Nat) (op : Op) : Option (AV × St) :=
  match op with
  | .move x | .assign x => some (evA st x, st)
  | .pick c x y => match evA st c with
    | .c (.sc (.bool t)) => some (pickA t (evA st x) (evA st y), st)
    | _ => none
  | .alloc e => allocA P st nid e
  | .box e x => boxA P st nid e (evA st x)
  | .build t parts => (buildA P st t parts.toList).map fun r => (r, st)
  | .buildSlice t len parts => buildSliceA P st nid t len parts.toList
  | .load t x => match tinfo P t with
    | some (ag, n) => (loadA st ag n (evA st x)).map fun r => (r, st)
    | none => none
  | .store t x y => (storeA P st t (evA st x) (evA st y)).map fun s => (.tup [], s)
  | .nilCheck x => match evA st x with
    | .ptr p => some (.ptr p, st)
    | .sptr cs o => some (.sptr cs o, st)
    | _ => none
  | .binOp op t x y _ => (binA P op t (evA st x) (evA st y)).map fun r => (r, st)
  | .unOp op _ x => (unA op (evA st x)).map fun r => (r, st)
  | .convert src dst x => (convA P st src dst (evA st x)).map fun r => (r, st)
  | .makeFunc (.func f) first caps => some (.fn f (first.toList.map (evA st)) (caps.toList.map (evA st)), st)
  | .makeSlice t l c => makeA P st nid t (evA st l) (evA st c)
  | .slice t x lo hi none => if elOk P t then (sliceA P st t (evA st x) (lo.map (evA st)) (hi.map (evA st))).map fun r => (r, st) else none
  | .fieldAddr t x f => (fieldAddrA P st t f (evA st x)).map fun r => (r, st)
  | .field t x f => (fieldA P t f (evA st x)).map fun r => (r, st)
  | .indexAddr t x i => if elOk P t then (indexAddrA P st t (evA st x) (evA st i)).map fun r => (r, st) else none
  | .index t x i => (indexA P t (evA st x) (evA st i)).map fun r => (r, st)
  | .extract x i => (extractA (evA st x) i).map fun r => (r, st)
  | .call { callee := .builtin b, args, argTypes } => builtinA P st nid b (args.toList.map (evA st)) argTypes.toList
  | _ => none
/-- Does an operation make a root? -/
def makes : Op → Bool
  | .alloc _ | .box _ _ | .buildSlice _ _ _ | .makeSlice _ _ _ => true
  | .call { callee := .builtin .append, .. } => true
  | _ => false
section
variable {E : Ent} {st : St} {a : Act} {w w' : World} {S : Nat → Prop} {vals : Nat → Nat → Value} {fps : Nat → Nat → Nat → Prop} {cb : Nat → Nat}
/-- A state that holds: with some witnesses. -/
def Holds (Z : TypeId → Nat) (E : Ent) (st : St) (a : Act) (w : World) : Prop := ∃ S vals fps cb, Inv Z E st a w S vals fps cb
theorem elOk_spec {P : Program} {t : TypeId} (h : elOk P t = true) : ∀ e, elemOf P t = some e → (tinfo P e).isSome = true := by
  intro e he
  unfold elOk at h
  rw [he] at h
  exact h
theorem RL_map {es : Rows} {ad : Nat → Nat → Option Addr} (xs : List Operand) (h : ∀ o, RA Z w S es vals ad (evA st o) (a.eval o)) : RL (RA Z w S es vals ad) (xs.map (evA st)) (xs.map a.eval) := by
  refine ⟨by simp, fun i x v hx hv => ?_⟩
  rw [List.getElem?_map] at hx hv
  cases hi : xs[i]? with
  | none => rw [hi] at hx; cases hx
  | some o => rw [hi] at hx hv; cases hx; cases hv; exact h o
/-- What is left behind one operation. -/
def OpGives (Z : TypeId → Nat) (P : Program) (E : Ent) (o : Oper) (a : Act) (w : World) (st' : St) (av : AV) : Prop :=
  ∃ v w' S vals fps cb, ((execOp a.eval o).run P w = .ok (.value v) w' ∨ ((execOp a.eval o).run P w = .ok .skip w' ∧ v = undef)) ∧ Inv Z E st' a w' S vals fps cb ∧ RA Z w' S st'.rt vals (adr st'.bx cb) av v
theorem evalOp_ok {P : Program} (hZ0 : ZOk P Z) (h : Inv Z E st a w S vals fps cb) {nid : Nat} (o : Oper) (hf : makes o.op = true → st.free nid) (hnl : E.nl ≤ nid) {av : AV} {st' : St} (hb : evalOp P st nid o.op = some (av, st')) : OpGives Z P E o a w st' av := by
  obtain ⟨dst, op, type, pos, after, guard⟩ := o
  have hev := h.eval
  have pure1 : ∀ {m : Sem Value} {v : Value} {r : AV}, m.run P w = .ok v w → RA Z w S st.rt vals (adr st.bx cb) r v → (av, st') = (r, st) →
      (∀ w, (execOp a.eval ⟨dst, op, type, pos, after, guard⟩).run P w = (do pure (Next.value (← m)) : Sem Next).run P w) → OpGives Z P E ⟨dst, op, type, pos, after, guard⟩ a w st' av := by
    intro m v r hm hr he hx
    cases he
    exact ⟨v, w, S, vals, fps, cb, .inl (by rw [hx]; simp [hm]), h, hr⟩
  have make1 : ∀ {m : Sem Value}, (∃ u w' vals' fps' cb', m.run P w = .ok u w' ∧ Inv Z E st' a w' S vals' fps' cb' ∧ RA Z w' S st'.rt vals' (adr st'.bx cb') av u) →
      (∀ w, (execOp a.eval ⟨dst, op, type, pos, after, guard⟩).run P w = (do pure (Next.value (← m)) : Sem Next).run P w) → OpGives Z P E ⟨dst, op, type, pos, after, guard⟩ a w st' av := by
    rintro m ⟨u, w', vals', fps', cb', h1, h2, h3⟩ hx
    exact ⟨u, w', S, vals', fps', cb', .inl (by rw [hx]; simp [h1]), h2, h3⟩
  have omap : ∀ {q : Option AV}, (q.map fun r => (r, st)) = some (av, st') → ∃ r, q = some r ∧ (av, st') = (r, st) := by
    intro q hq
    simp only [Option.map_eq_some_iff] at hq
    obtain ⟨r, h1, h2⟩ := hq
    exact ⟨r, h1, h2.symm⟩
  cases op with
  | move x => cases hb; exact ⟨_, w, S, vals, fps, cb, .inl (by simp [execOp]), h, hev x⟩
  | assign x => cases hb; exact ⟨_, w, S, vals, fps, cb, .inl (by simp [execOp]), h, hev x⟩
  | pick c x y =>
    simp only [evalOp] at hb
    split at hb
    · rename_i t ht
      cases hb
      have hc := hev c
      rw [ht] at hc
      obtain ⟨hc, _⟩ := sc_inv hc
      refine ⟨if t then a.eval x else a.eval y, w, S, vals, fps, cb, .inl (by simp [execOp, hc, asBool]), h, ?_⟩
      have hx := hev x
      have hy := hev y
      unfold pickA
      split
      · rename_i p q hp hq
        rw [hp] at hx
        rw [hq] at hy
        obtain ⟨hx, _⟩ := sc_inv hx
        obtain ⟨hy, _⟩ := sc_inv hy
        rw [hx, hy]
        cases t <;> exact .c (.sc rfl)
      · cases t
        · exact hy
        · exact hx
    · cases hb
  | alloc e => exact make1 (allocA_ok (P := P) h (hf rfl) hnl hb) fun w => by simp [execOp]
  | box e x => exact make1 (boxA_ok (P := P) h (hf rfl) hnl (hev x) hb) fun w => by simp [execOp]
  | build t parts =>
    obtain ⟨r, h1, h2⟩ := omap hb
    obtain ⟨u, h3, h4⟩ := buildA_ok (P := P) h h1
    exact pure1 h3 h4 h2 fun w => by simp [execOp]
  | buildSlice t len parts =>
    obtain ⟨u, w', vals', fps', h1, h2, h3⟩ := buildSliceA_ok (P := P) hZ0 h (hf rfl) hnl hb
    exact make1 ⟨u, w', vals', fps', cb, h1, h2, h3⟩ fun w => by simp [execOp]
  | load t x =>
    simp only [evalOp] at hb
    split at hb
    · rename_i ag n ht
      obtain ⟨r, h1, h2⟩ := omap hb
      obtain ⟨u, h3, h4⟩ := load_ok (P := P) h ht (hev x) h1
      exact pure1 h3 h4 h2 fun w => by simp [execOp]
    · cases hb
  | store t x y =>
    simp only [evalOp, Option.map_eq_some_iff, Prod.mk.injEq] at hb
    obtain ⟨s, h1, rfl, rfl⟩ := hb
    obtain ⟨w', vals', fps', h3, h4⟩ := storeA_ok (P := P) h (hev x) (hev y) h1
    refine ⟨undef, w', S, vals', fps', cb, .inr ⟨by simp [execOp, h3], rfl⟩, h4, ?_⟩
    exact RA.tup (xs := []) (vs := []) rfl (by simp)
  | nilCheck x =>
    simp only [evalOp] at hb
    have hx := hev x
    split at hb
    · rename_i p hp
      cases hb
      rw [hp] at hx
      generalize hu : a.eval x = u at hx
      cases hx with
      | ptr hl hxx => exact ⟨_, w, S, vals, fps, cb, .inl (by simp [execOp, hu]), h, .ptr hl hxx⟩
    · rename_i cs o hp
      cases hb
      rw [hp] at hx
      generalize hu : a.eval x = u at hx
      cases hx with
      | sptr h1 h2 h3 h4 => exact ⟨_, w, S, vals, fps, cb, .inl (by simp [execOp, hu]), h, .sptr h1 h2 h3 h4⟩
    · cases hb
  | binOp op t x y yt =>
    obtain ⟨r, h1, h2⟩ := omap hb
    obtain ⟨u, h3, h4⟩ := binA_ok (P := P) (ox := x) (oy := y) (hev x) (hev y) h1
    exact pure1 h3 h4 h2 fun w => by simp [execOp]
  | unOp op t x =>
    obtain ⟨r, h1, h2⟩ := omap hb
    obtain ⟨u, h3, h4⟩ := unA_ok (P := P) (hev x) h1
    exact pure1 h3 h4 h2 fun w => by simp [execOp]
  | convert src dst x =>
    obtain ⟨r, h1, h2⟩ := omap hb
    obtain ⟨u, h3, h4⟩ := convA_ok (P := P) hZ0 h (hev x) h1
    exact pure1 h3 h4 h2 fun w => by simp [execOp]
  | makeFunc fn first caps =>
    cases fn with
    | func f =>
      cases hb
      have h1 := RL_map (w := w) (S := S) (vals := vals) (st := st) (a := a) (es := st.rt) (ad := adr st.bx cb) first.toList hev
      have h2 := RL_map (w := w) (S := S) (vals := vals) (st := st) (a := a) (es := st.rt) (ad := adr st.bx cb) caps.toList hev
      refine ⟨.func (.func f) (first.toList.map a.eval).toArray (caps.toList.map a.eval).toArray, w, S, vals, fps, cb, .inl ?_, h, .fn h1.1 h2.1 h1.2 h2.2⟩
      simp only [execOp, Instr.makeFunc, Sem.run_bind, Sem.run_pure, Result.andThen_ok]
      congr 3 <;> (apply Array.toList_inj.1; simp)
    | _ => simp [evalOp] at hb
  | makeSlice t l c =>
    obtain ⟨u, w', vals', fps', h1, h2, h3⟩ := makeA_ok (P := P) hZ0 h (hf rfl) hnl (hev l) (hev c) hb
    exact make1 ⟨u, w', vals', fps', cb, h1, h2, h3⟩ fun w => by simp [execOp]
  | slice t x lo hi mx =>
    cases mx with
    | some m => simp [evalOp] at hb
    | none =>
      simp only [evalOp] at hb
      split at hb
      · rename_i hel
        obtain ⟨r, h1, h2⟩ := omap hb
        have hval : ∀ (q : Option Operand), ∃ f : AV → Value, (q.map (evA st)).map f = q.map a.eval ∧ ∀ y, q.map (evA st) = some y → RA Z w S st.rt vals (adr st.bx cb) y (f y) := by
          intro q
          cases q with
          | none => exact ⟨fun _ => undef, rfl, by simp⟩
          | some o => exact ⟨fun _ => a.eval o, rfl, fun y hy => by simp only [Option.map_some, Option.some.injEq] at hy; subst hy; exact hev o⟩
        obtain ⟨f, hf1, hf2⟩ := hval lo
        obtain ⟨g, hg1, hg2⟩ := hval hi
        obtain ⟨u, h3, h4⟩ := sliceA_ok (P := P) hZ0 h (elOk_spec hel) (hev x) hf2 hg2 h1
        rw [hf1, hg1] at h3
        exact pure1 h3 h4 h2 fun w => by simp [execOp]
      · cases hb
  | fieldAddr t x f =>
    obtain ⟨r, h1, h2⟩ := omap hb
    obtain ⟨u, h3, h4⟩ := fieldAddrA_ok (P := P) h (hev x) h1
    exact pure1 h3 h4 h2 fun w => by simp [execOp]
  | field t x f =>
    obtain ⟨r, h1, h2⟩ := omap hb
    obtain ⟨u, h3, h4⟩ := fieldA_ok (P := P) (hev x) h1
    exact pure1 h3 h4 h2 fun w => by simp [execOp]
  | indexAddr t x i =>
    simp only [evalOp] at hb
    split at hb
    · rename_i hel
      obtain ⟨r, h1, h2⟩ := omap hb
      obtain ⟨u, h3, h4⟩ := indexAddrA_ok (P := P) hZ0 h (elOk_spec hel) (hev x) (hev i) h1
      exact pure1 h3 h4 h2 fun w => by simp [execOp]
    · cases hb
  | index t x i =>
    obtain ⟨r, h1, h2⟩ := omap hb
    obtain ⟨u, h3, h4⟩ := indexA_ok (P := P) (hev x) (hev i) h1
    exact pure1 h3 h4 h2 fun w => by simp [execOp]
  | extract x i =>
    obtain ⟨r, h1, h2⟩ := omap hb
    obtain ⟨u, h3, h4⟩ := extractA_ok (P := P) (hev x) h1
    exact pure1 h3 h4 h2 fun w => by simp [execOp]
  | call c =>
    obtain ⟨callee, args, tys⟩ := c
    cases callee with
    | builtin b =>
      simp only [evalOp] at hb
      have hargs : ∀ (xs : List Operand), args.toList = xs → args = xs.toArray := fun xs hx => by rw [← hx]
      unfold builtinA at hb
      split at hb
      · rename_i x t hl ht
        obtain ⟨o1, ho1, rfl⟩ : ∃ o1, args.toList = [o1] ∧ evA st o1 = x := by
          cases hh : args.toList with
          | nil => rw [hh] at hl; cases hl
          | cons o1 r => rw [hh] at hl; simp only [List.map_cons, List.cons.injEq, List.map_eq_nil_iff] at hl; exact ⟨o1, by rw [hl.2], hl.1⟩
        simp only [Option.map_eq_some_iff] at hb
        obtain ⟨n, hn, he⟩ := hb
        cases he
        have h3 := lenA_ok (P := P) (ty := type) (hev o1) hn
        refine ⟨_, w, S, vals, fps, cb, .inl ?_, h, .c (.sc rfl)⟩
        have e1 := hargs _ ho1
        have e2 : tys = #[t] := by rw [← Array.toArray_toList (xs := tys), ht]
        subst e1; subst e2
        simp [execOp, resolve, invoke, builtin, h3]
      · rename_i s x t t' hl ht
        split at hb
        · rename_i htt
          subst htt
          obtain ⟨o1, o2, ho, rfl, rfl⟩ : ∃ o1 o2, args.toList = [o1, o2] ∧ evA st o1 = s ∧ evA st o2 = x := by
            cases hh : args.toList with
            | nil => rw [hh] at hl; cases hl
            | cons o1 r =>
              cases r with
              | nil => rw [hh] at hl; simp at hl
              | cons o2 r => rw [hh] at hl; simp only [List.map_cons, List.cons.injEq, List.map_eq_nil_iff] at hl; exact ⟨o1, o2, by rw [hl.2.2], hl.1, hl.2.1⟩
          obtain ⟨u, w', vals', fps', h1, h2, h3⟩ := appendA_ok (P := P) (ty := type) hZ0 h (hf rfl) hnl (hev o1) (hev o2) hb
          refine ⟨u, w', S, vals', fps', cb, .inl ?_, h2, h3⟩
          have e1 := hargs _ ho
          have e2 : tys = #[t, t] := by rw [← Array.toArray_toList (xs := tys), ht]
          subst e1; subst e2
          simp [execOp, resolve, invoke, builtin, h1]
        · cases hb
      · rename_i x y hl
        obtain ⟨o1, o2, ho, rfl, rfl⟩ : ∃ o1 o2, args.toList = [o1, o2] ∧ evA st o1 = x ∧ evA st o2 = y := by
          cases hh : args.toList with
          | nil => rw [hh] at hl; cases hl
          | cons o1 r =>
            cases r with
            | nil => rw [hh] at hl; simp at hl
            | cons o2 r => rw [hh] at hl; simp only [List.map_cons, List.cons.injEq, List.map_eq_nil_iff] at hl; exact ⟨o1, o2, by rw [hl.2.2], hl.1, hl.2.1⟩
        simp only [Option.map_eq_some_iff] at hb
        obtain ⟨r, hr, he⟩ := hb
        cases he
        have e1 := hargs _ ho
        subst e1
        unfold minA at hr
        split at hr
        · rename_i k p k' q hp hq
          cases hr
          have hx := hev o1
          have hy := hev o2
          rw [hp] at hx
          rw [hq] at hy
          obtain ⟨hx, _⟩ := sc_inv hx
          obtain ⟨hy, _⟩ := sc_inv hy
          refine ⟨.int k (if q < p then q else p), w, S, vals, fps, cb, .inl ?_, h, .c (.sc rfl)⟩
          have := run_min_int2 (P := P) (w := w) tys type k k' p q
          simp only [execOp, resolve, invoke, builtin, Sem.run_bind, Sem.run_pure, Result.andThen_ok, List.map_toArray, List.map_cons, List.map_nil, hx, hy, this]
        · cases hr
      · rename_i x y hl
        obtain ⟨o1, o2, ho, rfl, rfl⟩ : ∃ o1 o2, args.toList = [o1, o2] ∧ evA st o1 = x ∧ evA st o2 = y := by
          cases hh : args.toList with
          | nil => rw [hh] at hl; cases hl
          | cons o1 r =>
            cases r with
            | nil => rw [hh] at hl; simp at hl
            | cons o2 r => rw [hh] at hl; simp only [List.map_cons, List.cons.injEq, List.map_eq_nil_iff] at hl; exact ⟨o1, o2, by rw [hl.2.2], hl.1, hl.2.1⟩
        simp only [Option.map_eq_some_iff] at hb
        obtain ⟨r, hr, he⟩ := hb
        cases he
        have e1 := hargs _ ho
        subst e1
        unfold maxA at hr
        split at hr
        · rename_i k p k' q hp hq
          cases hr
          have hx := hev o1
          have hy := hev o2
          rw [hp] at hx
          rw [hq] at hy
          obtain ⟨hx, _⟩ := sc_inv hx
          obtain ⟨hy, _⟩ := sc_inv hy
          refine ⟨.int k (if p < q then q else p), w, S, vals, fps, cb, .inl ?_, h, .c (.sc rfl)⟩
          have := run_max_int2 (P := P) (w := w) tys type k k' p q
          simp only [execOp, resolve, invoke, builtin, Sem.run_bind, Sem.run_pure, Result.andThen_ok, List.map_toArray, List.map_cons, List.map_nil, hx, hy, this]
        · cases hr
      · rename_i x t hl ht
        obtain ⟨o1, ho1, rfl⟩ : ∃ o1, args.toList = [o1] ∧ evA st o1 = x := by
          cases hh : args.toList with
          | nil => rw [hh] at hl; cases hl
          | cons o1 r => rw [hh] at hl; simp only [List.map_cons, List.cons.injEq, List.map_eq_nil_iff] at hl; exact ⟨o1, by rw [hl.2], hl.1⟩
        obtain ⟨w', fps', h3, h4, rfl⟩ := clearA_ok (P := P) (ty := type) hZ0 h (hev o1) hb
        refine ⟨.tuple #[], w', S, vals, fps', cb, .inl ?_, h4, RA.tup (xs := []) (vs := []) rfl (by simp)⟩
        have e1 := hargs _ ho1
        have e2 : tys = #[t] := by rw [← Array.toArray_toList (xs := tys), ht]
        subst e1; subst e2
        simp [execOp, resolve, invoke, builtin, h3]
      · cases hb
    | value f => simp [evalOp] at hb
    | invoke r m => simp [evalOp] at hb
  | _ => simp [evalOp] at hb
end
end Go.Abs

/- Results: packed by the one who returns, unpacked by the one who called. -/
namespace Go.Abs
open Go
set_option linter.unusedVariables false
set_option linter.unusedSimpArgs false
variable {Z : TypeId → Nat}
/-- A packed value: what is owned stands in it; 'fp': its blocks. -/
inductive PK (Z : TypeId → Nat) (w : World) (S : Nat → Prop) : AV → Value → (Nat → Prop) → Prop
  | c {c v fp} (h : RC Z w S c v fp) : PK Z w S (.c c) v fp
  | nils : PK Z w S .nils (.slice none 0 0) (fun _ => False)
  | agg {xs : List AV} {vs : List Value} (fps : Nat → Nat → Prop) (hl : xs.length = vs.length) (h1 : ∀ v ∈ vs, v.oneCell' = true) (h : ∀ (i : Nat) x v, xs[i]? = some x → vs[i]? = some v → PK Z w S x v (fps i))
      (hout : ∀ i, xs.length ≤ i → ∀ k, ¬ fps i k) (hd : ∀ i j k, fps i k → fps j k → i = j) : PK Z w S (.agg xs) (.agg vs.toArray) (fun k => ∃ i, fps i k)
  | tup {xs : List AV} {vs : List Value} (fps : Nat → Nat → Prop) (hl : xs.length = vs.length) (h : ∀ (i : Nat) x v, xs[i]? = some x → vs[i]? = some v → PK Z w S x v (fps i))
      (hout : ∀ i, xs.length ≤ i → ∀ k, ¬ fps i k) (hd : ∀ i j k, fps i k → fps j k → i = j) : PK Z w S (.tup xs) (.tuple vs.toArray) (fun k => ∃ i, fps i k)
/-- A call's result: a packed value, or a pointer to a new block. -/
inductive PR (Z : TypeId → Nat) (w : World) (S : Nat → Prop) : AV → Value → (Nat → Prop) → Prop
  | pk {y v fp} (h : PK Z w S y v fp) : PR Z w S y v fp
  | nb {cells : List Cell} {g : Nat} {arr : Array Value} {ty : TypeId} (fps : Nat → Nat → Prop) (hb : w.heap[g]? = some (.cells arr ty (0, 0))) (hsz : arr.size = cells.length) (hS : ¬ S g)
      (h : ∀ (i : Nat) c v, cells[i]? = some c → arr[i]? = some v → RC Z w S c v (fps i)) (hout : ∀ i, cells.length ≤ i → ∀ k, ¬ fps i k) (hd : ∀ i j k, fps i k → fps j k → i = j) (hg : ∀ i, ¬ fps i g) :
      PR Z w S (.nb cells) (.pointer (some ⟨g, 0, none⟩)) (fun k => k = g ∨ ∃ i, fps i k)
section
variable {E : Ent} {st : St} {a : Act} {w w' : World} {S : Nat → Prop} {vals : Nat → Nat → Value} {fps : Nat → Nat → Nat → Prop} {cb : Nat → Nat}
/-- One slot's value, packed: what it owned is taken from its place (that path). -/
def packLeaf (st : St) : AV → Option (St × AV × Path)
  | .c (.sc v) => some (st, .c (.sc v), [])
  | .c (.row false e es) => some (st, .c (.row false e es), [])
  | .nils => some (st, .nils, [])
  | .bor q lo len => match look st.rt q with
    | some (.row true e es) => if lo = 0 then some (st.setAt q .hole, .c (.row true e (es.take len)), q) else none
    | _ => none
  | _ => none
theorem packLeaf_ok (h : Inv Z E st a w S vals fps cb) {av av' : AV} {v : Value} {st' : St} {q : Path} (ha : RA Z w S st.rt vals (adr st.bx cb) av v) (hb : packLeaf st av = some (st', av', q)) :
    ∃ fps' fp, Abd Z E st st' a w S vals fps fps' cb (kill q) ∧ PK Z w S av' v fp ∧ v.oneCell' = true ∧ Flt E st' fps' cb fp ∧ (∀ k, fp k → ∃ r c, fps r c k) := by
  have A0 : Abd Z E st st a w S vals fps fps cb (kill []) := ⟨h, fun _ _ _ => id, rfl, fun av v h => by rw [kill_nil]; exact h⟩
  have F0 : Flt E st fps cb (fun _ => False) := ⟨fun _ h => h.elim, fun _ h => h.elim, fun _ h => h.elim⟩
  cases ha with
  | @c c0 v hc =>
    cases c0 with
    | sc u => simp only [packLeaf, Option.some.injEq, Prod.mk.injEq] at hb; obtain ⟨rfl, rfl, rfl⟩ := hb; exact ⟨fps, _, A0, .c hc, hc.one, F0, fun _ h => h.elim⟩
    | hole => simp [packLeaf] at hb
    | row o e' es =>
      cases o with
      | true => simp [packLeaf] at hb
      | false => simp only [packLeaf, Option.some.injEq, Prod.mk.injEq] at hb; obtain ⟨rfl, rfl, rfl⟩ := hb; exact ⟨fps, _, A0, .c hc, hc.one, F0, fun _ h => h.elim⟩
  | nils =>
    simp only [packLeaf, Option.some.injEq, Prod.mk.injEq] at hb
    obtain ⟨rfl, rfl, rfl⟩ := hb
    exact ⟨fps, _, A0, .nils, rfl, F0, fun _ h => h.elim⟩
  | @bor q2 e2 es sz lo len v hl hsz hlen hs =>
    simp only [packLeaf, hl] at hb
    split at hb
    · rename_i hlo
      subst hlo
      simp only [Option.some.injEq, Prod.mk.injEq] at hb
      obtain ⟨rfl, rfl, rfl⟩ := hb
      obtain ⟨fps', fpc, h1, h2, h3, h4, h5, h6⟩ := h.take hl
      obtain ⟨fp', h7, h8⟩ := h2.take (by omega) hs
      exact ⟨fps', fp', ⟨h1, h4, rfl, fun av v hav => h6 av v hav⟩, .c h7, h7.one, h3.mono h8 (fun _ _ _ => id) rfl, fun k hk => h5 k (h8 k hk)⟩
    · cases hb
  | ptr _ _ => simp [packLeaf] at hb
  | sptr _ _ _ _ => simp [packLeaf] at hb
  | agg _ _ _ => simp [packLeaf] at hb
  | tup _ _ => simp [packLeaf] at hb
  | fn _ _ _ _ => simp [packLeaf] at hb
  | dead => simp [packLeaf] at hb
/-- Values one behind the other, by a packing 'pk' of one of them. -/
def packL (pk : St → AV → Option (St × AV × (AV → AV))) : St → (AV → AV) → List AV → Option (St × List AV × (AV → AV))
  | st, tr, [] => some (st, [], tr)
  | st, tr, x :: xs => match pk st (tr x) with
    | some (st1, y, t1) => match packL pk st1 (fun z => t1 (tr z)) xs with
      | some (st2, ys, t2) => some (st2, y :: ys, t2)
      | none => none
    | none => none
def pack1 (st : St) (x : AV) : Option (St × AV × (AV → AV)) := (packLeaf st x).map fun r => (r.1, r.2.1, trq r.2.2 id)
def pack2 (st : St) (x : AV) : Option (St × AV × (AV → AV)) :=
  match x with
  | .agg xs => match packL pack1 st id xs with
    | some (st', ys, tr) => some (st', .agg ys, tr)
    | none => none
  | x => pack1 st x
def pack3 (st : St) (x : AV) : Option (St × AV × (AV → AV)) :=
  match x with
  | .tup xs => match packL pack2 st id xs with
    | some (st', ys, tr) => some (st', .tup ys, tr)
    | none => none
  | x => pack2 st x
/-- What a packing of one value does. -/
def PkOk (Z : TypeId → Nat) (E : Ent) (a : Act) (w : World) (S : Nat → Prop) (vals : Nat → Nat → Value) (cb : Nat → Nat) (one : Bool) (pk : St → AV → Option (St × AV × (AV → AV))) : Prop :=
  ∀ (st st' : St) (fps : Nat → Nat → Nat → Prop) (x y : AV) (v : Value) (t : AV → AV), Inv Z E st a w S vals fps cb → RA Z w S st.rt vals (adr st.bx cb) x v → pk st x = some (st', y, t) →
    ∃ fps' fp, Abd Z E st st' a w S vals fps fps' cb t ∧ PK Z w S y v fp ∧ (one = true → v.oneCell' = true) ∧ Flt E st' fps' cb fp ∧ (∀ k, fp k → ∃ r c, fps r c k)
theorem pack1_ok : PkOk Z E a w S vals cb true pack1 := by
  intro st st' fps x y v t h hx hb
  simp only [pack1, Option.map_eq_some_iff, Prod.mk.injEq] at hb
  obtain ⟨⟨s, y', q⟩, hl, rfl, rfl, rfl⟩ := hb
  obtain ⟨fps', fp, A, h1, h2, h3, h4⟩ := packLeaf_ok h hx hl
  refine ⟨fps', fp, ⟨A.inv, A.sub, A.bx, fun av u hav => ?_⟩, h1, fun _ => h2, h3, h4⟩
  rw [trq_eq]; exact A.tr av u hav
theorem packL_ok {one : Bool} {pk : St → AV → Option (St × AV × (AV → AV))} (hpk : PkOk Z E a w S vals cb one pk) : ∀ (xs : List AV) (st st' : St) (tr0 tr : AV → AV) (vs : List Value) (fps : Nat → Nat → Nat → Prop) (ys : List AV), Inv Z E st a w S vals fps cb → xs.length = vs.length →
    (∀ (i : Nat) x v, xs[i]? = some x → vs[i]? = some v → RA Z w S st.rt vals (adr st.bx cb) (tr0 x) v) → packL pk st tr0 xs = some (st', ys, tr) →
    ∃ (fps' : Nat → Nat → Nat → Prop) (fp : Nat → Nat → Prop) (t1 : AV → AV), Abd Z E st st' a w S vals fps fps' cb t1 ∧ (∀ x, tr x = t1 (tr0 x)) ∧ ys.length = xs.length ∧ (∀ (i : Nat) y v, ys[i]? = some y → vs[i]? = some v → PK Z w S y v (fp i) ∧ (one = true → v.oneCell' = true)) ∧ (∀ i, ys.length ≤ i → ∀ k, ¬ fp i k) ∧
      (∀ i j k, fp i k → fp j k → i = j) ∧ (∀ i, Flt E st' fps' cb (fp i)) ∧ (∀ i k, fp i k → ∃ r c, fps r c k)
  | [], st, st', tr0, tr, vs, fps, ys, h, hln, _, hb => by
    simp only [packL, Option.some.injEq, Prod.mk.injEq] at hb
    obtain ⟨rfl, rfl, rfl⟩ := hb
    exact ⟨fps, fun _ _ => False, id, ⟨h, fun _ _ _ => id, rfl, fun av v h => h⟩, fun _ => rfl, rfl, by simp, fun _ _ _ h => h, fun _ _ _ h => h.elim, fun _ => ⟨fun _ h => h.elim, fun _ h => h.elim, fun _ h => h.elim⟩, fun _ _ h => h.elim⟩
  | x :: xs, st, st', tr0, tr, [], fps, ys, h, hln, _, hb => by simp at hln
  | x :: xs, st, st', tr0, tr, v :: vs, fps, ys, h, hln, hra, hb => by
    simp only [packL] at hb
    split at hb
    · rename_i st1 y t1 h1
      split at hb
      · rename_i st2 ys2 t2 h2
        simp only [Option.some.injEq, Prod.mk.injEq] at hb
        obtain ⟨rfl, rfl, rfl⟩ := hb
        obtain ⟨fps1, fp1, A1, c1, g1, f1, s1⟩ := hpk st st1 fps _ y v t1 h (hra 0 x v rfl rfl) h1
        obtain ⟨fps2, fp2, u2, A2, e2, n2, c2, o2, d2, f2, s2⟩ := packL_ok hpk xs st1 st2 (fun z => t1 (tr0 z)) t2 vs fps1 ys2 A1.inv (by simpa using hln) (fun i z u hz hu => A1.tr _ u (hra (i + 1) z u (by simpa using hz) (by simpa using hu))) h2
        refine ⟨fps2, fun i k => match i with | 0 => fp1 k | i + 1 => fp2 i k, fun av => u2 (t1 av), ⟨A2.inv, fun r c k hk => A1.sub r c k (A2.sub r c k hk), A2.bx.trans A1.bx, fun av u hav => A2.tr _ u (A1.tr av u hav)⟩, fun z => e2 z, by simp [n2], fun i z u hz hu => ?_, fun i hi k => ?_, fun i j k hi hj => ?_, fun i => ?_, fun i k hk => ?_⟩
        · cases i with
          | zero => simp only [List.getElem?_cons_zero, Option.some.injEq] at hz hu; subst hz; subst hu; exact ⟨c1, g1⟩
          | succ i => simp only [List.getElem?_cons_succ] at hz hu; exact c2 i z u hz hu
        · cases i with
          | zero => simp at hi
          | succ i => exact o2 i (by simp at hi; omega) k
        · cases i with
          | zero =>
            cases j with
            | zero => rfl
            | succ j => obtain ⟨r, c, hk⟩ := s2 j k hj; exact absurd hk (f1.no k hi r c)
          | succ i =>
            cases j with
            | zero => obtain ⟨r, c, hk⟩ := s2 i k hi; exact absurd hk (f1.no k hj r c)
            | succ j => rw [d2 i j k hi hj]
        · cases i with
          | zero => exact f1.mono (fun _ => id) A2.sub A2.bx
          | succ i => exact f2 i
        · cases i with
          | zero => exact s1 k hk
          | succ i => obtain ⟨r, c, hk⟩ := s2 i k hk; exact ⟨r, c, A1.sub r c k hk⟩
      · cases hb
    · cases hb
theorem Flt.ex {fp : Nat → Nat → Prop} (h : ∀ i, Flt E st fps cb (fp i)) : Flt E st fps cb (fun k => ∃ i, fp i k) :=
  ⟨fun k ⟨i, hk⟩ => (h i).no k hk, fun k ⟨i, hk⟩ => (h i).nb k hk, fun k ⟨i, hk⟩ => (h i).own k hk⟩
theorem pack2_ok : PkOk Z E a w S vals cb false pack2 := by
  intro st st' fps x y v t h hx hb
  unfold pack2 at hb
  split at hb
  · rename_i xs
    split at hb
    · rename_i st2 ys tr h2
      simp only [Option.some.injEq, Prod.mk.injEq] at hb
      obtain ⟨rfl, rfl, rfl⟩ := hb
      cases hx with
      | @agg _ vs hln h1 hra =>
        obtain ⟨fps', fp, t1, A, e1, n1, c1, o1, d1, f1, s1⟩ := packL_ok pack1_ok xs st st2 id tr vs fps ys h hln hra h2
        refine ⟨fps', _, ⟨A.inv, A.sub, A.bx, fun av u hav => ?_⟩, .agg fp (by omega) h1 (fun i y v hy hv => (c1 i y v hy hv).1) o1 d1, (fun h => by cases h), Flt.ex f1, fun k ⟨i, hk⟩ => s1 i k hk⟩
        rw [e1]; exact A.tr av u hav
    · cases hb
  · obtain ⟨fps', fp, A, h1, h2, h3, h4⟩ := pack1_ok st st' fps x y v t h hx hb
    exact ⟨fps', fp, A, h1, (fun h => by cases h), h3, h4⟩
theorem pack3_ok : PkOk Z E a w S vals cb false pack3 := by
  intro st st' fps x y v t h hx hb
  unfold pack3 at hb
  split at hb
  · rename_i xs
    split at hb
    · rename_i st2 ys tr h2
      simp only [Option.some.injEq, Prod.mk.injEq] at hb
      obtain ⟨rfl, rfl, rfl⟩ := hb
      cases hx with
      | @tup _ vs hln hra =>
        obtain ⟨fps', fp, t1, A, e1, n1, c1, o1, d1, f1, s1⟩ := packL_ok pack2_ok xs st st2 id tr vs fps ys h hln hra h2
        refine ⟨fps', _, ⟨A.inv, A.sub, A.bx, fun av u hav => ?_⟩, .tup fp (by omega) (fun i y v hy hv => (c1 i y v hy hv).1) o1 d1, (fun h => by cases h), Flt.ex f1, fun k ⟨i, hk⟩ => s1 i k hk⟩
        rw [e1]; exact A.tr av u hav
    · cases hb
  · exact pack2_ok st st' fps x y v t h hx hb
/-! ### Unpacking -/
mutual
/-- A packed value in slots: what it owns stands in root 'nid' from cell j on. -/
def unp (nid : Nat) : Nat → AV → AV × List Cell
  | j, .c (.row true e es) => (.bor [(nid, j)] 0 es.length, [.row true e es])
  | j, .agg xs => let r := unpL nid j xs; (.agg r.1, r.2)
  | j, .tup xs => let r := unpL nid j xs; (.tup r.1, r.2)
  | _, x => (x, [])
def unpL (nid : Nat) : Nat → List AV → List AV × List Cell
  | _, [] => ([], [])
  | j, x :: xs => let r := unp nid j x; let s := unpL nid (j + r.2.length) xs; (r.1 :: s.1, r.2 ++ s.2)
end
/-- The owned parts of a packed value, and what slots hold where they stand in a root. -/
def UnpOk (Z : TypeId → Nat) (w : World) (S : Nat → Prop) (nid j : Nat) (y : AV) (v : Value) (fp : Nat → Prop) : Prop :=
  ∃ (us : List Value) (fq : Nat → Nat → Prop), us.length = (unp nid j y).2.length ∧ (∀ (i : Nat) c u, (unp nid j y).2[i]? = some c → us[i]? = some u → RC Z w S c u (fq i)) ∧ (∀ i, us.length ≤ i → ∀ k, ¬ fq i k) ∧ (∀ i i' k, fq i k → fq i' k → i = i') ∧ (∀ i k, fq i k → fp k) ∧
    ∀ (es : Rows) (vals : Nat → Nat → Value) (ad : Nat → Nat → Option Addr), (∀ (i : Nat) c, (unp nid j y).2[i]? = some c → cellAt es nid (j + i) = some c) → (∀ (i : Nat) u, us[i]? = some u → vals nid (j + i) = u) → RA Z w S es vals ad (unp nid j y).1 v
theorem unpL_ok {nid : Nat} : ∀ (xs : List AV) (vs : List Value) (j : Nat) (fps : Nat → Nat → Prop), xs.length = vs.length → (∀ (i : Nat) x v, xs[i]? = some x → vs[i]? = some v → ∀ j, UnpOk Z w S nid j x v (fps i)) → (∀ i i' k, fps i k → fps i' k → i = i') →
    ∃ (us : List Value) (fq : Nat → Nat → Prop), us.length = (unpL nid j xs).2.length ∧ (unpL nid j xs).1.length = xs.length ∧ (∀ (i : Nat) c u, (unpL nid j xs).2[i]? = some c → us[i]? = some u → RC Z w S c u (fq i)) ∧ (∀ i, us.length ≤ i → ∀ k, ¬ fq i k) ∧ (∀ i i' k, fq i k → fq i' k → i = i') ∧ (∀ i k, fq i k → ∃ i, fps i k) ∧
      ∀ (es : Rows) (vals : Nat → Nat → Value) (ad : Nat → Nat → Option Addr), (∀ (i : Nat) c, (unpL nid j xs).2[i]? = some c → cellAt es nid (j + i) = some c) → (∀ (i : Nat) u, us[i]? = some u → vals nid (j + i) = u) →
        ∀ (i : Nat) x v, (unpL nid j xs).1[i]? = some x → vs[i]? = some v → RA Z w S es vals ad x v
  | [], vs, j, fps, hl, _, _ => ⟨[], fun _ _ => False, rfl, rfl, by simp [unpL], fun _ _ _ h => h, fun _ _ _ h => h.elim, fun _ _ h => h.elim, fun es vals ad _ _ i x v hx => by simp [unpL] at hx⟩
  | x :: xs, [], j, fps, hl, _, _ => by simp at hl
  | x :: xs, v :: vs, j, fps, hl, h, hd => by
    obtain ⟨u1, q1, a1, b1, c1, d1, e1, f1⟩ := h 0 x v rfl rfl j
    obtain ⟨u2, q2, a2, l2, b2, c2, d2, e2, f2⟩ := unpL_ok xs vs (j + (unp nid j x).2.length) (fun i => fps (i + 1)) (by simpa using hl) (fun i y u hy hu => h (i + 1) y u (by simpa using hy) (by simpa using hu)) (fun i i' k hi hi' => by have := hd _ _ _ hi hi'; omega)
    have hsplit : ∀ (i : Nat), ¬ i < u1.length → (u1 ++ u2)[i]? = u2[i - u1.length]? := fun i hi => List.getElem?_append_right (by omega)
    refine ⟨u1 ++ u2, fun i k => if i < u1.length then q1 i k else q2 (i - u1.length) k, by simp only [unpL, List.length_append, a1, a2], by simp only [unpL, List.length_cons, l2], fun i c u hc hu => ?_, fun i hi k hk => ?_, fun i i' k hi hi' => ?_, fun i k hk => ?_, fun es vals ad hc hv i y u hy hu => ?_⟩
    · simp only [unpL] at hc
      by_cases hi : i < u1.length
      · rw [List.getElem?_append_left hi] at hu
        rw [List.getElem?_append_left (by omega)] at hc
        simp only [hi, if_true]
        exact b1 i c u hc hu
      · rw [hsplit i hi] at hu
        rw [List.getElem?_append_right (by omega)] at hc
        simp only [hi, if_false]
        exact b2 _ c u (by rw [a1]; exact hc) hu
    · rw [List.length_append] at hi
      have h1 : ¬ i < u1.length := by omega
      simp only [h1, if_false] at hk
      exact c2 _ (by omega) k hk
    · by_cases h1 : i < u1.length
      · by_cases h2 : i' < u1.length
        · simp only [h1, if_true] at hi
          simp only [h2, if_true] at hi'
          exact d1 _ _ _ hi hi'
        · simp only [h1, if_true] at hi
          simp only [h2, if_false] at hi'
          obtain ⟨m, hm⟩ := e2 _ _ hi'
          have := hd _ _ _ (e1 _ _ hi) hm
          omega
      · by_cases h2 : i' < u1.length
        · simp only [h1, if_false] at hi
          simp only [h2, if_true] at hi'
          obtain ⟨m, hm⟩ := e2 _ _ hi
          have := hd _ _ _ (e1 _ _ hi') hm
          omega
        · simp only [h1, if_false] at hi
          simp only [h2, if_false] at hi'
          have := d2 _ _ _ hi hi'
          omega
    · by_cases h1 : i < u1.length
      · simp only [h1, if_true] at hk; exact ⟨0, e1 _ _ hk⟩
      · simp only [h1, if_false] at hk
        obtain ⟨m, hm⟩ := e2 _ _ hk
        exact ⟨m + 1, hm⟩
    · simp only [unpL] at hc hy
      cases i with
      | zero =>
        simp only [List.getElem?_cons_zero, Option.some.injEq] at hy hu
        subst hy; subst hu
        refine f1 es vals ad (fun i c hci => hc i c ?_) fun i u hui => hv i u ?_
        · rw [List.getElem?_append_left (List.getElem?_eq_some_iff.1 hci).1]; exact hci
        · rw [List.getElem?_append_left (List.getElem?_eq_some_iff.1 hui).1]; exact hui
      | succ i =>
        simp only [List.getElem?_cons_succ] at hy hu
        refine f2 es vals ad (fun i c hci => ?_) (fun i u hui => ?_) i y u hy hu
        · have := hc ((unp nid j x).2.length + i) c (by rw [List.getElem?_append_right (by omega)]; simpa using hci)
          rwa [← Nat.add_assoc] at this
        · have := hv (u1.length + i) u (by rw [List.getElem?_append_right (by omega)]; simpa using hui)
          rw [a1, ← Nat.add_assoc] at this
          exact this
theorem unp_ok {nid : Nat} {y : AV} {v : Value} {fp : Nat → Prop} (h : PK Z w S y v fp) : ∀ j, UnpOk Z w S nid j y v fp := by
  have triv : ∀ {y : AV} {v : Value} {fp : Nat → Prop}, (∀ j, unp nid j y = (y, [])) → (∀ (es : Rows) (vals : Nat → Nat → Value) (ad : Nat → Nat → Option Addr), RA Z w S es vals ad y v) → ∀ j, UnpOk Z w S nid j y v fp := by
    intro y v fp hy hra j
    refine ⟨[], fun _ _ => False, by rw [hy]; rfl, by rw [hy]; simp, fun _ _ _ h => h, fun _ _ _ h => h.elim, fun _ _ h => h.elim, fun es vals ad _ _ => ?_⟩
    rw [hy]; exact hra es vals ad
  induction h with
  | @c c v fp hc =>
    cases c with
    | sc u => cases hc with | sc hs => exact triv (fun j => by simp [unp]) fun _ _ _ => .c (.sc hs)
    | hole => cases hc with | hole hs => exact triv (fun j => by simp [unp]) fun _ _ _ => .c (.hole hs)
    | row o e es =>
      cases o with
      | false => cases hc with | shr sz hz xs hs hsz hr => exact triv (fun j => by simp [unp]) fun _ _ _ => .c (.shr sz hz xs hs hsz hr)
      | true =>
        intro j
        refine ⟨[v], fun i k => i = 0 ∧ fp k, by simp [unp], fun i c u hcc hu => ?_, fun i hi k hk => ?_, fun i i' k h1 h2 => by rw [h1.1, h2.1], fun i k hk => hk.2, fun es' vals ad hce hve => ?_⟩
        · simp only [unp] at hcc
          cases i with
          | zero =>
            simp only [List.getElem?_cons_zero, Option.some.injEq] at hcc hu
            subst hcc; subst hu
            have : (fun (i k : Nat) => i = 0 ∧ fp k) 0 = fp := by funext k; simp
            rw [this]; exact hc
          | succ i => simp at hcc
        · simp at hi; have := hk.1; omega
        · simp only [unp] at hce ⊢
          have h1 := hce 0 _ rfl
          have h2 := hve 0 v rfl
          obtain ⟨sz, xs, fps', ho, hsz, _⟩ := own_inner hc
          refine .bor (sz := sz) (by rw [look_one]; simpa using h1) hsz (by omega) ?_
          simp only [plc_one]
          simp only [Nat.add_zero] at h2
          rw [h2]
          exact sub_full ho
  | nils => exact triv (fun j => by simp [unp]) fun _ _ _ => .nils
  | @agg xs vs fps hl h1 h hout hd ih =>
    intro j
    obtain ⟨us, fq, a1, l1, b1, c1, d1, e1, f1⟩ := unpL_ok xs vs j fps hl ih hd
    refine ⟨us, fq, by simp only [unp]; exact a1, by simp only [unp]; exact b1, c1, d1, e1, fun es vals ad hc hv => ?_⟩
    simp only [unp] at hc ⊢
    exact .agg (by rw [l1]; exact hl) h1 (f1 es vals ad hc hv)
  | @tup xs vs fps hl h hout hd ih =>
    intro j
    obtain ⟨us, fq, a1, l1, b1, c1, d1, e1, f1⟩ := unpL_ok xs vs j fps hl ih hd
    refine ⟨us, fq, by simp only [unp]; exact a1, by simp only [unp]; exact b1, c1, d1, e1, fun es vals ad hc hv => ?_⟩
    simp only [unp] at hc ⊢
    exact .tup (by rw [l1]; exact hl) (f1 es vals ad hc hv)
/-- A result goes into a root. -/
def unpR (st : St) (nid : Nat) (y : AV) : AV × St :=
  match y with
  | .nb cells => (.ptr [(nid, 0)], st.fill nid cells true)
  | y => ((unp nid 0 y).1, st.fill nid (unp nid 0 y).2 false)
end
end Go.Abs

/- A result in the caller's state; what a state keeps when all but the lent roots is forgotten. -/
namespace Go.Abs
open Go
set_option linter.unusedVariables false
set_option linter.unusedSimpArgs false
variable {Z : TypeId → Nat}
section
variable {E : Ent} {st : St} {a : Act} {w w' : World} {S : Nat → Prop} {vals : Nat → Nat → Value} {fps : Nat → Nat → Nat → Prop} {cb : Nat → Nat}
/-- A block in hand becomes a root. -/
theorem Inv.adopt (h : Inv Z E st a w S vals fps cb) {r : Nat} (hfree : st.free r) (hnl : E.nl ≤ r) {cells : List Cell} {g : Nat} {arr : Array Value} {ty : TypeId} {fp : Nat → Nat → Prop} (hb : w.heap[g]? = some (.cells arr ty (0, 0))) (hsz : arr.size = cells.length) (hS : ¬ S g)
    (hrc : ∀ (i : Nat) c v, cells[i]? = some c → arr[i]? = some v → RC Z w S c v (fp i)) (hout : ∀ i, cells.length ≤ i → ∀ k, ¬ fp i k) (hdj : ∀ i j k, fp i k → fp j k → i = j) (hg : ∀ i, ¬ fp i g)
    (hflt : Flt E st fps cb (fun k => k = g ∨ ∃ i, fp i k)) :
    ∃ vals' fps' cb', Inv Z E (st.fill r cells true) a w S vals' fps' cb' ∧ (0 < cells.length → RA Z w S (st.fill r cells true).rt vals' (adr (st.fill r cells true).bx cb') (.ptr [(r, 0)]) (.pointer (some ⟨g, 0, none⟩))) := by
  have hf1 : ∀ i, Flt E st fps cb (fp i) := fun i => hflt.mono (fun k hk => .inr ⟨i, hk⟩) (fun _ _ _ => id) rfl
  have hrc2 : ∀ (c : Nat) cell, cells[c]? = some cell → RC Z w S cell (arr.getD c undef) (fp c) := by
    intro c cell hc
    have hlt : c < arr.size := by rw [hsz]; exact (List.getElem?_eq_some_iff.1 hc).1
    have hv : arr[c]? = some (arr.getD c undef) := by simp [hlt]
    exact hrc c cell _ hc hv
  have h3 := h.fill hfree hnl cells (fun c => arr.getD c undef) fp hrc2 hout hdj hf1
  have hr : r < st.rt.length := (List.getElem?_eq_some_iff.1 hfree.1).1
  have hrb : r < st.bx.length := by rw [h.bxn]; exact hr
  have hbx3 : ∀ i, i ≠ r → (st.bx.set r true).getD i false = st.bx.getD i false := fun i hi => by rw [getD_set_bx hrb, if_neg hi]
  have hbx4 : ∀ i, i ≠ r → (st.bx.set r false).getD i false = st.bx.getD i false := fun i hi => by rw [getD_set_bx hrb, if_neg hi]
  refine ⟨_, _, (fun i => if i = r then g else cb i), ⟨h3.dfr, h3.nt, h3.fr, h3.s0, h3.slt, h3.slf, h3.sn, h3.rr, h3.own, fun i cs hb2 hi => ?_, fun i hb2 => ?_, by simp [St.fill, h.bxn], fun i hb2 => ?_, fun i i' hb2 hb' e => ?_, fun t => ?_, h3.lnl, fun i hi => ?_⟩, fun hpos => ?_⟩
  · by_cases hir : i = r
    · subst hir
      simp only [St.fill, List.getElem?_set, hr, if_true, Option.some.injEq] at hi
      subst hi
      refine ⟨arr, ty, by simp only [if_true]; exact hb, hsz, fun c v hv => ?_⟩
      simp [hv]
    · simp only [St.fill] at hb2
      rw [hbx3 i hir] at hb2
      simp only [hir, if_false]
      have := h3.box i cs (by simp only [St.fill]; rw [hbx4 i hir]; exact hb2) hi
      simpa only [hir, if_false] using this
  · by_cases hir : i = r
    · subst hir; simp only [St.fill, List.length_set]; exact hr
    · simp only [St.fill] at hb2; rw [hbx3 i hir] at hb2
      simp only [St.fill, List.length_set]; exact h.bxl i hb2
  · by_cases hir : i = r
    · subst hir
      simp only [if_true]
      refine ⟨hS, fun r' c hk => ?_, hflt.own g (.inl rfl)⟩
      split at hk
      · exact hg c hk
      · exact hflt.no g (.inl rfl) r' c hk
    · simp only [St.fill] at hb2
      rw [hbx3 i hir] at hb2
      simp only [hir, if_false]
      exact h3.bxS i (by simp only [St.fill]; rw [hbx4 i hir]; exact hb2)
  · simp only [St.fill] at hb2 hb'
    by_cases hir : i = r
    · by_cases hir' : i' = r
      · exact hir.trans hir'.symm
      · rw [hbx3 i' hir'] at hb'
        simp only [hir, hir', if_true, if_false] at e
        exact absurd e.symm (hflt.nb g (.inl rfl) i' hb')
    · rw [hbx3 i hir] at hb2
      by_cases hir' : i' = r
      · simp only [hir, hir', if_true, if_false] at e
        exact absurd e (hflt.nb g (.inl rfl) i hb2)
      · rw [hbx3 i' hir'] at hb'
        simp only [hir, hir', if_false] at e
        exact h.bxd i i' hb2 hb' e
  · refine (h.sl t).roots fun i c x hx => ?_
    have hi : i ≠ r := by rintro rfl; rw [cellAt_free hfree] at hx; cases hx
    simp only [St.fill]
    refine ⟨by rw [cellAt_set _ _ _ hr, if_neg hi]; exact hx, by simp only [hi, if_false], ?_⟩
    unfold adr; rw [hbx3 i hi]; simp only [hi, if_false]
  · have hir : i ≠ r := by omega
    have := h3.lent i hi
    simp only [St.fill, hbx4 i hir] at this
    simp only [St.fill, hbx3 i hir, hir, if_false] at this ⊢
    exact this
  · refine .ptr (cell := cells[0]) ?_ ?_
    · rw [look_one, St.fill, cellAt_set _ _ _ hr, if_pos rfl]; exact List.getElem?_eq_getElem hpos
    · simp only [plc_one, adr, St.fill]
      rw [getD_set_bx hrb, if_pos rfl]
      simp
def okRes : AV → Bool
  | .nb [] => false
  | _ => true
theorem unpR_ok (h : Inv Z E st a w S vals fps cb) {nid : Nat} (hf : st.free nid) (hnl : E.nl ≤ nid) {y : AV} {v : Value} {fp : Nat → Prop} (hy : PR Z w S y v fp) (hok : okRes y = true) (hflt : Flt E st fps cb fp) :
    ∃ vals' fps' cb', Inv Z E (unpR st nid y).2 a w S vals' fps' cb' ∧ RA Z w S (unpR st nid y).2.rt vals' (adr (unpR st nid y).2.bx cb') (unpR st nid y).1 v := by
  cases hy with
  | pk hp =>
    have hne : unpR st nid y = ((unp nid 0 y).1, st.fill nid (unp nid 0 y).2 false) := by
      unfold unpR
      split
      · cases hp
      · rfl
    rw [hne]
    obtain ⟨us, fq, a1, b1, c1, d1, e1, f1⟩ := unp_ok (nid := nid) hp 0
    have hr : nid < st.rt.length := (List.getElem?_eq_some_iff.1 hf.1).1
    have h2 := h.fill hf hnl (unp nid 0 y).2 (fun c => us.getD c undef) fq (fun c cell hc => by
      have hlt : c < us.length := by rw [a1]; exact (List.getElem?_eq_some_iff.1 hc).1
      exact b1 c cell _ hc (by simp [hlt])) (fun c hc k => c1 c (by omega) k) d1 fun c => hflt.mono (e1 c) (fun _ _ _ => id) rfl
    refine ⟨_, _, cb, h2, f1 _ _ _ (fun i c hc => ?_) fun i u hu => ?_⟩
    · rw [St.fill, cellAt_set _ _ _ hr, if_pos rfl, Nat.zero_add]; exact hc
    · simp only [if_true, Nat.zero_add]; simp [hu]
  | @nb cells g arr ty fps2 hb hsz hS hrc hout hd hg =>
    obtain ⟨vals', fps', cb', h1, h2⟩ := h.adopt hf hnl hb hsz hS hrc hout hd hg hflt
    refine ⟨vals', fps', cb', h1, h2 ?_⟩
    cases cells with
    | nil => simp [okRes] at hok
    | cons c cs => simp
/-- All but the lent roots is forgotten. -/
def St.lentPart (st : St) (nl : Nat) : St := ⟨0, [], st.rt.take nl, st.bx.take nl⟩
theorem getD_take_bx (l : List Bool) (n i : Nat) : (l.take n).getD i false = if i < n then l.getD i false else false := by
  rw [List.getD_eq_getElem?_getD, List.getD_eq_getElem?_getD, List.getElem?_take]
  split <;> rfl
theorem cellAt_takeR (es : Rows) (n i c : Nat) : cellAt (es.take n) i c = if i < n then cellAt es i c else none := by
  unfold cellAt
  rw [List.getElem?_take]
  split <;> rfl
theorem Inv.forget (h : Inv Z E st a w S vals fps cb) : Inv Z E (st.lentPart E.nl) ⟨#[], []⟩ w S vals (fun r c k => r < E.nl ∧ fps r c k) cb := by
  have hbx : ∀ i, (st.bx.take E.nl).getD i false = true → i < E.nl ∧ st.bx.getD i false = true := by
    intro i hi
    rw [getD_take_bx] at hi
    split at hi
    · rename_i h1; exact ⟨h1, hi⟩
    · cases hi
  refine ⟨rfl, rfl, h.fr, h.s0, h.slt, h.slf, h.sn, ⟨fun i c cell hc => ?_, fun i c hc k hk => ?_, fun i c i' c' k h1 h2 => h.rr.dj _ _ _ _ _ h1.2 h2.2⟩, fun r c k hk => h.own r c k hk.2, fun r cells hb hr => ?_, fun r hb => ?_, by simp [St.lentPart, h.bxn], fun r hb => ?_, fun r r' hb hb' => h.bxd r r' (hbx r hb).2 (hbx r' hb').2, fun t => .dead, ?_, fun r hr => ?_⟩
  · simp only [St.lentPart] at hc
    rw [cellAt_takeR] at hc
    split at hc
    · rename_i hi
      have heq : (fun k => i < E.nl ∧ fps i c k) = fps i c := by funext k; simp [hi]
      rw [heq]; exact h.rr.rc i c cell hc
    · cases hc
  · simp only [St.lentPart] at hc
    rw [cellAt_takeR, if_pos hk.1] at hc
    exact h.rr.out i c hc k hk.2
  · simp only [St.lentPart] at hb hr
    obtain ⟨h1, h2⟩ := hbx r hb
    rw [List.getElem?_take, if_pos h1] at hr
    exact h.box r cells h2 hr
  · simp only [St.lentPart] at hb ⊢
    obtain ⟨h1, h2⟩ := hbx r hb
    rw [List.length_take]
    have := h.bxl r h2
    omega
  · obtain ⟨h1, h2⟩ := hbx r hb
    obtain ⟨g1, g2, g3⟩ := h.bxS r h2
    exact ⟨g1, fun r' c hk => g2 r' c hk.2, g3⟩
  · simp only [St.lentPart, List.length_take]; have := h.lnl; omega
  · obtain ⟨e1, e2, e3⟩ := h.lent r hr
    simp only [St.lentPart]
    rw [getD_take_bx, if_pos hr]
    exact ⟨e1, e2, e3⟩
end
end Go.Abs

/- A function's contract over abstract states; rules for its code. -/
namespace Go.Abs
open Go
set_option linter.unusedVariables false
set_option linter.unusedSimpArgs false
variable {Z : TypeId → Nat}
def lentfp (bxs : List Bool) (fps : Nat → Nat → Nat → Prop) (cb : Nat → Nat) (k : Nat) : Prop := (∃ r c, fps r c k) ∨ ∃ r, bxs.getD r false = true ∧ cb r = k
def entOf (w : World) (S : Nat → Prop) (rts : Rows) (bxs : List Bool) (vals : Nat → Nat → Value) (fps : Nat → Nat → Nat → Prop) (cb : Nat → Nat) : Ent := ⟨w, S, rts.length, vals, cb, bxs, lentfp bxs fps cb⟩
/-- A fact on the world that leans on the blocks below B0 alone. -/
def GK (G : World → Prop) (B0 : Nat) : Prop := ∀ w w' : World, G w → B0 ≤ w.heap.size → (∀ k, k < B0 → w'.heap[k]? = w.heap[k]?) → w'.os = w.os → w'.tape = w.tape → G w'
/-- What a function gives. -/
def Gives (Z : TypeId → Nat) (E : Ent) (rts : Rows) (bxs : List Bool) (Post : AV → Rows → Prop) (e : Ending) (w' : World) : Prop :=
  ∃ res rts' v S' vals' fps' cb' fp, e = .returned v ∧ Post res rts' ∧ okRes res = true ∧ rts'.length = rts.length ∧ Inv Z E ⟨0, [], rts', bxs⟩ ⟨#[], []⟩ w' S' vals' fps' cb' ∧ PR Z w' S' res v fp ∧ Flt E ⟨0, [], rts', bxs⟩ fps' cb' fp
/-- A function with a body. -/
def callable (P : Program) (f : FuncId) : Bool :=
  match P.funcs[f]? with
  | some fn => fn.body.isSome && fn.name != "runtime.NumGoroutine"
  | none => false
/-- A FUNCTION's CONTRACT: at arguments 'args' over the lent roots 'rts' ('bxs': which are blocks) it hands back what Post says, and of the roots. G: a fact on the world below block B0. -/
def Does (Z : TypeId → Nat) (P : Program) (G : World → Prop) (B0 : Nat) (f : FuncId) (args : List AV) (rts : Rows) (bxs : List Bool) (Post : AV → Rows → Prop) : Prop :=
  callable P f = true ∧ ∀ (w : World) (S : Nat → Prop) (vals : Nat → Nat → Value) (fps : Nat → Nat → Nat → Prop) (cb : Nat → Nat) (vs : List Value), GK G B0 → G w → B0 ≤ w.heap.size → (∀ k, lentfp bxs fps cb k → B0 ≤ k) →
    Inv Z (entOf w S rts bxs vals fps cb) ⟨0, [], rts, bxs⟩ ⟨#[], []⟩ w S vals fps cb → RL (RA Z w S rts vals (adr bxs cb)) args vs →
    Calls P f vs.toArray w (Gives Z (entOf w S rts bxs vals fps cb) rts bxs Post)
/-- What is known of a frame's beginning. -/
structure EOk (G : World → Prop) (B0 : Nat) (E : Ent) : Prop where
  gk : GK G B0
  g : G E.w0
  b : B0 ≤ E.w0.heap.size
  l : ∀ k, E.lf k → B0 ≤ k
  lt : ∀ k, E.lf k → k < E.w0.heap.size
/-- The code, begun in state st, ends as Q says. -/
def W (Z : TypeId → Nat) (P : Program) (G : World → Prop) (B0 nl : Nat) (c : Code) (Q : Exit → St → Prop) (st : St) : Prop :=
  ∀ (E : Ent) (a : Act) (w : World), EOk G B0 E → E.nl = nl → Holds Z E st a w → c.wp P (fun ex a' w' => ∃ st', Holds Z E st' a' w' ∧ Q ex st') a w
section
variable {P : Program} {G : World → Prop} {B0 nl : Nat} {Q : Exit → St → Prop} {st : St}
theorem W_mono {c : Code} {Q' : Exit → St → Prop} (h : W Z P G B0 nl c Q st) (hq : ∀ ex s, Q ex s → Q' ex s) : W Z P G B0 nl c Q' st :=
  fun E a w hE hnl hh => wp_mono (h E a w hE hnl hh) fun ex a' w' ⟨s, h1, h2⟩ => ⟨s, h1, hq _ _ h2⟩
/-- Less is known of a state. -/
def Sub (Z : TypeId → Nat) (nl : Nat) (s s' : St) : Prop := ∀ (E : Ent) (a : Act) (w : World), E.nl = nl → Holds Z E s a w → Holds Z E s' a w
theorem W_sub {c : Code} {st' : St} (hs : Sub Z nl st st') (h : W Z P G B0 nl c Q st') : W Z P G B0 nl c Q st :=
  fun E a w hE hnl hh => h E a w hE hnl (hs E a w hnl hh)
theorem W_skip (h : Q .normal st) : W Z P G B0 nl .skip Q st := fun E a w hE hnl hh => wp_skip ⟨st, hh, h⟩
theorem W_label {l : Nat} (h : Q .normal st) : W Z P G B0 nl (.label l) Q st := fun E a w hE hnl hh => wp_label ⟨st, hh, h⟩
theorem W_exit {id : Nat} (h : Q (.exit id) st) : W Z P G B0 nl (.exit id) Q st := fun E a w hE hnl hh => wp_exit ⟨st, hh, h⟩
theorem W_ret (h : Q .ret st) : W Z P G B0 nl .ret Q st := fun E a w hE hnl hh => wp_ret ⟨st, hh, h⟩
/-- What comes behind a normal end. -/
def thenQ (next : St → Prop) (Q : Exit → St → Prop) : Exit → St → Prop
  | .normal, s => next s
  | e, s => Q e s
theorem W_seq {x y : Code} (h : W Z P G B0 nl x (thenQ (W Z P G B0 nl y Q) Q) st) : W Z P G B0 nl (.seq x y) Q st := by
  intro E a w hE hnl hh
  refine wp_seq (wp_mono (h E a w hE hnl hh) fun ex a' w' ⟨s, h1, h2⟩ => ?_)
  cases ex with
  | normal => exact h2 E a' w' hE hnl h1
  | _ => exact ⟨s, h1, h2⟩
theorem W_cond {c : Operand} {x y : Code} {t : Bool} (hc : evA st c = .c (.sc (.bool t))) (h1 : t = true → W Z P G B0 nl x Q st) (h2 : t = false → W Z P G B0 nl y Q st) : W Z P G B0 nl (.cond c x y) Q st := by
  intro E a w hE hnl hh
  obtain ⟨S, vals, fps, cb, hI⟩ := hh
  have hv := hI.eval c
  rw [hc] at hv
  obtain ⟨hv, _⟩ := sc_inv hv
  exact wp_cond_split hv (fun ht => h1 ht E a w hE hnl ⟨S, vals, fps, cb, hI⟩) fun ht => h2 ht E a w hE hnl ⟨S, vals, fps, cb, hI⟩
def blockQ (id : Nat) (Q : Exit → St → Prop) : Exit → St → Prop
  | .exit id', s => if id' = id then Q .normal s else Q (.exit id') s
  | e, s => Q e s
theorem W_block {id : Nat} {c : Code} (h : W Z P G B0 nl c (blockQ id Q) st) : W Z P G B0 nl (.block id c) Q st := by
  intro E a w hE hnl hh
  refine wp_block (wp_mono (h E a w hE hnl hh) fun ex a' w' ⟨s, h1, h2⟩ => ?_)
  cases ex with
  | exit id' =>
    simp only [Exit.inBlock, blockQ] at h2 ⊢
    split
    · rename_i he; rw [if_pos he] at h2; exact ⟨s, h1, h2⟩
    · rename_i he; rw [if_neg he] at h2; exact ⟨s, h1, h2⟩
  | _ => exact ⟨s, h1, h2⟩
/-- A LOOP: at each round's head the state is one of a family; a measure goes down. -/
theorem W_loop {c : Code} {ι : Type} (I : ι → St) (μ : ι → Nat) (i0 : ι) (h0 : Sub Z nl st (I i0))
    (round : ∀ i, W Z P G B0 nl c (thenQ (fun s => ∃ j, μ j < μ i ∧ Sub Z nl s (I j)) Q) (I i)) : W Z P G B0 nl (.loop c) Q st := by
  intro E a w hE hnl hh
  have key : ∀ n i, μ i < n → ∀ a w, Holds Z E (I i) a w → Code.rounds P c (fun ex a' w' => ∃ st', Holds Z E st' a' w' ∧ Q ex st') n a w := by
    intro n
    induction n with
    | zero => intro i hi; omega
    | succ n ih =>
      intro i hi a w hh
      rw [rounds_succ]
      refine wp_mono (round i E a w hE hnl hh) fun ex a' w' ⟨s, h1, h2⟩ => ?_
      cases ex with
      | normal => obtain ⟨j, hj, hs⟩ := h2; exact ih j (by omega) a' w' (hs E a' w' hnl h1)
      | _ => exact ⟨s, h1, h2⟩
  exact wp_loop_rounds _ (key (μ i0 + 1) i0 (by omega) a w (h0 E a w hnl hh))
end
end Go.Abs

/- A function's body gives its contract: slots at its beginning, results at its end. -/
namespace Go.Abs
open Go
set_option linter.unusedVariables false
set_option linter.unusedSimpArgs false
variable {Z : TypeId → Nat}
section
variable {E : Ent} {st : St} {a : Act} {w w' : World} {S : Nat → Prop} {vals : Nat → Nat → Value} {fps : Nat → Nat → Nat → Prop} {cb : Nat → Nat}
def resOne (P : Program) (st : St) : ResultVar → Option AV
  | .tmp t => some (getA st.sl t)
  | .cell a t => match tinfo P t with
    | some (ag, n) => loadA st ag n (getA st.sl a)
    | none => none
def resL (P : Program) (st : St) : List ResultVar → Option (List AV)
  | [] => some []
  | r :: rs => match resOne P st r with
    | some x => match resL P st rs with
      | some xs => some (x :: xs)
      | none => none
    | none => none
def resA (P : Program) (st : St) (l : List ResultVar) : Option AV :=
  match resL P st l with
  | some [x] => some x
  | some xs => some (.tup xs)
  | none => none
theorem resOne_ok {P : Program} (h : Inv Z E st a w S vals fps cb) {r : ResultVar} {x : AV} (hb : resOne P st r = some x) :
    ∃ v, ((match r with | .tmp t => pure (a.tmps.getD t undef) | .cell p t => do loadVar t (← asAddr (a.tmps.getD p undef)) : Sem Value)).run P w = .ok v w ∧ RA Z w S st.rt vals (adr st.bx cb) x v := by
  cases r with
  | tmp t => simp only [resOne, Option.some.injEq] at hb; subst hb; exact ⟨_, by simp, h.sl t⟩
  | cell p t =>
    simp only [resOne] at hb
    split at hb
    · rename_i ag n ht
      obtain ⟨u, h1, h2⟩ := load_ok h ht (h.sl p) hb
      refine ⟨u, ?_, h2⟩
      have hp := h.sl p
      have key : ∀ x, a.tmps.getD p undef = .pointer (some x) → (do loadVar t (← asAddr (a.tmps.getD p undef)) : Sem Value).run P w = .ok u w := by
        intro x hx
        rw [hx] at h1 ⊢
        simpa [Instr.loadAt, Instr.sureAddr, asAddr] using h1
      have hv : ∃ x, a.tmps.getD p undef = .pointer (some x) := by
        revert hp hb
        generalize a.tmps.getD p undef = v
        generalize getA st.sl p = av
        intro hb hp
        unfold loadA at hb
        cases av with
        | ptr q => cases hp with | ptr hl hh => exact ⟨_, rfl⟩
        | sptr cs o => cases hp with | sptr _ _ _ _ => exact ⟨_, rfl⟩
        | _ => cases hb
      obtain ⟨x, hx⟩ := hv
      exact key x hx
    · cases hb
theorem resL_ok {P : Program} (h : Inv Z E st a w S vals fps cb) : ∀ (l : List ResultVar) (xs : List AV), resL P st l = some xs →
    ∃ vs : List Value, (l.mapM fun | .tmp t => pure (a.tmps.getD t undef) | .cell p t => do loadVar t (← asAddr (a.tmps.getD p undef)) : Sem (List Value)).run P w = .ok vs w ∧ RL (RA Z w S st.rt vals (adr st.bx cb)) xs vs
  | [], xs, hb => by simp only [resL, Option.some.injEq] at hb; subst hb; exact ⟨[], by simp, rfl, by simp⟩
  | r :: rs, xs, hb => by
    simp only [resL] at hb
    split at hb
    · rename_i x h1
      split at hb
      · rename_i ys h2
        cases hb
        obtain ⟨v, g1, g2⟩ := resOne_ok h h1
        obtain ⟨vs, g3, g4, g5⟩ := resL_ok h rs ys h2
        refine ⟨v :: vs, ?_, by simp [g4], fun i y u hy hu => ?_⟩
        · rw [List.mapM_cons]
          simp only [Sem.run_bind, g3]
          cases r <;> simp_all
        · cases i with
          | zero => cases hy; cases hu; exact g2
          | succ i => exact g5 i y u (by simpa using hy) (by simpa using hu)
      · cases hb
    · cases hb
theorem resA_ok {P : Program} (h : Inv Z E st a w S vals fps cb) {fn : Func} {x : AV} (hb : resA P st fn.results.toList = some x) :
    ∃ v, (results fn a.tmps).run P w = .ok v w ∧ RA Z w S st.rt vals (adr st.bx cb) x v := by
  unfold resA at hb
  have key : ∀ xs, resL P st fn.results.toList = some xs → ∃ vs : List Value, (results fn a.tmps).run P w = .ok (if h : vs.toArray.size = 1 then vs.toArray[0] else .tuple vs.toArray) w ∧ RL (RA Z w S st.rt vals (adr st.bx cb)) xs vs := by
    intro xs hx
    obtain ⟨vs, h1, h2⟩ := resL_ok h _ xs hx
    refine ⟨vs, ?_, h2⟩
    unfold results
    rw [Array.mapM_eq_mapM_toList]
    simp only [Sem.run_bind, Sem.run_map]
    refine Eq.trans (congrArg (fun r => Result.andThen r _) (congrArg (fun r => Result.andThen r _) h1)) ?_
    simp
  split at hb
  · rename_i y hy
    cases hb
    obtain ⟨vs, h1, h2, h3⟩ := key _ hy
    obtain ⟨v, rfl⟩ : ∃ v, vs = [v] := by
      cases vs with
      | nil => simp at h2
      | cons v r => cases r with
        | nil => exact ⟨v, rfl⟩
        | cons _ _ => simp at h2
    exact ⟨v, by simpa using h1, h3 0 _ _ rfl rfl⟩
  · rename_i xs hne hy
    cases hb
    obtain ⟨vs, h1, h2, h3⟩ := key _ hy
    refine ⟨_, h1, ?_⟩
    have : vs.toArray.size ≠ 1 := by
      intro h
      cases xs with
      | nil => simp at h2 h; omega
      | cons x r => cases r with
        | nil => exact hne x rfl
        | cons _ _ => simp at h2 h; omega
    rw [dif_neg this]
    exact .tup h2 h3
  · cases hb
/-- A result, packed: a pointer to a block of one's own goes as a new block. -/
def packR (nl : Nat) (st : St) (av : AV) : Option (St × AV) :=
  match av with
  | .ptr [(r, 0)] => if nl ≤ r ∧ st.bx.getD r false = true then (st.rt[r]?).map fun cells => (st, .nb cells) else none
  | av => (pack3 st av).map fun r => (r.1, r.2.1)
theorem bx_lent (h : Inv Z E st a w S vals fps cb) (hn : E.bx.length = E.nl) : st.bx.take E.nl = E.bx := by
  refine List.ext_getElem (by rw [List.length_take, h.bxn, hn]; have := h.lnl; omega) fun i h1 h2 => ?_
  have hi : i < E.nl := by omega
  have := (h.lent i hi).1
  rw [List.length_take] at h1
  have h3 : i < st.bx.length := by omega
  rw [List.getElem_take]
  simpa [List.getD_eq_getElem?_getD, h3, h2] using this
theorem forget_flt (h : Inv Z E st a w S vals fps cb) {fp : Nat → Prop} (hno : ∀ k, fp k → ∀ r c, r < E.nl → ¬ fps r c k) (hnb : ∀ k, fp k → ∀ r, r < E.nl → st.bx.getD r false = true → cb r ≠ k) (hown : ∀ k, fp k → E.lf k ∨ E.w0.heap.size ≤ k) :
    Flt E (st.lentPart E.nl) (fun r c k => r < E.nl ∧ fps r c k) cb fp := by
  refine ⟨fun k hk r c hk2 => hno k hk r c hk2.1 hk2.2, fun k hk r hb => ?_, hown⟩
  simp only [St.lentPart] at hb
  rw [getD_take_bx] at hb
  split at hb
  · rename_i h1; exact hnb k hk r h1 hb
  · cases hb
theorem packR_ok (h : Inv Z E st a w S vals fps cb) {av y : AV} {v : Value} {st' : St} (ha : RA Z w S st.rt vals (adr st.bx cb) av v) (hb : packR E.nl st av = some (st', y)) :
    ∃ fps' fp, Inv Z E (st'.lentPart E.nl) ⟨#[], []⟩ w S vals fps' cb ∧ PR Z w S y v fp ∧ Flt E (st'.lentPart E.nl) fps' cb fp ∧ st'.bx = st.bx := by
  have gen : ∀ {av : AV}, RA Z w S st.rt vals (adr st.bx cb) av v → (pack3 st av).map (fun r => (r.1, r.2.1)) = some (st', y) →
      ∃ fps' fp, Inv Z E (st'.lentPart E.nl) ⟨#[], []⟩ w S vals fps' cb ∧ PR Z w S y v fp ∧ Flt E (st'.lentPart E.nl) fps' cb fp ∧ st'.bx = st.bx := by
    intro av ha hb
    simp only [Option.map_eq_some_iff, Prod.mk.injEq] at hb
    obtain ⟨⟨s, y', t⟩, h1, rfl, rfl⟩ := hb
    obtain ⟨fps', fp, A, h2, _, h3, h4⟩ := pack3_ok st s fps av y' v t h ha h1
    exact ⟨_, fp, A.inv.forget, .pk h2, forget_flt A.inv (fun k hk r c _ => h3.no k hk r c) (fun k hk r _ => h3.nb k hk r) h3.own, A.bx⟩
  unfold packR at hb
  split at hb
  · rename_i r
    split at hb
    · rename_i hc
      simp only [Option.map_eq_some_iff, Prod.mk.injEq] at hb
      obtain ⟨cells, h1, rfl, rfl⟩ := hb
      cases ha with
      | @ptr _ cell x hl hx =>
        simp only [plc_one, adr, hc.2, if_true, Option.some.injEq] at hx
        subst hx
        obtain ⟨cur, ty, g1, g2, g3⟩ := h.box r cells hc.2 h1
        obtain ⟨b1, b2, b3⟩ := h.bxS r hc.2
        refine ⟨_, _, h.forget, .nb (fps r) g1 g2 b1 (fun i c u hci hu => ?_) (fun i hi k hk => ?_) (fun i j k h1 h2 => (h.rr.dj _ _ _ _ _ h1 h2).2) (fun i => b2 r i), forget_flt h (fun k hk r' c hr' => ?_) (fun k hk r' hr' hbr => ?_) (fun k hk => ?_), rfl⟩
        · have := h.rr.rc r i c (by unfold Abs.cellAt; rw [h1]; exact hci)
          rw [g3 i u hu] at this
          exact this
        · exact h.rr.out r i (by unfold Abs.cellAt; rw [h1]; simpa using hi) k hk
        · rcases hk with rfl | ⟨i, hk⟩
          · exact b2 r' c
          · intro h5; have := (h.rr.dj _ _ _ _ _ hk h5).1; omega
        · rcases hk with rfl | ⟨i, hk⟩
          · intro e; have := h.bxd r' r hbr hc.2 e; omega
          · intro e; subst e; exact (h.bxS r' hbr).2.1 r i hk
        · rcases hk with rfl | ⟨i, hk⟩
          · exact b3
          · exact h.own r i k hk
    · cases hb
  · exact gen ha hb
/-- What a body must reach. -/
def exitQ (P : Program) (fn : Func) (nl : Nat) (Post : AV → Rows → Prop) : Exit → St → Prop
  | .normal, st | .ret, st => ∃ av, resA P st fn.results.toList = some av ∧ ∃ st' y, packR nl st av = some (st', y) ∧ okRes y = true ∧ Post y (st'.rt.take nl)
  | _, _ => False
def zipSl : Nat → List AV → List (Nat × AV)
  | _, [] => []
  | k, x :: xs => (k, x) :: zipSl (k + 1) xs
theorem getA_zip : ∀ (l : List AV) (k t : Nat), getA (zipSl k l) t = if k ≤ t then l.getD (t - k) .dead else .dead
  | [], k, t => by simp [zipSl, getA]
  | x :: xs, k, t => by
    rw [zipSl, getA, getA_zip xs (k + 1) t]
    by_cases h : k = t
    · subst h; simp
    · rw [if_neg h]
      by_cases h2 : k + 1 ≤ t
      · rw [if_pos h2, if_pos (by omega)]
        have : t - k = (t - (k + 1)) + 1 := by omega
        rw [this]; simp
      · rw [if_neg h2, if_neg (by omega)]
theorem Does.intro {P : Program} {G : World → Prop} {B0 : Nat} {f : FuncId} {args : List AV} {rts : Rows} {bxs : List Bool} {Post : AV → Rows → Prop} {fn : Func} {c : Code} (hf : P.funcs[f]? = some fn) (hb : fn.body = some c) (hc : callable P f = true) (hn : args.length ≤ fn.ntmps)
    (h : W Z P G B0 rts.length c (exitQ P fn rts.length Post) ⟨fn.ntmps, zipSl 0 args, rts, bxs⟩) : Does Z P G B0 f args rts bxs Post := by
  refine ⟨hc, ?_⟩
  intro w S vals fps cb vs hK hG hB hL hI hA
  have hE : EOk G B0 (entOf w S rts bxs vals fps cb) := ⟨hK, hG, hB, hL, fun k hk => by
    rcases hk with ⟨r, c, hk⟩ | ⟨r, hr, rfl⟩
    · exact hI.rr.lt hk
    · exact hI.box_lt hr⟩
  have hlen := hA.1
  refine calls_of_wp hf hb (wp_mono (h _ _ w hE rfl ⟨S, vals, fps, cb, ⟨rfl, by simp; omega, hI.fr, hI.s0, hI.slt, hI.slf, hI.sn, hI.rr, hI.own, hI.box, hI.bxl, hI.bxn, hI.bxS, hI.bxd, fun t => ?_, hI.lnl, hI.lent⟩⟩) ?_)
  · show RA Z w S rts vals (adr bxs cb) (getA (zipSl 0 args) t) _
    rw [getA_zip, if_pos (Nat.zero_le _), Nat.sub_zero]
    by_cases ht : t < args.length
    · have h1 : args[t]? = some args[t] := List.getElem?_eq_getElem ht
      have h2 : vs[t]? = some (vs[t]'(by omega)) := List.getElem?_eq_getElem (by omega)
      have := hA.2 t _ _ h1 h2
      have e1 : args.getD t .dead = args[t] := by simp [ht]
      have e2 : (vs.toArray ++ Array.replicate (fn.ntmps - vs.toArray.size) undef).getD t undef = vs[t]'(by omega) := by
        rw [Array.getD_eq_getD_getElem?, Array.getElem?_append_left (by simp; omega)]
        simp [show t < vs.length by omega]
      rw [e1, e2]; exact this
    · have : args.getD t .dead = .dead := by simp [List.getD_eq_getElem?_getD, List.getElem?_eq_none (Nat.le_of_not_lt ht)]
      rw [this]; exact .dead
  · intro ex a' w' ⟨st', ⟨S', vals', fps', cb', hI'⟩, hq⟩
    have fin : (∃ av, resA P st' fn.results.toList = some av ∧ ∃ st2 y, packR rts.length st' av = some (st2, y) ∧ okRes y = true ∧ Post y (st2.rt.take rts.length)) →
        a'.defers = [] ∧ ∃ v, (results fn a'.tmps).run P w' = .ok v w' ∧ Gives Z (entOf w S rts bxs vals fps cb) rts bxs Post (.returned v) w' := by
      rintro ⟨av, h1, st2, y, h2, h3, h4⟩
      obtain ⟨v, h5, h6⟩ := resA_ok hI' h1
      obtain ⟨fps2, fp, h7, h8, h9, h10⟩ := packR_ok hI' h6 h2
      refine ⟨hI'.dfr, v, h5, y, _, v, S', vals', fps2, cb', fp, rfl, h4, h3, ?_, ?_, h8, ?_⟩
      · rw [List.length_take]
        have := h7.lnl
        simp only [St.lentPart, List.length_take] at this
        exact Nat.min_eq_left (by have e : (entOf w S rts bxs vals fps cb).nl = rts.length := rfl; omega)
      · have e : st2.bx.take rts.length = bxs := by rw [h10]; exact bx_lent hI' hI.bxn
        have := h7
        unfold St.lentPart at this
        rw [show (entOf w S rts bxs vals fps cb).nl = rts.length from rfl, e] at this
        exact this
      · have e : st2.bx.take rts.length = bxs := by rw [h10]; exact bx_lent hI' hI.bxn
        have := h9
        unfold St.lentPart at this
        rw [show (entOf w S rts bxs vals fps cb).nl = rts.length from rfl, e] at this
        exact this
    cases ex with
    | normal => exact fin hq
    | ret => exact fin hq
    | _ => exact hq.elim
end
end Go.Abs

/- Calls of functions that turn nothing of the caller's: what they read is told as only read. -/
namespace Go.Abs
open Go
set_option linter.unusedVariables false
set_option linter.unusedSimpArgs false
variable {Z : TypeId → Nat}
def snapP (st : St) : Path → Option AV
  | [(r, c)] => if st.bx.getD r false = true then (st.rt[r]?).map fun cells => .sptr (shareL cells) c else none
  | _ => none
mutual
/-- A slot's value as what is only read. -/
def snap (st : St) : AV → Option AV
  | .c c => some (.c c)
  | .nils => some .nils
  | .bor p lo len => match look st.rt p with
    | some (.row true e es) => some (.c (.row false e (shareLL ((es.drop lo).take len))))
    | _ => none
  | .ptr p => snapP st p
  | .sptr cs o => some (.sptr cs o)
  | .agg xs => match snapL st xs with
    | some ys => some (.agg ys)
    | none => none
  | .fn f a b => match snapL st a with
    | some a' => match snapL st b with
      | some b' => some (.fn f a' b')
      | none => none
    | none => none
  | .tup _ => none
  | .nb _ => none
  | .dead => none
def snapL (st : St) : List AV → Option (List AV)
  | [] => some []
  | x :: xs => match snap st x with
    | some y => match snapL st xs with
      | some ys => some (y :: ys)
      | none => none
    | none => none
end
theorem snapL_spec (st : St) : ∀ (xs ys : List AV), snapL st xs = some ys → ys.length = xs.length ∧ ∀ (i : Nat) x y, xs[i]? = some x → ys[i]? = some y → snap st x = some y
  | [], ys, h => by simp only [snapL, Option.some.injEq] at h; subst h; exact ⟨rfl, by simp⟩
  | x :: xs, ys, h => by
    simp only [snapL] at h
    split at h
    · rename_i y h1
      split at h
      · rename_i zs h2
        cases h
        obtain ⟨h3, h4⟩ := snapL_spec st xs zs h2
        refine ⟨by simp [h3], fun i u v hu hv => ?_⟩
        cases i with
        | zero => cases hu; cases hv; exact h1
        | succ i => exact h4 i u v (by simpa using hu) (by simpa using hv)
      · cases h
    · cases h
section
variable {E : Ent} {st : St} {a : Act} {w w' : World} {S S' : Nat → Prop} {vals : Nat → Nat → Value} {fps : Nat → Nat → Nat → Prop} {cb : Nat → Nat}
theorem shr_sub {e : TypeId} {sz n lo len : Nat} {val v : Value} {xs : List Value} (ho : w.ownsRow 0 e sz val n xs) (hs : subH sz val lo len v) (hle : lo + len ≤ n) (hg : ∀ g, val.ownBlock = some g → S' g) :
    shrRow w S' sz v len ((xs.drop (lo * sz)).take (len * sz)) := by
  have hlen : ((xs.drop (lo * sz)).take (len * sz)).length = len * sz := by
    rw [List.length_take, List.length_drop, ho.1]
    have : (lo + len) * sz ≤ n * sz := Nat.mul_le_mul_right _ hle
    rw [Nat.add_mul] at this; omega
  refine ⟨hlen, ?_⟩
  rcases hs with ⟨_, rfl, _, h0⟩ | ⟨g, n', cap, hv, hle2, hs⟩
  · exact .inl ⟨rfl, h0⟩
  · rcases ho.2 with ⟨hh, _⟩ | ⟨g2, cap2, cur, hh, hb, hgg, hnc, hcm, hcs, htake⟩
    · rw [hv] at hh; cases hh
    · rw [hv] at hh; cases hh
      right
      have hSg : S' g := hg g (by rw [hv]; rfl)
      rcases hs with ⟨rfl, rfl⟩ | ⟨hl0, off, cap', rfl, hlc, hcc, hoff⟩
      · refine .inl ⟨g, 0, cap, cur, e, (0, 0), rfl, hSg, hgg, by omega, hcm, ?_⟩
        rw [← htake]
        simp only [Nat.zero_mul, List.drop_zero, List.take_take]
        congr 1
        have : len * sz ≤ n * sz := Nat.mul_le_mul_right _ (by omega)
        omega
      · refine .inl ⟨g, off, cap', cur, e, (0, 0), rfl, hSg, hgg, hlc, by omega, ?_⟩
        rcases hoff with h0 | h0
        · subst h0; simp
        · subst h0
          rw [← htake, List.drop_take, List.take_take]
          congr 1
          have : (lo + len) * sz ≤ n * sz := Nat.mul_le_mul_right _ hle
          rw [Nat.add_mul] at this; omega
theorem snap_ok (h : Inv Z E st a w S vals fps cb) (hS : ∀ k, S k → S' k) (hf : ∀ r c k, fps r c k → S' k) (hbx : ∀ r, st.bx.getD r false = true → S' (cb r)) (vals' : Nat → Nat → Value) (ad' : Nat → Nat → Option Addr) {av : AV} {v : Value}
    (ha : RA Z w S st.rt vals (adr st.bx cb) av v) : ∀ {av' : AV}, snap st av = some av' → RA Z w S' [] vals' ad' av' v := by
  induction ha with
  | @c c v hc => intro av' hs; simp only [snap, Option.some.injEq] at hs; subst hs; exact .c (hc.frame0 (fun _ _ => rfl) hS)
  | nils => intro av' hs; simp only [snap, Option.some.injEq] at hs; subst hs; exact .nils
  | @ptr p cell x hl hx =>
    intro av' hs
    simp only [snap] at hs
    unfold snapP at hs
    split at hs
    · rename_i r c
      split at hs
      · rename_i hb
        simp only [Option.map_eq_some_iff] at hs
        obtain ⟨cells, h1, rfl⟩ := hs
        simp only [plc_one, adr, hb, if_true, Option.some.injEq] at hx
        subst hx
        obtain ⟨cur, ty, g1, g2, g3⟩ := h.box r cells hb h1
        have hlc : c < cells.length := by
          rw [look_one] at hl
          unfold Abs.cellAt at hl
          rw [h1] at hl
          exact (List.getElem?_eq_some_iff.1 hl).1
        have := RA.sptr (Z := Z) (w := w) (S := S') (es := []) (vals := vals') (ad := ad') (cells := shareL cells) (off := c) (b := cb r) (o := 0) (hbx r hb) g1 (fun j cell hj => ?_) (by rw [shareL_eq]; simpa using hlc)
        · simpa using this
        · rw [shareL_eq, List.getElem?_map] at hj
          cases hj0 : cells[j]? with
          | none => rw [hj0] at hj; cases hj
          | some c0 =>
            rw [hj0] at hj
            simp only [Option.map_some, Option.some.injEq] at hj
            subst hj
            have hjl : j < cur.size := by rw [g2]; exact (List.getElem?_eq_some_iff.1 hj0).1
            refine ⟨cur[j], by simp [hjl], ?_⟩
            have h5 := h.rr.rc r j c0 (by unfold Abs.cellAt; rw [h1]; exact hj0)
            rw [g3 j cur[j] (by simp [hjl])] at h5
            exact h5.share hS fun k hk => hf r j k hk
      · cases hs
    · cases hs
  | @sptr cells off b o cur ty fz hSb hb hr ho =>
    intro av' hs; simp only [snap, Option.some.injEq] at hs; subst hs
    exact .sptr (hS b hSb) hb (fun j cell hj => let ⟨v, h1, h2⟩ := hr j cell hj; ⟨v, h1, h2.frame0 (fun _ _ => rfl) hS⟩) ho
  | @bor p e es sz lo len v hl hsz hlen hsub =>
    intro av' hs
    simp only [snap, hl, Option.some.injEq] at hs
    subst hs
    obtain ⟨fpc, hrc, hfpc0⟩ := focus p st.rt vals (adr st.bx cb) fps _ h.rr hl
    have hfpc : ∀ k, fpc k → ∃ r c, fps r c k := fun k hk => by
      cases p with
      | nil => simp [look] at hl
      | cons ic rest => exact ⟨_, _, hfpc0 ic rest rfl k hk⟩
    obtain ⟨sz2, xs, fps', ho, hrows2, hrr, hg, hfp, hze⟩ := own_inner hrc
    have hgS : ∀ g, (plc w st.rt vals (adr st.bx cb) p).1.ownBlock = some g → S' g := fun g hgg => by
      obtain ⟨r, c, hk⟩ := hfpc g (by rw [hfp]; exact .inl hgg)
      exact hf r c g hk
    have hszz : 0 < len → sz = sz2 := fun hp => by
      have hpos : 0 < es.length := by omega
      rw [← hsz _ (List.getElem_mem hpos), hrows2 _ (List.getElem_mem hpos)]
    have hsub2 : subH sz2 (plc w st.rt vals (adr st.bx cb) p).1 lo len v := by
      rcases hsub with h0 | ⟨g, n, cap, hv, hle, h1 | ⟨hl0, off, cap', rfl, hlc, hcc, hoff⟩⟩
      · exact .inl h0
      · exact .inr ⟨g, n, cap, hv, hle, .inl h1⟩
      · refine .inr ⟨g, n, cap, hv, hle, .inr ⟨hl0, off, cap', rfl, hlc, hcc, ?_⟩⟩
        by_cases hp : 0 < len
        · rw [← hszz hp]; exact hoff
        · left; omega
    have hlen2 : ((es.drop lo).take len).length = len := by rw [List.length_take, List.length_drop]; omega
    rw [shareLL_eq]
    refine .c (.shr sz2 hze ((xs.drop (lo * sz2)).take (len * sz2)) (by rw [List.length_map, hlen2]; exact shr_sub ho hsub2 hlen hgS) (fun x hx => ?_) fun i c cell hc => ?_)
    · obtain ⟨y, hy, rfl⟩ := List.mem_map.1 hx
      simpa using hrows2 y (List.mem_of_mem_drop (List.mem_of_mem_take hy))
    · obtain ⟨c0, h0, rfl⟩ := cellAt_share hc
      obtain ⟨hi2, hcs⟩ := cellAt_col (sz := sz2) (fun r hr3 => hrows2 r (List.mem_of_mem_drop (List.mem_of_mem_take hr3))) h0
      rw [hlen2] at hi2
      have hc2 : Abs.cellAt es (lo + i) c = some c0 := by
        unfold Abs.cellAt at h0 ⊢
        rw [List.getElem?_take, if_pos (by omega), List.getElem?_drop] at h0
        exact h0
      have hrc0 := hrr.rc _ _ c0 hc2
      rw [width_eq hrows2 (by omega)] at hrc0
      have hlv : lv ((xs.drop (lo * sz2)).take (len * sz2)) sz2 i c = rowVals w (plc w st.rt vals (adr st.bx cb) p).1 sz2 (lo + i) c := by
        rw [← lv_rowVals ho (by omega) hcs]
        unfold lv
        rw [List.getD_eq_getElem?_getD, List.getD_eq_getElem?_getD, List.getElem?_take, if_pos, List.getElem?_drop]
        · congr 2; rw [Nat.add_mul]; omega
        · have h5 : (i + 1) * sz2 ≤ len * sz2 := Nat.mul_le_mul_right _ (by omega)
          rw [Nat.add_mul, Nat.one_mul] at h5; omega
      rw [hlv]
      refine hrc0.share hS fun k hk => ?_
      obtain ⟨r, c', hk2⟩ := hfpc k (by rw [hfp]; exact .inr ⟨_, _, hk⟩)
      exact hf r c' k hk2
  | @agg xs vs hl h1 hx ih =>
    intro av' hs
    simp only [snap] at hs
    split at hs
    · rename_i ys hys
      cases hs
      obtain ⟨e1, e2⟩ := snapL_spec st xs ys hys
      refine .agg (by omega) h1 fun i y v hy hv => ?_
      have hi : i < xs.length := by have := (List.getElem?_eq_some_iff.1 hy).1; omega
      have hxi : xs[i]? = some xs[i] := List.getElem?_eq_getElem hi
      exact ih i _ v hxi hv (e2 i _ y hxi hy)
    · cases hs
  | tup hl hx ih => intro av' hs; simp [snap] at hs
  | @fn f xs ys vs us hl hl2 hx hy ih ih2 =>
    intro av' hs
    simp only [snap] at hs
    split at hs
    · rename_i a' ha'
      split at hs
      · rename_i b' hb'
        cases hs
        obtain ⟨e1, e2⟩ := snapL_spec st xs a' ha'
        obtain ⟨e3, e4⟩ := snapL_spec st ys b' hb'
        refine .fn (by omega) (by omega) (fun i y v hy hv => ?_) fun i y v hy hv => ?_
        · have hi : i < xs.length := by have := (List.getElem?_eq_some_iff.1 hy).1; omega
          have hxi : xs[i]? = some xs[i] := List.getElem?_eq_getElem hi
          exact ih i _ v hxi hv (e2 i _ y hxi hy)
        · have hi : i < ys.length := by have := (List.getElem?_eq_some_iff.1 hy).1; omega
          have hxi : ys[i]? = some ys[i] := List.getElem?_eq_getElem hi
          exact ih2 i _ v hxi hv (e4 i _ y hxi hy)
      · cases hs
    · cases hs
  | dead => intro av' hs; simp [snap] at hs
end
end Go.Abs

/- What a call hands back that turned nothing of the caller's. -/
namespace Go.Abs
open Go
set_option linter.unusedVariables false
set_option linter.unusedSimpArgs false
variable {Z : TypeId → Nat}
mutual
/-- Nothing in it is only read. -/
def noShr : Cell → Bool
  | .sc _ => true
  | .hole => true
  | .row own _ es => own && noShrLL es
def noShrL : List Cell → Bool
  | [] => true
  | c :: r => noShr c && noShrL r
def noShrLL : List (List Cell) → Bool
  | [] => true
  | x :: r => noShrL x && noShrLL r
end
theorem noShrL_mem : ∀ (l : List Cell), noShrL l = true ↔ ∀ c ∈ l, noShr c = true
  | [] => by simp [noShrL]
  | c :: r => by simp [noShrL, noShrL_mem r]
theorem noShrLL_mem : ∀ (l : List (List Cell)), noShrLL l = true ↔ ∀ x ∈ l, ∀ c ∈ x, noShr c = true
  | [] => by simp [noShrLL]
  | x :: r => by simp [noShrLL, noShrLL_mem r, noShrL_mem]
theorem noShr_at {es : Rows} (h : noShrLL es = true) {i c : Nat} {cell : Cell} (hc : cellAt es i c = some cell) : noShr cell = true := by
  obtain ⟨_, x, hx, hxc⟩ := cellAt_lt hc
  exact (noShrLL_mem es).1 h x (List.mem_of_getElem? hx) cell (List.mem_of_getElem? hxc)
def noShrC : AV → Bool
  | .c c => noShr c
  | .nils => true
  | .nb cells => noShrL cells
  | _ => false
def noShrT : AV → Bool
  | .agg xs => xs.all noShrC
  | x => noShrC x
/-- A result in which nothing is only read. -/
def noShrA : AV → Bool
  | .tup xs => xs.all noShrT
  | x => noShrT x
theorem RC.free {w : World} {S S0 : Nat → Prop} {c : Cell} {v : Value} {fp : Nat → Prop} (h : RC Z w S c v fp) (hn : noShr c = true) (hS : ∀ k, fp k → ¬ S0 k) : RC Z w S0 c v fp := by
  induction h with
  | sc h => exact .sc h
  | hole h => exact .hole h
  | own sz hz xs fps ho hsz hr hout hd hg ih =>
    simp only [noShr, Bool.true_and] at hn
    exact .own sz hz xs fps ho hsz (fun i c cell hc => ih i c cell hc (noShr_at hn hc) fun k hk => hS k (.inr ⟨i, c, hk⟩)) hout hd fun g hgg => ⟨hS g (.inl hgg), (hg g hgg).2⟩
  | shr sz hz xs hs hsz hr ih => simp [noShr] at hn
theorem PK.free0 {w : World} {S S0 : Nat → Prop} {y : AV} {v : Value} {fp : Nat → Prop} (h : PK Z w S y v fp) (hn : noShrC y = true) (hS : ∀ k, fp k → ¬ S0 k) : PK Z w S0 y v fp := by
  cases h with
  | c h => exact .c (h.free hn hS)
  | nils => exact .nils
  | agg _ _ _ _ _ _ => simp [noShrC] at hn
  | tup _ _ _ _ _ => simp [noShrC] at hn
theorem PK.free1 {w : World} {S S0 : Nat → Prop} {y : AV} {v : Value} {fp : Nat → Prop} (h : PK Z w S y v fp) (hn : noShrT y = true) (hS : ∀ k, fp k → ¬ S0 k) : PK Z w S0 y v fp := by
  cases h with
  | c h => exact .c (h.free hn hS)
  | nils => exact .nils
  | agg fps hl h1 hx hout hd =>
    simp only [noShrT, List.all_eq_true] at hn
    exact .agg fps hl h1 (fun i x v hxi hvi => (hx i x v hxi hvi).free0 (hn x (List.mem_of_getElem? hxi)) fun k hk => hS k ⟨i, hk⟩) hout hd
  | tup _ _ _ _ _ => simp [noShrT, noShrC] at hn
theorem PK.free {w : World} {S S0 : Nat → Prop} {y : AV} {v : Value} {fp : Nat → Prop} (h : PK Z w S y v fp) (hn : noShrA y = true) (hS : ∀ k, fp k → ¬ S0 k) : PK Z w S0 y v fp := by
  cases h with
  | c h => exact .c (h.free hn hS)
  | nils => exact .nils
  | agg fps hl h1 hx hout hd => exact (PK.agg fps hl h1 hx hout hd).free1 hn hS
  | tup fps hl hx hout hd =>
    simp only [noShrA, List.all_eq_true] at hn
    exact .tup fps hl (fun i x v hxi hvi => (hx i x v hxi hvi).free1 (hn x (List.mem_of_getElem? hxi)) fun k hk => hS k ⟨i, hk⟩) hout hd
theorem PR.free {w : World} {S S0 : Nat → Prop} {y : AV} {v : Value} {fp : Nat → Prop} (h : PR Z w S y v fp) (hn : noShrA y = true) (hS : ∀ k, fp k → ¬ S0 k) : PR Z w S0 y v fp := by
  cases h with
  | pk h => exact .pk (h.free hn hS)
  | nb fps hb hsz hSg hrc hout hd hg =>
    simp only [noShrA, noShrT, noShrC, noShrL_mem] at hn
    exact .nb fps hb hsz (hS _ (.inl rfl)) (fun i c v hc hv => (hrc i c v hc hv).free (hn c (List.mem_of_getElem? hc)) fun k hk => hS k (.inr ⟨i, hk⟩)) hout hd hg
section
variable {E : Ent} {st : St} {a : Act} {w w' : World} {S S' : Nat → Prop} {vals : Nat → Nat → Value} {fps : Nat → Nat → Nat → Prop} {cb : Nat → Nat}
/-- More blocks are only read: new ones. -/
theorem Inv.readMore {S2 : Nat → Prop} {m : Nat} (h : Inv Z E st a w S vals fps cb) (hS : ∀ k, S k → S2 k) (hn : ∀ k, S2 k → S k ∨ m ≤ k) (hlt : ∀ k, S2 k → k < w.heap.size) (hm : E.w0.heap.size ≤ m) (hlf : ∀ k, E.lf k → k < E.w0.heap.size)
    (hfp : ∀ r c k, fps r c k → k < m) (hcb : ∀ r, st.bx.getD r false = true → cb r < m) : Inv Z E st a w S2 vals fps cb := by
  have hfS : ∀ r c k, fps r c k → ¬ S2 k := fun r c k hk hs => by
    rcases hn k hs with h1 | h1
    · exact h.rr.notS hk h1
    · have := hfp r c k hk; omega
  have hcS : ∀ r, st.bx.getD r false = true → ¬ S2 (cb r) := fun r hr hs => by
    rcases hn _ hs with h1 | h1
    · exact (h.bxS r hr).1 h1
    · have := hcb r hr; omega
  have hra : ∀ {av : AV} {v : Value}, RA Z w S st.rt vals (adr st.bx cb) av v → RA Z w S2 st.rt vals (adr st.bx cb) av v := by
    intro av v hav
    induction hav with
    | c h => exact .c (h.frame0 (fun _ _ => rfl) hS)
    | nils => exact .nils
    | ptr hl h => exact .ptr hl h
    | sptr hSb hb hr ho => exact .sptr (hS _ hSb) hb (fun j cell hj => let ⟨v, h1, h2⟩ := hr j cell hj; ⟨v, h1, h2.frame0 (fun _ _ => rfl) hS⟩) ho
    | bor hl hsz hlen hs => exact .bor hl hsz hlen hs
    | agg hl h1 h ih => exact .agg hl h1 ih
    | tup hl h ih => exact .tup hl ih
    | fn hl hl2 h h2 ih ih2 => exact .fn hl hl2 ih ih2
    | dead => exact .dead
  refine ⟨h.dfr, h.nt, h.fr, fun k hk => hS k (h.s0 k hk), hlt, fun k hk hl => ?_, fun k hk => ?_, ⟨fun i c cell hc => ?_, h.rr.out, h.rr.dj⟩, h.own, h.box, h.bxl, h.bxn, fun r hr => ⟨hcS r hr, (h.bxS r hr).2⟩, h.bxd, fun t => hra (h.sl t), h.lnl, h.lent⟩
  · rcases hn k hk with h1 | h1
    · exact h.slf k h1 hl
    · have := hlf k hl; omega
  · rcases hn k hk with h1 | h1
    · exact h.sn k h1
    · right; omega
  · exact (h.rr.rc i c cell hc).frame (fun _ _ => rfl) (fun _ _ => rfl) hS fun k hk => hfS i c k hk
/-- What is known behind a call. -/
def Back (Z : TypeId → Nat) (E : Ent) (st : St) (a : Act) (vals : Nat → Nat → Value) (fps : Nat → Nat → Nat → Prop) (cb : Nat → Nat) (Post : AV → Prop) (e : Ending) (w' : World) : Prop :=
  ∃ y v S2 fp, e = .returned v ∧ Post y ∧ okRes y = true ∧ Inv Z E st a w' S2 vals fps cb ∧ PR Z w' S2 y v fp ∧ Flt E st fps cb fp
theorem call_gen {P : Program} {G : World → Prop} {B0 : Nat} (hE : EOk G B0 E) (h : Inv Z E st a w S vals fps cb) {f : FuncId} {args : List AV} {vs : List Value} {Post : AV → Prop} (hS : ∀ k, S k → S' k) (hSw : ∀ k, S' k → k < w.heap.size)
    (ha : RL (RA Z w S' [] vals (adr [] cb)) args vs) (hF : Does Z P G B0 f args [] [] fun y _ => Post y) (hp : (∀ k, S' k → S k) ∨ ∀ y, Post y → noShrA y = true) : Calls P f vs.toArray w (Back Z E st a vals fps cb Post) := by
  have hG : G w := hE.gk _ _ hE.g hE.b (fun k hk => h.fr.block k (Nat.lt_of_lt_of_le hk hE.b) fun hl => by have := hE.l k hl; omega) h.fr.os h.fr.tape
  have hc := hF.2 w S' vals (fun _ _ _ => False) cb vs hE.gk hG (Nat.le_trans hE.b h.fr.size) (fun k hk => by rcases hk with ⟨_, _, hk⟩ | ⟨r, hr, _⟩; exact hk.elim; simp at hr)
    ⟨rfl, rfl, ⟨rfl, rfl, rfl, Nat.le_refl _, fun _ _ _ => rfl⟩, fun _ hk => hk, hSw, fun k _ hl => by rcases hl with ⟨_, _, hk⟩ | ⟨r, hr, _⟩; exact hk.elim; simp at hr, fun k hk => .inl hk, ⟨fun i c cell hc => by simp [Abs.cellAt] at hc, fun _ _ _ _ h => h, fun _ _ _ _ _ h => h.elim⟩,
      fun _ _ _ h => h.elim, fun r cells hb => by simp at hb, fun r hb => by simp at hb, rfl, fun r hb => by simp at hb, fun r r' hb => by simp at hb, fun t => .dead, Nat.le_refl _, fun r hr => absurd hr (Nat.not_lt_zero _)⟩ ha
  refine hc.mono fun e w' hg => ?_
  obtain ⟨y, rts', v, S'', vals', fps', cb', fp, rfl, hpost, hok, _, hI, hR, hFl⟩ := hg
  have hfr : Fr (fun _ => False) w w' := by
    have := hI.fr
    refine ⟨this.os, this.tape, this.output, this.size, fun k hk _ => this.block k hk fun hl => ?_⟩
    rcases hl with ⟨_, _, hk⟩ | ⟨r, hr, _⟩
    · exact hk
    · simp at hr
  have h2 : Inv Z E st a w' S vals fps cb := h.grow hfr
  have hnew : ∀ k, fp k → w.heap.size ≤ k := fun k hk => by
    rcases hFl.own k hk with (⟨_, _, hk⟩ | ⟨r, hr, _⟩) | h1
    · exact hk.elim
    · simp at hr
    · exact h1
  have hflt : Flt E st fps cb fp := ⟨fun k hk r c h3 => by have := h.rr.lt h3; have := hnew k hk; omega, fun k hk r hr e => by have := h.box_lt hr; have := hnew k hk; omega, fun k hk => .inr (Nat.le_trans h.fr.size (hnew k hk))⟩
  rcases hp with hp | hp
  · refine ⟨y, v, S'', fp, rfl, hpost, hok, ?_, hR, hflt⟩
    refine h2.readMore (m := w.heap.size) (fun k hk => hI.s0 k (hS k hk)) (fun k hk => ?_) hI.slt h.fr.size hE.lt (fun r c k hk => h.rr.lt hk) fun r hr => h.box_lt hr
    rcases hI.sn k hk with h1 | h1
    · exact .inl (hp k h1)
    · exact .inr h1
  · exact ⟨y, v, S, fp, rfl, hpost, hok, h2, hR.free (hp y hpost) fun k hk hs => by have := h.slt k hs; have := hnew k hk; omega, hflt⟩
/-- A call whose arguments are told as only read; nothing of that is in what it hands back. -/
theorem call_snap {P : Program} {G : World → Prop} {B0 : Nat} (hE : EOk G B0 E) (h : Inv Z E st a w S vals fps cb) {f : FuncId} {args args' : List AV} {vs : List Value} {Post : AV → Prop} (ha : RL (RA Z w S st.rt vals (adr st.bx cb)) args vs) (hs : snapL st args = some args')
    (hF : Does Z P G B0 f args' [] [] fun y _ => Post y) (hp : ∀ y, Post y → noShrA y = true) : Calls P f vs.toArray w (Back Z E st a vals fps cb Post) := by
  refine call_gen (S' := fun k => S k ∨ (∃ r c, fps r c k) ∨ ∃ r, st.bx.getD r false = true ∧ cb r = k) hE h (fun k hk => .inl hk) (fun k hk => ?_) ?_ hF (.inr hp)
  · rcases hk with hk | ⟨r, c, hk⟩ | ⟨r, hr, rfl⟩
    · exact h.slt k hk
    · exact h.rr.lt hk
    · exact h.box_lt hr
  · obtain ⟨e1, e2⟩ := snapL_spec st args args' hs
    refine ⟨by rw [e1]; exact ha.1, fun i y v hy hv => ?_⟩
    have hi : i < args.length := by have := (List.getElem?_eq_some_iff.1 hy).1; omega
    have hxi : args[i]? = some args[i] := List.getElem?_eq_getElem hi
    exact snap_ok h (fun k hk => .inl hk) (fun r c k hk => .inr (.inl ⟨r, c, hk⟩)) (fun r hr => .inr (.inr ⟨r, hr, rfl⟩)) _ _ (ha.2 i _ v hxi hv) (e2 i _ y hxi hy)
mutual
/-- Is a slot's value free of the caller's own memory? -/
def clos : AV → Bool
  | .c _ => true
  | .nils => true
  | .sptr _ _ => true
  | .agg xs => closL xs
  | .fn _ a b => closL a && closL b
  | _ => false
def closL : List AV → Bool
  | [] => true
  | x :: xs => clos x && closL xs
end
theorem closL_mem : ∀ (l : List AV), closL l = true ↔ ∀ x ∈ l, clos x = true
  | [] => by simp [closL]
  | c :: r => by simp [closL, closL_mem r]
theorem clos_ok {es : Rows} {ad ad' : Nat → Nat → Option Addr} {vals' : Nat → Nat → Value} {av : AV} {v : Value} (ha : RA Z w S es vals ad av v) : clos av = true → RA Z w S [] vals' ad' av v := by
  induction ha with
  | c hc => exact fun _ => .c hc
  | nils => exact fun _ => .nils
  | ptr hl hx => intro h; simp [clos] at h
  | sptr hSb hb hr ho => exact fun _ => .sptr hSb hb hr ho
  | bor hl hsz hlen hs => intro h; simp [clos] at h
  | agg hl h1 hx ih => intro h; simp only [clos, closL_mem] at h; exact .agg hl h1 fun i x v hxi hvi => ih i x v hxi hvi (h x (List.mem_of_getElem? hxi))
  | tup hl hx ih => intro h; simp [clos] at h
  | fn hl hl2 hx hy ih ih2 =>
    intro h
    simp only [clos, Bool.and_eq_true, closL_mem] at h
    exact .fn hl hl2 (fun i x v hxi hvi => ih i x v hxi hvi (h.1 x (List.mem_of_getElem? hxi))) fun i x v hxi hvi => ih2 i x v hxi hvi (h.2 x (List.mem_of_getElem? hxi))
  | dead => intro h; simp [clos] at h
/-- A call whose arguments hold nothing of the caller's own. -/
theorem call_clos {P : Program} {G : World → Prop} {B0 : Nat} (hE : EOk G B0 E) (h : Inv Z E st a w S vals fps cb) {f : FuncId} {args : List AV} {vs : List Value} {Post : AV → Prop} (ha : RL (RA Z w S st.rt vals (adr st.bx cb)) args vs) (hs : closL args = true)
    (hF : Does Z P G B0 f args [] [] fun y _ => Post y) : Calls P f vs.toArray w (Back Z E st a vals fps cb Post) :=
  call_gen hE h (fun _ h => h) h.slt ⟨ha.1, fun i x v hx hv => clos_ok (ha.2 i x v hx hv) ((closL_mem args).1 hs x (List.mem_of_getElem? hx))⟩ hF (.inl fun _ h => h)
end
end Go.Abs

/- One operation; what a call leaves. -/
namespace Go.Abs
open Go
set_option linter.unusedVariables false
set_option linter.unusedSimpArgs false
variable {Z : TypeId → Nat}
theorem run_enter {P : Program} {w : World} {f : FuncId} {args : Array Value} (h : callable P f = true) : (callFunc f args).run P w = .ok (.enter f args) w := by
  unfold callable at h
  split at h
  · rename_i fn hf
    simp only [Bool.and_eq_true, bne_iff_ne, ne_eq] at h
    have h1 : (fn.name == "runtime.NumGoroutine") = false := by simpa using h.2
    have h2 : fn.body.isNone = false := by cases hb : fn.body <;> simp_all
    have h3 : ¬ fn.name = "runtime.NumGoroutine" := h.2
    have h4 : ¬ fn.body = none := by cases hb : fn.body <;> simp_all
    simp [callFunc, hf, h3, h4]
  · cases h
theorem exec_call {P : Program} {w : World} {a : Act} {o : Oper} {fv : Operand} {args : Array Operand} {tys : Array TypeId} {f : FuncId} {first caps : Array Value} (ho : o.op = .call { callee := .value fv, args := args, argTypes := tys })
    (hv : a.eval fv = .func (.func f) first caps) (h : callable P f = true) : (execOp a.eval o).run P w = .ok (.enter f (first ++ args.map a.eval ++ caps)) w := by
  simp only [execOp, ho, resolve, hv, Deferred.ofValue, Sem.run_bind, Sem.run_pure, Result.andThen_ok, invoke, run_enter h]
section
variable {E : Ent} {st : St} {a : Act} {w w' : World} {S S' : Nat → Prop} {vals : Nat → Nat → Value} {fps : Nat → Nat → Nat → Prop} {cb : Nat → Nat}
def opA (P : Program) (st : St) (op : Op) : Option (AV × St) := if makes op then evalOp P (st.ext 1) st.rt.length op else evalOp P st st.rt.length op
theorem ext_free (h : Inv Z E st a w S vals fps cb) : (st.ext 1).free st.rt.length := by
  refine ⟨by simp [St.ext], ?_⟩
  simp [St.ext, List.getD_eq_getElem?_getD, ← h.bxn]
theorem opA_ok {P : Program} (hZ0 : ZOk P Z) (h : Inv Z E st a w S vals fps cb) (o : Oper) {av : AV} {st' : St} (hb : opA P st o.op = some (av, st')) : OpGives Z P E o a w st' av := by
  unfold opA at hb
  split at hb
  · rename_i hm
    exact evalOp_ok hZ0 (h.ext 1) o (fun _ => ext_free h) h.lnl hb
  · rename_i hm
    exact evalOp_ok hZ0 h o (fun hm' => absurd hm' hm) h.lnl hb
theorem Flt.ext {fp : Nat → Prop} {n : Nat} (h : Flt E st fps cb fp) : Flt E (st.ext n) fps cb fp := by
  refine ⟨h.no, fun k hk r hb => h.nb k hk r ?_, h.own⟩
  simp only [St.ext, List.getD_eq_getElem?_getD] at hb ⊢
  by_cases hr : r < st.bx.length
  · rwa [List.getElem?_append_left hr] at hb
  · rw [List.getElem?_append_right (by omega), List.getElem?_replicate] at hb
    split at hb <;> simp at hb
/-- What a call leaves. -/
def CallGives (Z : TypeId → Nat) (E : Ent) (a : Act) (K : AV → St → Prop) (e : Ending) (w' : World) : Prop :=
  ∃ av v st' S vals fps cb, e = .returned v ∧ K av st' ∧ Inv Z E st' a w' S vals fps cb ∧ RA Z w' S st'.rt vals (adr st'.bx cb) av v
theorem back_gives {Post : AV → Prop} {K : AV → St → Prop} (hn : st.bx.length = st.rt.length) (hnl : E.nl ≤ st.rt.length) (hp : ∀ y, Post y → K (unpR (st.ext 1) st.rt.length y).1 (unpR (st.ext 1) st.rt.length y).2) {e : Ending} {w' : World} (h : Back Z E st a vals fps cb Post e w') : CallGives Z E a K e w' := by
  obtain ⟨y, v, S2, fp, rfl, h1, h2, h3, h4, h5⟩ := h
  obtain ⟨vals', fps', cb', g1, g2⟩ := unpR_ok (h3.ext 1) (ext_free h3) hnl h4 h2 h5.ext
  exact ⟨_, v, _, S2, vals', fps', cb', rfl, hp y h1, g1, g2⟩
end
end Go.Abs

/- Loop heads: slots and roots told anew. -/
namespace Go.Abs
open Go
set_option linter.unusedVariables false
set_option linter.unusedSimpArgs false
variable {Z : TypeId → Nat}
theorem Sub.refl {nl : Nat} {s : St} : Sub Z nl s s := fun _ _ _ _ h => h
theorem Sub.trans {nl : Nat} {a b c : St} (h : Sub Z nl a b) (k : Sub Z nl b c) : Sub Z nl a c := fun E x w hn hh => k E x w hn (h E x w hn hh)
/-- Paths under another numbering of the roots. -/
def renP (m : List Nat) : Path → Path
  | [] => []
  | (r, c) :: p => (m.getD r 0, c) :: p
mutual
def ren (m : List Nat) : AV → AV
  | .c c => .c c
  | .nils => .nils
  | .ptr p => .ptr (renP m p)
  | .sptr cs o => .sptr cs o
  | .bor p lo len => .bor (renP m p) lo len
  | .agg xs => .agg (renL m xs)
  | .tup xs => .tup (renL m xs)
  | .fn f a b => .fn f (renL m a) (renL m b)
  | .nb cs => .nb cs
  | .dead => .dead
def renL (m : List Nat) : List AV → List AV
  | [] => []
  | x :: r => ren m x :: renL m r
end
theorem renL_eq (m : List Nat) : ∀ l, renL m l = l.map (ren m)
  | [] => rfl
  | x :: r => by simp [renL, renL_eq m r]
def hdP (n : Nat) : Path → Bool
  | [] => true
  | (r, _) :: _ => decide (r < n)
mutual
/-- Paths begin in the first n roots. -/
def hd (n : Nat) : AV → Bool
  | .ptr p => hdP n p
  | .bor p _ _ => hdP n p
  | .agg xs => hdL n xs
  | .tup xs => hdL n xs
  | .fn _ a b => hdL n a && hdL n b
  | .c _ => true
  | .nils => true
  | .sptr _ _ => true
  | .nb _ => true
  | .dead => true
def hdL (n : Nat) : List AV → Bool
  | [] => true
  | x :: r => hd n x && hdL n r
end
theorem hdL_mem (n : Nat) : ∀ (l : List AV), hdL n l = true ↔ ∀ x ∈ l, hd n x = true
  | [] => by simp [hdL]
  | c :: r => by simp [hdL, hdL_mem n r]
/-- Each slot told holds, under the old numbers, what it held. -/
def slOk (m : List Nat) (sl : List (Nat × AV)) : List (Nat × AV) → Prop
  | [] => True
  | (k, v) :: r => getA sl k = ren m v ∧ hd m.length v = true ∧ slOk m sl r
theorem slOk_spec {m : List Nat} {sl : List (Nat × AV)} : ∀ (l : List (Nat × AV)), slOk m sl l → ∀ t, (getA sl t = ren m (getA l t) ∧ hd m.length (getA l t) = true) ∨ getA l t = .dead
  | [], _, t => .inr rfl
  | (k, v) :: r, h, t => by
    simp only [slOk] at h
    simp only [getA]
    by_cases hk : k = t
    · subst hk; rw [if_pos rfl]; exact .inl ⟨h.1, h.2.1⟩
    · rw [if_neg hk]; exact slOk_spec r h.2.2 t
section
variable {E : Ent} {st : St} {a : Act} {w w' : World} {S : Nat → Prop} {vals : Nat → Nat → Value} {fps : Nat → Nat → Nat → Prop} {cb : Nat → Nat}
theorem cellAt_ren {es : Rows} {m : List Nat} (hm : ∀ i ∈ m, i < es.length) {r c : Nat} {x : Cell} (h : cellAt (m.map fun i => es.getD i []) r c = some x) : r < m.length ∧ cellAt es (m.getD r 0) c = some x := by
  unfold cellAt at h
  rw [List.getElem?_map] at h
  cases hr : m[r]? with
  | none => rw [hr] at h; cases h
  | some i =>
    rw [hr] at h
    have hlt : i < es.length := hm i (List.mem_of_getElem? hr)
    have hget : es[i]? = some es[i] := List.getElem?_eq_getElem hlt
    refine ⟨(List.getElem?_eq_some_iff.1 hr).1, ?_⟩
    unfold cellAt
    rw [List.getD_eq_getElem?_getD, hr]
    simp only [Option.getD_some, hget, Option.bind_some]
    simpa [List.getD_eq_getElem?_getD, hget] using h
theorem look_ren {es : Rows} {m : List Nat} (hm : ∀ i ∈ m, i < es.length) (vals : Nat → Nat → Value) (ad : Nat → Nat → Option Addr) : ∀ (p : Path) (cell : Cell), look es (renP m p) = some cell → (∀ r c q, p = (r, c) :: q → r < m.length) →
    look (m.map fun i => es.getD i []) p = some cell ∧ plc w (m.map fun i => es.getD i []) (fun r c => vals (m.getD r 0) c) (fun r c => ad (m.getD r 0) c) p = plc w es vals ad (renP m p)
  | [], cell, h, _ => by simp [renP, look] at h
  | (r, c) :: p, cell, h, hr => by
    have hr0 := hr r c p rfl
    have hmr : m[r]? = some m[r] := List.getElem?_eq_getElem hr0
    have hlt : m[r] < es.length := hm _ (List.getElem_mem hr0)
    have hc : cellAt (m.map fun i => es.getD i []) r c = cellAt es (m.getD r 0) c := by
      unfold cellAt
      rw [List.getElem?_map, hmr]
      simp [List.getD_eq_getElem?_getD, hmr, List.getElem?_eq_getElem hlt]
    simp only [renP] at h ⊢
    cases p with
    | nil => exact ⟨by rw [look_one] at h ⊢; rw [hc]; exact h, rfl⟩
    | cons q p =>
      refine ⟨?_, ?_⟩
      · rw [look] at h ⊢; rw [hc]; exact h
      · rw [plc, plc, hc]
theorem ra_ren {es : Rows} {m : List Nat} {ad : Nat → Nat → Option Addr} (hm : ∀ i ∈ m, i < es.length) {x : AV} {v : Value} (h : RA Z w S es vals ad x v) : ∀ (av : AV), x = ren m av → hd m.length av = true →
    RA Z w S (m.map fun i => es.getD i []) (fun r c => vals (m.getD r 0) c) (fun r c => ad (m.getD r 0) c) av v := by
  have hpp : ∀ (p : Path) cell, look es (renP m p) = some cell → hdP m.length p = true → look (m.map fun i => es.getD i []) p = some cell ∧ plc w (m.map fun i => es.getD i []) (fun r c => vals (m.getD r 0) c) (fun r c => ad (m.getD r 0) c) p = plc w es vals ad (renP m p) := by
    intro p cell hl hh
    refine look_ren hm vals ad p cell hl fun r c q hq => ?_
    subst hq
    simpa [hdP] using hh
  induction h with
  | c h => intro av e _; cases av <;> simp only [ren, reduceCtorEq] at e; cases e; exact .c h
  | nils => intro av e _; cases av <;> simp only [ren, reduceCtorEq] at e; exact .nils
  | ptr hl h =>
    intro av e hh
    cases av <;> simp only [ren, reduceCtorEq, AV.ptr.injEq] at e
    subst e
    simp only [hd] at hh
    obtain ⟨h1, h2⟩ := hpp _ _ hl hh
    exact .ptr h1 (by rw [h2]; exact h)
  | sptr hSb hb hr ho => intro av e _; cases av <;> simp only [ren, reduceCtorEq] at e; cases e; exact .sptr hSb hb hr ho
  | bor hl hsz hlen hs =>
    intro av e hh
    cases av <;> simp only [ren, reduceCtorEq, AV.bor.injEq] at e
    obtain ⟨rfl, rfl, rfl⟩ := e
    simp only [hd] at hh
    obtain ⟨h1, h2⟩ := hpp _ _ hl hh
    exact .bor h1 hsz hlen (by rw [h2]; exact hs)
  | agg hl h1 h ih =>
    intro av e hh
    cases av <;> simp only [ren, reduceCtorEq, AV.agg.injEq] at e
    rename_i ys
    rw [renL_eq] at e
    subst e
    simp only [hd, hdL_mem] at hh
    refine .agg (by simpa using hl) h1 fun i x v hx hv => ih i _ v (by rw [List.getElem?_map, hx]; rfl) hv x rfl (hh x (List.mem_of_getElem? hx))
  | tup hl h ih =>
    intro av e hh
    cases av <;> simp only [ren, reduceCtorEq, AV.tup.injEq] at e
    rename_i ys
    rw [renL_eq] at e
    subst e
    simp only [hd, hdL_mem] at hh
    refine .tup (by simpa using hl) fun i x v hx hv => ih i _ v (by rw [List.getElem?_map, hx]; rfl) hv x rfl (hh x (List.mem_of_getElem? hx))
  | fn hl hl2 h h2 ih ih2 =>
    intro av e hh
    cases av <;> simp only [ren, reduceCtorEq, AV.fn.injEq] at e
    rename_i f ys zs
    rw [renL_eq, renL_eq] at e
    obtain ⟨rfl, rfl, rfl⟩ := e
    simp only [hd, Bool.and_eq_true, hdL_mem] at hh
    refine .fn (by simpa using hl) (by simpa using hl2) (fun i x v hx hv => ih i _ v (by rw [List.getElem?_map, hx]; rfl) hv x rfl (hh.1 x (List.mem_of_getElem? hx))) fun i x v hx hv => ih2 i _ v (by rw [List.getElem?_map, hx]; rfl) hv x rfl (hh.2 x (List.mem_of_getElem? hx))
  | dead => intro av e _; cases av <;> simp only [ren, reduceCtorEq] at e; exact .dead
/-- Some slots and roots are told on, under new numbers. -/
theorem Inv.ren {nt : Nat} {sl sl' : List (Nat × AV)} {rt : Rows} {bx : List Bool} (h : Inv Z E ⟨nt, sl, rt, bx⟩ a w S vals fps cb) (m : List Nat) (hm : ∀ i ∈ m, i < rt.length) (hnd : m.Nodup) (hnl : ∀ r, r < E.nl → m[r]? = some r) (hs : slOk m sl sl') :
    Inv Z E ⟨nt, sl', m.map fun i => rt.getD i [], m.map fun i => bx.getD i false⟩ a w S (fun r c => vals (m.getD r 0) c) (fun r c k => r < m.length ∧ fps (m.getD r 0) c k) (fun r => cb (m.getD r 0)) := by
  have hget : ∀ r, r < m.length → m[r]? = some (m.getD r 0) := fun r hr => by simp [List.getD_eq_getElem?_getD, hr]
  have hlt : ∀ r, r < m.length → m.getD r 0 < rt.length := fun r hr => hm _ (List.mem_of_getElem? (hget r hr))
  have hinj : ∀ r r', r < m.length → r' < m.length → m.getD r 0 = m.getD r' 0 → r = r' := fun r r' hr hr' e => by
    have h1 : m[r] = m[r'] := by simpa [List.getD_eq_getElem?_getD, hr, hr'] using e
    have hp := List.pairwise_iff_getElem.1 hnd
    rcases Nat.lt_trichotomy r r' with h2 | h2 | h2
    · exact absurd h1 (hp r r' hr hr' h2)
    · exact h2
    · exact absurd h1.symm (hp r' r hr' hr h2)
  have hrt : ∀ r, r < m.length → rt[m.getD r 0]? = some (rt.getD (m.getD r 0) []) := fun r hr => by
    have h1 := hlt r hr
    generalize m.getD r 0 = j at h1 ⊢
    simp [List.getD_eq_getElem?_getD, h1]
  have hbx : ∀ r, (m.map fun i => bx.getD i false).getD r false = true → r < m.length ∧ bx.getD (m.getD r 0) false = true := fun r hr => by
    rw [List.getD_eq_getElem?_getD, List.getElem?_map] at hr
    cases hmr : m[r]? with
    | none => rw [hmr] at hr; cases hr
    | some i =>
      rw [hmr] at hr
      refine ⟨(List.getElem?_eq_some_iff.1 hmr).1, ?_⟩
      have e : m.getD r 0 = i := by rw [List.getD_eq_getElem?_getD, hmr]; rfl
      rw [e]
      simpa using hr
  have hbxn : ∀ r, r < m.length → (m.map fun i => bx.getD i false).getD r false = bx.getD (m.getD r 0) false := fun r hr => by
    rw [List.getD_eq_getElem?_getD, List.getElem?_map, hget r hr]; rfl
  have had : (fun r c => adr bx cb (m.getD r 0) c) = fun r c => adr bx cb (m.getD r 0) c := rfl
  refine ⟨h.dfr, h.nt, h.fr, h.s0, h.slt, h.slf, h.sn, ⟨fun i c cell hc => ?_, fun i c hc k hk => ?_, fun i c i' c' k h1 h2 => ?_⟩, fun r c k hk => h.own _ c k hk.2, fun r cells hb hr => ?_, fun r hb => ?_, ?_, fun r hb => ?_, fun r r' hb hb' e => ?_, fun t => ?_, ?_, fun r hr => ?_⟩
  · obtain ⟨h1, h2⟩ := cellAt_ren hm hc
    have := h.rr.rc _ _ _ h2
    have e : (fun k => i < m.length ∧ fps (m.getD i 0) c k) = fps (m.getD i 0) c := by funext k; simp [h1]
    rw [e]; exact this
  · refine h.rr.out (m.getD i 0) c ?_ k hk.2
    have hmr := hget i hk.1
    unfold Abs.cellAt at hc ⊢
    simp only [List.getElem?_map, hmr, Option.map_some, Option.bind_some] at hc
    rw [hrt i hk.1]
    exact hc
  · obtain ⟨e1, e2⟩ := h.rr.dj _ _ _ _ _ h1.2 h2.2
    exact ⟨hinj _ _ h1.1 h2.1 e1, e2⟩
  · obtain ⟨h1, h2⟩ := hbx r hb
    refine h.box _ cells h2 ?_
    rw [List.getElem?_map, hget r h1] at hr
    simp only [Option.map_some, Option.some.injEq] at hr
    rw [← hr]
    exact hrt r h1
  · simpa using (hbx r hb).1
  · simp
  · obtain ⟨h1, h2⟩ := hbx r hb
    obtain ⟨g1, g2, g3⟩ := h.bxS _ h2
    exact ⟨g1, fun r' c hk => g2 _ c hk.2, g3⟩
  · obtain ⟨h1, h2⟩ := hbx r hb
    obtain ⟨h3, h4⟩ := hbx r' hb'
    exact hinj _ _ h1 h3 (h.bxd _ _ h2 h4 e)
  · rcases slOk_spec sl' hs t with ⟨h1, h2⟩ | h1
    · have h3 := ra_ren (m := m) hm (h.sl t) _ h1 h2
      have key : ∀ {x : AV} {v : Value}, RA Z w S (m.map fun i => rt.getD i []) (fun r c => vals (m.getD r 0) c) (fun r c => adr bx cb (m.getD r 0) c) x v → RA Z w S (m.map fun i => rt.getD i []) (fun r c => vals (m.getD r 0) c) (adr (m.map fun i => bx.getD i false) fun r => cb (m.getD r 0)) x v := by
        intro x v hx
        refine hx.roots fun i c y hy => ⟨hy, rfl, ?_⟩
        have hi := (cellAt_ren hm hy).1
        unfold adr
        rw [hbxn i hi]
      exact key h3
    · show RA Z w S _ _ _ (getA sl' t) _
      rw [h1]; exact .dead
  · have hl := h.lnl
    simp only [List.length_map]
    rcases Nat.eq_zero_or_pos E.nl with h0 | h0
    · omega
    · have := hnl (E.nl - 1) (by omega)
      have := (List.getElem?_eq_some_iff.1 this).1
      omega
  · have hmr := hnl r hr
    have hrl : r < m.length := (List.getElem?_eq_some_iff.1 hmr).1
    have e : m.getD r 0 = r := by rw [List.getD_eq_getElem?_getD, hmr]; rfl
    have := h.lent r hr
    rw [hbxn r hrl, e]
    exact this
theorem Sub.ren {nl nt : Nat} {sl sl' : List (Nat × AV)} {rt : Rows} {bx : List Bool} (m : List Nat) (hm : ∀ i ∈ m, i < rt.length) (hnd : m.Nodup) (hnl : ∀ r, r < nl → m[r]? = some r) (hs : slOk m sl sl') :
    Sub Z nl ⟨nt, sl, rt, bx⟩ ⟨nt, sl', m.map fun i => rt.getD i [], m.map fun i => bx.getD i false⟩ := by
  rintro E a w rfl ⟨S, vals, fps, cb, h⟩
  exact ⟨S, _, _, _, h.ren m hm hnd hnl hs⟩
/-- A nil slice in a slot is told as an empty row of one's own. -/
theorem Sub.nil {nl nt : Nat} {sl : List (Nat × AV)} {rt : Rows} {bx : List Bool} (k : Nat) (e : TypeId) (hk : getA sl k = .nils) :
    Sub Z nl ⟨nt, sl, rt, bx⟩ ⟨nt, (k, .bor [(rt.length, 0)] 0 0) :: sl, rt ++ [[.row true e []]], bx ++ [false]⟩ := by
  rintro E a w rfl ⟨S, vals, fps, cb, h⟩
  have h2 := h.ext 1
  have hlen : bx.length = rt.length := h.bxn
  have hf : (St.ext ⟨nt, sl, rt, bx⟩ 1).free rt.length := ⟨by simp [St.ext], by simp [St.ext, List.getD_eq_getElem?_getD, ← hlen]⟩
  have h3 := h2.fill hf h.lnl [.row true e []] (fun _ => .slice none 0 0) (fun _ _ => False) (fun c cell hc => by
    have : cell = .row true e [] := by cases c <;> simp at hc; exact hc.symm
    subst this
    have := RC.own (Z := Z) (w := w) (S := S) (e := e) (es := []) (v := .slice none 0 0) (Z e) rfl [] (fun _ _ _ => False) ⟨by simp, .inl ⟨rfl, rfl⟩⟩ (by simp) (fun i c cell hc => by simp [Abs.cellAt] at hc) (fun _ _ _ _ h => h) (fun _ _ _ _ _ h => h.elim) (fun g hg => by simp [Value.ownBlock] at hg)
    have e2 : (fun k => Value.ownBlock (.slice none 0 0) = some k ∨ ∃ (i c : Nat), False) = fun _ => False := by funext k; simp [Value.ownBlock]
    rw [e2] at this
    exact this) (fun _ _ _ h => h) (fun _ _ _ h => h.elim) fun _ => ⟨fun _ h => h.elim, fun _ h => h.elim, fun _ h => h.elim⟩
  have e1 : ((rt ++ List.replicate 1 []).set rt.length [.row true e []]) = rt ++ [[.row true e []]] := by simp
  have e2 : ((bx ++ List.replicate 1 false).set rt.length false) = bx ++ [false] := by rw [← hlen]; simp
  simp only [St.fill, St.ext, e1, e2] at h3
  refine ⟨S, _, _, cb, { h3 with sl := fun t => ?_ }⟩
  show RA Z w S _ _ _ (getA ((k, _) :: sl) t) _
  simp only [getA]
  by_cases ht : k = t
  · subst ht
    rw [if_pos rfl]
    have hv := h.sl k
    simp only [hk] at hv
    generalize a.tmps.getD k undef = u at hv
    cases hv
    refine .bor (sz := 0) (e := e) (es' := []) ?_ (by simp) (by simp) (.inl ⟨?_, rfl, rfl, rfl⟩)
    · simp [look_one, Abs.cellAt]
    · simp [plc_one]
  · rw [if_neg ht]; exact h3.sl t
end
end Go.Abs

/- A call that is lent one row: it may turn it. -/
namespace Go.Abs
open Go
set_option linter.unusedVariables false
set_option linter.unusedSimpArgs false
variable {Z : TypeId → Nat}
section
variable {E : Ent} {st : St} {a : Act} {w w' : World} {S S' : Nat → Prop} {vals : Nat → Nat → Value} {fps : Nat → Nat → Nat → Prop} {cb : Nat → Nat}
def leaf1 (st : St) (p : Path) (x : AV) : Option AV :=
  match x with
  | .bor q lo len => if q = p then some (.bor [(0, 0)] lo len) else snap (st.setAt p .hole) (kill p (.bor q lo len))
  | x => snap (st.setAt p .hole) (kill p x)
def leafL (st : St) (p : Path) : List AV → Option (List AV)
  | [] => some []
  | x :: xs => match leaf1 st p x with
    | some y => match leafL st p xs with
      | some ys => some (y :: ys)
      | none => none
    | none => none
def lendArg (st : St) (p : Path) (x : AV) : Option AV :=
  match x with
  | .agg xs => match leafL st p xs with
    | some ys => some (.agg ys)
    | none => none
  | x => leaf1 st p x
def lendArgs (st : St) (p : Path) : List AV → Option (List AV)
  | [] => some []
  | x :: xs => match lendArg st p x with
    | some y => match lendArgs st p xs with
      | some ys => some (y :: ys)
      | none => none
    | none => none
theorem leafL_spec (st : St) (p : Path) : ∀ (xs ys : List AV), leafL st p xs = some ys → ys.length = xs.length ∧ ∀ (i : Nat) x y, xs[i]? = some x → ys[i]? = some y → leaf1 st p x = some y
  | [], ys, h => by simp only [leafL, Option.some.injEq] at h; subst h; exact ⟨rfl, by simp⟩
  | x :: xs, ys, h => by
    rw [leafL] at h
    split at h
    · rename_i y h1
      split at h
      · rename_i zs h2
        cases h
        obtain ⟨h3, h4⟩ := leafL_spec st p xs zs h2
        refine ⟨by simp [h3], fun i u v hu hv => ?_⟩
        cases i with
        | zero => cases hu; cases hv; exact h1
        | succ i => exact h4 i u v (by simpa using hu) (by simpa using hv)
      · cases h
    · cases h
theorem lendArgs_spec (st : St) (p : Path) : ∀ (xs ys : List AV), lendArgs st p xs = some ys → ys.length = xs.length ∧ ∀ (i : Nat) x y, xs[i]? = some x → ys[i]? = some y → lendArg st p x = some y
  | [], ys, h => by simp only [lendArgs, Option.some.injEq] at h; subst h; exact ⟨rfl, by simp⟩
  | x :: xs, ys, h => by
    rw [lendArgs] at h
    split at h
    · rename_i y h1
      split at h
      · rename_i zs h2
        cases h
        obtain ⟨h3, h4⟩ := lendArgs_spec st p xs zs h2
        refine ⟨by simp [h3], fun i u v hu hv => ?_⟩
        cases i with
        | zero => cases hu; cases hv; exact h1
        | succ i => exact h4 i u v (by simpa using hu) (by simpa using hv)
      · cases h
    · cases h
/-- The state behind a call that was lent the row at p. -/
theorem call_row {P : Program} {G : World → Prop} {B0 : Nat} (hE : EOk G B0 E) (h : Inv Z E st a w S vals fps cb) {p : Path} {e : TypeId} {es : Rows} (hl : look st.rt p = some (.row true e es)) {f : FuncId} {args args' : List AV} {vs : List Value} {Post : AV → Rows → Prop} {K : AV → St → Prop}
    (ha : RL (RA Z w S st.rt vals (adr st.bx cb)) args vs) (hs : lendArgs st p args = some args') (hF : Does Z P G B0 f args' [[.row true e es]] [false] Post)
    (hp : ∀ y rts', Post y rts' → noShrA y = true ∧ ∃ c', rts' = [[c']] ∧ noShr c' = true ∧ K (unpR ((st.lent p e c' es.length).ext 1) st.rt.length y).1 (unpR ((st.lent p e c' es.length).ext 1) st.rt.length y).2) : Calls P f vs.toArray w (CallGives Z E a K) := by
  have hG : G w := hE.gk _ _ hE.g hE.b (fun k hk => h.fr.block k (Nat.lt_of_lt_of_le hk hE.b) fun hl => by have := hE.l k hl; omega) h.fr.os h.fr.tape
  obtain ⟨fps1, fpc, I1, hrc, hflt, hsub, hfpc, htr⟩ := h.take hl
  have hlk1 : look (setc st.rt p .hole) p = some .hole := look_setc_self .hole p st.rt _ hl
  let val := (plc w st.rt vals (adr st.bx cb) p).1
  let S1 : Nat → Prop := fun k => S k ∨ (∃ r c, fps1 r c k) ∨ ∃ r, st.bx.getD r false = true ∧ cb r = k
  have hS1lt : ∀ k, S1 k → k < w.heap.size := fun k hk => by
    rcases hk with hk | ⟨r, c, hk⟩ | ⟨r, hr, rfl⟩
    · exact h.slt k hk
    · exact I1.rr.lt hk
    · exact h.box_lt hr
  have hS1f : ∀ k, fpc k → ¬ S1 k := fun k hk hs => by
    rcases hs with hs | ⟨r, c, hs⟩ | ⟨r, hr, e⟩
    · exact hrc.notS k hk hs
    · exact hflt.no k hk r c hs
    · exact hflt.nb k hk r hr e
  have hlt : ∀ k, fpc k → k < w.heap.size := fun k hk => hrc.lt k hk
  -- the callee's frame
  let hv : Nat → Nat → Value := fun _ _ => val
  let hf : Nat → Nat → Nat → Prop := fun r c k => r = 0 ∧ c = 0 ∧ fpc k
  have hlf : ∀ k, lentfp [false] hf cb k → fpc k := fun k hk => by
    rcases hk with ⟨_, _, hk⟩ | ⟨r, hr, _⟩
    · exact hk.2.2
    · cases r <;> simp at hr
  have hcell0 : ∀ i c cell, Abs.cellAt [[Cell.row true e es]] i c = some cell → i = 0 ∧ c = 0 ∧ cell = .row true e es := by
    intro i c cell hc
    unfold Abs.cellAt at hc
    cases i with
    | zero => cases c with
      | zero => simp at hc; exact ⟨rfl, rfl, hc.symm⟩
      | succ c => simp at hc
    | succ i => simp at hc
  have hargs : RL (RA Z w S1 [[.row true e es]] hv (adr [false] cb)) args' vs := by
    obtain ⟨e1, e2⟩ := lendArgs_spec st p args args' hs
    have hleaf : ∀ {x y : AV} {v : Value}, RA Z w S st.rt vals (adr st.bx cb) x v → leaf1 st p x = some y → RA Z w S1 [[.row true e es]] hv (adr [false] cb) y v := by
      intro x y v hx hy
      have hsn : ∀ {z : AV}, snap (st.setAt p .hole) (kill p x) = some z → RA Z w S1 [[.row true e es]] hv (adr [false] cb) z v := by
        intro z hz
        have h5 := snap_ok (S' := S1) I1 (fun k hk => .inl hk) (fun r c k hk => .inr (.inl ⟨r, c, hk⟩)) (fun r hr => .inr (.inr ⟨r, hr, rfl⟩)) hv (adr [false] cb) (htr x v hx) hz
        exact h5.roots fun i c cell hc => by simp [Abs.cellAt] at hc
      unfold leaf1 at hy
      split at hy
      · rename_i q lo len
        split at hy
        · rename_i hq
          subst hq
          cases hy
          cases hx with
          | @bor _ e2 es2 sz _ _ _ hl2 hsz hlen hss =>
            rw [hl] at hl2
            cases hl2
            exact .bor (e := e) (es' := es) (sz := sz) rfl hsz hlen hss
        · exact hsn hy
      · exact hsn hy
    refine ⟨by rw [e1]; exact ha.1, fun i y v hy hvv => ?_⟩
    have hi : i < args.length := by have := (List.getElem?_eq_some_iff.1 hy).1; omega
    have hxi : args[i]? = some args[i] := List.getElem?_eq_getElem hi
    have hra := ha.2 i _ v hxi hvv
    have hla := e2 i _ y hxi hy
    generalize args[i] = x at hra hla
    unfold lendArg at hla
    split at hla
    · rename_i xs
      split at hla
      · rename_i ys hys
        cases hla
        obtain ⟨g1, g2⟩ := leafL_spec st p xs ys hys
        cases hra with
        | @agg _ vs2 hln h1 hx =>
          refine .agg (by omega) h1 fun j z u hz hu => ?_
          have hj : j < xs.length := by have := (List.getElem?_eq_some_iff.1 hz).1; omega
          have hxj : xs[j]? = some xs[j] := List.getElem?_eq_getElem hj
          exact hleaf (hx j _ u hxj hu) (g2 j _ z hxj hz)
      · cases hla
    · exact hleaf hra hla
  have hlo : ∀ k, fpc k → E.lf k ∨ E.w0.heap.size ≤ k := fun k hk => hflt.own k hk
  have hc := hF.2 w S1 hv hf cb vs hE.gk hG (Nat.le_trans hE.b h.fr.size) (fun k hk => by
      rcases hlo k (hlf k hk) with h1 | h1
      · exact hE.l k h1
      · exact Nat.le_trans hE.b h1)
    ⟨rfl, rfl, ⟨rfl, rfl, rfl, Nat.le_refl _, fun _ _ _ => rfl⟩, fun _ hk => hk, hS1lt, fun k hk hl => hS1f k (hlf k hl) hk, fun k hk => .inl hk,
      ⟨fun i c cell hc => by
        obtain ⟨rfl, rfl, rfl⟩ := hcell0 i c cell hc
        have e : hf 0 0 = fpc := by funext k; simp [hf]
        rw [e]
        exact hrc.frame (fun _ _ => rfl) (fun _ _ => rfl) (fun k hk => .inl hk) hS1f, fun i c hc k hk => by
        obtain ⟨rfl, rfl, _⟩ := hk; simp [Abs.cellAt] at hc, fun i c i' c' k h1 h2 => ⟨h1.1.trans h2.1.symm, h1.2.1.trans h2.2.1.symm⟩⟩,
      fun r c k hk => .inl (.inl ⟨r, c, hk⟩), fun r cells hb => by cases r <;> simp at hb, fun r hb => by cases r <;> simp at hb, rfl, fun r hb => by cases r <;> simp at hb, fun r r' hb => by cases r <;> simp at hb, fun t => .dead, Nat.le_refl _, fun r hr => ⟨rfl, fun _ => rfl, fun _ _ => rfl⟩⟩ hargs
  refine hc.mono fun en w' hg => ?_
  obtain ⟨y, rts', v, S'', vals', fps', cb', fp, rfl, hpost, hok, _, hI, hR, hFl⟩ := hg
  obtain ⟨hny, c', rfl, hnc, hK⟩ := hp y rts' hpost
  have hfr : Fr fpc w w' := ⟨hI.fr.os, hI.fr.tape, hI.fr.output, hI.fr.size, fun k hk hn => hI.fr.block k hk fun hl => hn (hlf k hl)⟩
  have I2 : Inv Z E (st.setAt p .hole) a w' S vals fps1 cb := I1.world hfr ⟨hflt.no, hflt.nb, hflt.own⟩ fun k hk hs => hS1f k hk (.inl hs)
  have hval : (plc w' (setc st.rt p .hole) vals (adr st.bx cb) p).1 = val := by
    have h5 : plc w' (setc st.rt p .hole) vals (adr st.bx cb) p = plc w (setc st.rt p .hole) vals (adr st.bx cb) p :=
      plc_frame p _ vals _ fps1 _ I1.rr hlk1 fun ic rest _ k hk => hfr.block k (I1.rr.lt hk) fun hx => hflt.no k hx _ _ hk
    rw [h5, plc_setc w .hole p st.rt vals _ _ hl]
  have hv0 : vals' 0 0 = val := (hI.lent 0 (Nat.zero_lt_one)).2.2 rfl 0
  have hnew : ∀ k, (fpc k ∨ w.heap.size ≤ k) → (∀ r c, ¬ fps1 r c k) ∧ (∀ r, st.bx.getD r false = true → cb r ≠ k) ∧ ¬ S k ∧ (E.lf k ∨ E.w0.heap.size ≤ k) := by
    intro k hk
    rcases hk with hk | hk
    · exact ⟨hflt.no k hk, hflt.nb k hk, fun hs => hS1f k hk (.inl hs), hlo k hk⟩
    · exact ⟨fun r c hk2 => by have := I1.rr.lt hk2; omega, fun r hr e => by have := h.box_lt hr; omega, fun hs => by have := h.slt k hs; omega, .inr (Nat.le_trans h.fr.size hk)⟩
  have hown0 : ∀ k, fps' 0 0 k → fpc k ∨ w.heap.size ≤ k := fun k hk => (hI.own 0 0 k hk).imp (hlf k) id
  have hrc2 : RC Z w' S c' val (fps' 0 0) := by
    have := hI.rr.rc 0 0 c' rfl
    rw [hv0] at this
    exact this.free hnc fun k hk => (hnew k (hown0 k hk)).2.2.1
  have hlk2 : look (st.setAt p .hole).rt p = some .hole := hlk1
  obtain ⟨fps3, I3, hs3⟩ := I2.give hlk2 (cell' := c') (fp := fps' 0 0) (by
    have : (plc w' (st.setAt p .hole).rt vals (adr (st.setAt p .hole).bx cb) p).1 = val := hval
    rw [this]; exact hrc2) ⟨fun k hk => (hnew k (hown0 k hk)).1, fun k hk => (hnew k (hown0 k hk)).2.1, fun k hk => (hnew k (hown0 k hk)).2.2.2⟩
  have hrt : ((st.setAt p .hole).setSc p c').rt = setc st.rt p c' := setc_setc .hole c' p st.rt _ hl
  have I4 : Inv Z E (st.lent p e c' es.length) a w' S vals fps3 cb := by
    have hstep : Inv Z E ⟨st.nt, killS p st.sl, setc st.rt p c', st.bx⟩ a w' S vals fps3 cb := by
      have := I3
      unfold St.setSc at this
      simp only [St.setAt] at this
      rw [setc_setc .hole c' p st.rt _ hl] at this
      exact this
    refine { hstep with sl := fun t => ?_ }
    show RA Z w' S (setc st.rt p c') vals (adr st.bx cb) (getA (keepS p e c' es.length st.sl) t) _
    rw [getA_keep]
    have hk := hstep.sl t
    simp only [getA_kill] at hk
    have hx := h.sl t
    generalize getA st.sl t = x at hk hx
    unfold keepB
    split
    · rename_i q lo len
      split
      · rename_i hq
        obtain ⟨rfl, hlen⟩ := hq
        obtain ⟨es2, rfl, hlen⟩ := rowLen_some hlen
        generalize a.tmps.getD t undef = u at hx
        cases hx with
        | @bor _ e3 es3 sz _ _ _ hl3 hsz hln hss =>
          rw [hl] at hl3
          cases hl3
          obtain ⟨sz2, xs2, fq, ho2, hrows2, _, _, _, hze2⟩ := own_inner hrc2
          obtain ⟨sz1, xs1, fq1, ho1, hrows1, _, _, _, hze1⟩ := own_inner hrc
          have hplc : (plc w' (setc st.rt q (.row true e es2)) vals (adr st.bx cb) q).1 = val := by
            have h6 := plc_setc w' (.row true e es2) q (setc st.rt q .hole) vals (adr st.bx cb) _ hlk1
            rw [setc_setc .hole _ q st.rt _ hl] at h6
            rw [h6]; exact hval
          have hlk3 := look_setc_self (.row true e es2) q st.rt _ hl
          refine .bor hlk3 hrows2 (by omega) ?_
          rw [hplc]
          rcases hss with h0 | ⟨g, n, cap, hgv, hle, h0 | ⟨h7, off, cap', rfl, h8, h9, h10⟩⟩
          · exact .inl h0
          · exact .inr ⟨g, n, cap, hgv, hle, .inl h0⟩
          · refine .inr ⟨g, n, cap, hgv, hle, .inr ⟨h7, off, cap', rfl, h8, h9, ?_⟩⟩
            rcases h10 with h10 | h10
            · exact .inl h10
            · by_cases hl0 : len = 0
              · exact .inl hl0
              · right
                rw [h10]
                congr 1
                have hpos : 0 < es.length := by omega
                rw [← hsz _ (List.getElem_mem hpos), hrows1 _ (List.getElem_mem hpos), ← hze1, hze2]
      · exact hk
    · exact hk
  have hflt4 : Flt E (st.lent p e c' es.length) fps3 cb fp := by
    have hfp : ∀ k, fp k → fpc k ∨ w.heap.size ≤ k := fun k hk => (hFl.own k hk).imp (hlf k) id
    refine ⟨fun k hk r c hk3 => ?_, fun k hk r hr => (hnew k (hfp k hk)).2.1 r hr, fun k hk => (hnew k (hfp k hk)).2.2.2⟩
    rcases hs3 r c k hk3 with h5 | h5
    · exact (hnew k (hfp k hk)).1 r c h5
    · exact hFl.no k hk 0 0 h5
  have hR2 : PR Z w' S y v fp := hR.free hny fun k hk => (hnew k ((hFl.own k hk).imp (hlf k) id)).2.2.1
  have hlenr : (st.lent p e c' es.length).rt.length = st.rt.length := setc_len st.rt p c'
  have hfree := ext_free I4
  rw [hlenr] at hfree
  obtain ⟨vals5, fps5, cb5, g1, g2⟩ := unpR_ok (I4.ext 1) hfree h.lnl hR2 hok hflt4.ext
  exact ⟨_, v, _, S, vals5, fps5, cb5, rfl, hK, g1, g2⟩
end
end Go.Abs

/- A call that is lent whole roots: boxes, and rows of one's own. -/
namespace Go.Abs
open Go
set_option linter.unusedVariables false
set_option linter.unusedSimpArgs false
variable {Z : TypeId → Nat}
def posOf : List Nat → Nat → Option Nat
  | [], _ => none
  | x :: xs, r => if x = r then some 0 else (posOf xs r).map (· + 1)
theorem posOf_some : ∀ {rs : List Nat} {r i : Nat}, posOf rs r = some i → rs[i]? = some r
  | [], r, i, h => by cases h
  | x :: xs, r, i, h => by
    simp only [posOf] at h
    split at h
    · rename_i hx; cases h; simp [hx]
    · simp only [Option.map_eq_some_iff] at h
      obtain ⟨j, hj, rfl⟩ := h
      simpa using posOf_some hj
theorem posOf_none : ∀ {rs : List Nat} {r : Nat}, posOf rs r = none → r ∉ rs
  | [], r, _ => by simp
  | x :: xs, r, h => by
    simp only [posOf] at h
    split at h
    · cases h
    · rename_i hx
      simp only [Option.map_eq_none_iff] at h
      have := posOf_none h
      simp only [List.mem_cons, not_or]
      exact ⟨fun e => hx e.symm, this⟩
theorem posOf_get : ∀ {rs : List Nat} {r i : Nat}, rs.Nodup → rs[i]? = some r → posOf rs r = some i
  | [], r, i, _, h => by simp at h
  | x :: xs, r, i, hn, h => by
    simp only [List.nodup_cons] at hn
    simp only [posOf]
    cases i with
    | zero => simp at h; simp [h]
    | succ i =>
      simp at h
      have hne : x ≠ r := fun e => hn.1 (e ▸ List.mem_of_getElem? h)
      rw [if_neg hne, posOf_get hn.2 h]; rfl
def setRs : Rows → List Nat → Rows → Rows
  | rt, r :: rs, x :: xs => setRs (rt.set r x) rs xs
  | rt, _, _ => rt
theorem setRs_len : ∀ (rs : List Nat) (xs rt : Rows), (setRs rt rs xs).length = rt.length
  | [], _, _ => by simp [setRs]
  | r :: rs, [], _ => by simp [setRs]
  | r :: rs, x :: xs, rt => by simp [setRs, setRs_len rs xs]
theorem setRs_get : ∀ (rs : List Nat) (xs rt : Rows), xs.length = rs.length → rs.Nodup → (∀ i ∈ rs, i < rt.length) → ∀ r, (setRs rt rs xs)[r]? = match posOf rs r with
    | some i => xs[i]?
    | none => rt[r]?
  | [], [], rt, _, _, _, r => by simp [setRs, posOf]
  | r0 :: rs, x :: xs, rt, hl, hn, hm, r => by
    simp only [List.nodup_cons] at hn
    simp only [setRs, posOf]
    rw [setRs_get rs xs (rt.set r0 x) (by simpa using hl) hn.2 (fun i hi => by simpa using hm i (List.mem_cons_of_mem _ hi)) r]
    by_cases h : r0 = r
    · subst h
      have : posOf rs r0 = none := by
        cases hp : posOf rs r0 with
        | none => rfl
        | some i => exact absurd (List.mem_of_getElem? (posOf_some hp)) hn.1
      simp [this, List.getElem?_set, hm r0 (List.mem_cons_self ..)]
    · rw [if_neg h]
      cases hp : posOf rs r with
      | none => simp [List.getElem?_set, h]
      | some i => simp
  | [], x :: xs, rt, hl, _, _, r => by simp at hl
  | r0 :: rs, [], rt, hl, _, _, r => by simp at hl
def hit (rs : List Nat) : Path → Bool
  | [] => false
  | (r, _) :: _ => (posOf rs r).isSome
mutual
def killR (rs : List Nat) : AV → AV
  | .ptr p => if hit rs p then .dead else .ptr p
  | .bor p lo len => if hit rs p then .dead else .bor p lo len
  | .agg xs => .agg (killRL rs xs)
  | .tup xs => .tup (killRL rs xs)
  | .fn f a b => .fn f (killRL rs a) (killRL rs b)
  | .c c => .c c
  | .nils => .nils
  | .sptr cs o => .sptr cs o
  | .nb cs => .nb cs
  | .dead => .dead
def killRL (rs : List Nat) : List AV → List AV
  | [] => []
  | x :: r => killR rs x :: killRL rs r
end
theorem killRL_eq (rs : List Nat) : ∀ l, killRL rs l = l.map (killR rs)
  | [] => rfl
  | x :: r => by simp [killRL, killRL_eq rs r]
def sameRow (a b : Option Cell) : Bool :=
  match a, b with
  | some (.row true e es), some (.row true e' es') => e' == e && es'.length == es.length
  | _, _ => false
/-- A slot behind such a call. -/
def keepR (st : St) (rs : List Nat) (rts' : Rows) (x : AV) : AV :=
  match x with
  | .ptr [(r, c)] => match posOf rs r with
    | some i => if c < (rts'.getD i []).length then .ptr [(r, c)] else .dead
    | none => .ptr [(r, c)]
  | .bor [(r, c)] lo len => match posOf rs r with
    | some i => if st.bx.getD r false = false ∧ sameRow (cellAt st.rt r c) (cellAt rts' i c) = true then .bor [(r, c)] lo len else .dead
    | none => .bor [(r, c)] lo len
  | x => killR rs x
def St.back (st : St) (rs : List Nat) (rts' : Rows) : St := ⟨st.nt, st.sl.map fun x => (x.1, keepR st rs rts' x.2), setRs st.rt rs rts', st.bx⟩
theorem getA_map (g : AV → AV) (hg : g .dead = .dead) (t : Nat) : ∀ sl : List (Nat × AV), getA (sl.map fun x => (x.1, g x.2)) t = g (getA sl t)
  | [] => by simp [getA, hg]
  | (k, v) :: r => by
    have ih := getA_map g hg t r
    simp only [List.map_cons, getA] at ih ⊢
    split
    · rfl
    · exact ih
section
variable {E : Ent} {st : St} {a : Act} {w w' : World} {S S' : Nat → Prop} {vals : Nat → Nat → Value} {fps : Nat → Nat → Nat → Prop} {cb : Nat → Nat}
theorem call_roots {P : Program} {G : World → Prop} {B0 : Nat} (hE : EOk G B0 E) (h : Inv Z E st a w S vals fps cb) (rs : List Nat) (hm : ∀ i ∈ rs, i < st.rt.length) (hnd : rs.Nodup) {f : FuncId} {args args' : List AV} {vs : List Value} {Post : AV → Rows → Prop} {K : AV → St → Prop}
    (ha : RL (RA Z w S st.rt vals (adr st.bx cb)) args vs) (hs : args = args'.map (ren rs)) (hh : ∀ x ∈ args', hd rs.length x = true) (hF : Does Z P G B0 f args' (rs.map fun i => st.rt.getD i []) (rs.map fun i => st.bx.getD i false) Post)
    (hp : ∀ y rts', Post y rts' → rts'.length = rs.length → K (unpR ((st.back rs rts').ext 1) st.rt.length y).1 (unpR ((st.back rs rts').ext 1) st.rt.length y).2) : Calls P f vs.toArray w (CallGives Z E a K) := by
  have hG : G w := hE.gk _ _ hE.g hE.b (fun k hk => h.fr.block k (Nat.lt_of_lt_of_le hk hE.b) fun hl => by have := hE.l k hl; omega) h.fr.os h.fr.tape
  -- a frame of no lent roots
  let E1 : Ent := ⟨w, S, 0, vals, cb, [], fun k => ¬ S k⟩
  have hfr0 : Fr (fun k => ¬ S k) w w := ⟨rfl, rfl, rfl, Nat.le_refl _, fun _ _ _ => rfl⟩
  have h1 : Inv Z E1 ⟨0, [], st.rt, st.bx⟩ ⟨#[], []⟩ w S vals fps cb :=
    ⟨rfl, rfl, hfr0, fun _ h => h, h.slt, fun k hk hn => hn hk, fun k hk => .inl hk, h.rr, fun r c k hk => .inl (h.rr.notS hk), h.box, h.bxl, h.bxn, fun r hr => ⟨(h.bxS r hr).1, (h.bxS r hr).2.1, .inl (h.bxS r hr).1⟩, h.bxd, fun t => .dead, Nat.zero_le _, fun r hr => absurd hr (Nat.not_lt_zero r)⟩
  have h2 := h1.ren (sl' := []) rs hm hnd (fun r hr => absurd hr (Nat.not_lt_zero r)) trivial
  let rts := rs.map fun i => st.rt.getD i []
  let bxs := rs.map fun i => st.bx.getD i false
  let hv : Nat → Nat → Value := fun r c => vals (rs.getD r 0) c
  let hf : Nat → Nat → Nat → Prop := fun r c k => r < rs.length ∧ fps (rs.getD r 0) c k
  let hcb : Nat → Nat := fun r => cb (rs.getD r 0)
  have hrl : rts.length = rs.length := by simp [rts]
  have hpos : ∀ i, i < rs.length → posOf rs (rs.getD i 0) = some i := fun i hi => posOf_get hnd (by simp [List.getD_eq_getElem?_getD, hi])
  have hbxi : ∀ i, bxs.getD i false = true → i < rs.length ∧ st.bx.getD (rs.getD i 0) false = true := by
    intro i hi
    simp only [bxs, List.getD_eq_getElem?_getD, List.getElem?_map] at hi ⊢
    cases hx : rs[i]? with
    | none => rw [hx] at hi; simp at hi
    | some r => rw [hx] at hi; exact ⟨(List.getElem?_eq_some_iff.1 hx).1, by simpa using hi⟩
  have hbxo : ∀ i, i < rs.length → bxs.getD i false = st.bx.getD (rs.getD i 0) false := by
    intro i hi
    simp [bxs, List.getD_eq_getElem?_getD, hi]
  have hget : ∀ {i r}, posOf rs r = some i → i < rs.length ∧ rs.getD i 0 = r := fun {i r} hi => by
    have := posOf_some hi
    exact ⟨(List.getElem?_eq_some_iff.1 this).1, by rw [List.getD_eq_getElem?_getD, this]; rfl⟩
  let LF := lentfp bxs hf hcb
  -- lent blocks are of lent roots
  have hLF : ∀ k, LF k → (∀ r c, posOf rs r = none → ¬ fps r c k) ∧ (∀ r, posOf rs r = none → st.bx.getD r false = true → cb r ≠ k) ∧ ¬ S k ∧ k < w.heap.size ∧ (E.lf k ∨ E.w0.heap.size ≤ k) := by
    intro k hk
    rcases hk with ⟨i, c, hi, hk⟩ | ⟨i, hi, rfl⟩
    · refine ⟨fun r c' hr hk2 => ?_, fun r hr hb e => (h.bxS r hb).2.1 _ _ (e ▸ hk), h.rr.notS hk, h.rr.lt hk, h.own _ _ _ hk⟩
      have := (h.rr.dj _ _ _ _ _ hk hk2).1
      rw [← this, hpos i hi] at hr; cases hr
    · obtain ⟨hi1, hi2⟩ := hbxi i hi
      refine ⟨fun r c' hr hk2 => (h.bxS _ hi2).2.1 _ _ hk2, fun r hr hb e => ?_, (h.bxS _ hi2).1, h.box_lt hi2, (h.bxS _ hi2).2.2⟩
      have := h.bxd _ _ hb hi2 e
      rw [this, hpos i hi1] at hr; cases hr
  have hentry : Inv Z (entOf w S rts bxs hv hf hcb) ⟨0, [], rts, bxs⟩ ⟨#[], []⟩ w S hv hf hcb :=
    ⟨rfl, rfl, ⟨rfl, rfl, rfl, Nat.le_refl _, fun _ _ _ => rfl⟩, fun _ h => h, h.slt, fun k hk hl => (hLF k hl).2.2.1 hk, fun k hk => .inl hk, h2.rr, fun r c k hk => .inl (.inl ⟨r, c, hk⟩), h2.box, h2.bxl, h2.bxn,
      fun r hr => ⟨(h2.bxS r hr).1, (h2.bxS r hr).2.1, .inl (.inr ⟨r, hr, rfl⟩)⟩, h2.bxd, fun t => .dead, Nat.le_refl _, fun r hr => ⟨rfl, fun _ => rfl, fun _ _ => rfl⟩⟩
  have hargs : RL (RA Z w S rts hv (adr bxs hcb)) args' vs := by
    subst hs
    refine ⟨by simpa using ha.1, fun i x v hx hvv => ?_⟩
    have h5 := ra_ren hm (ha.2 i _ v (by rw [List.getElem?_map, hx]; rfl) hvv) x rfl (hh x (List.mem_of_getElem? hx))
    refine h5.roots fun i c y hy => ⟨hy, rfl, ?_⟩
    have hi := (cellAt_ren hm hy).1
    unfold adr
    rw [hbxo i hi]
  refine (hF.2 w S hv hf hcb vs hE.gk hG (Nat.le_trans hE.b h.fr.size) (fun k hk => ?_) hentry hargs).mono fun en w' hg => ?_
  · rcases (hLF k hk).2.2.2.2 with h5 | h5
    · exact hE.l k h5
    · exact Nat.le_trans hE.b h5
  obtain ⟨y, rts', v, S'', vals', fps', cb', fp, rfl, hpost, hok, hlen, hI, hR, hFl⟩ := hg
  have hlen' : rts'.length = rs.length := by rw [hlen, hrl]
  have hK := hp y rts' hpost hlen'
  have hlnt : ∀ i, i < rs.length → (bxs.getD i false = true → cb' i = hcb i) ∧ (bxs.getD i false = false → ∀ c, vals' i c = hv i c) := fun i hi => (hI.lent i (by show i < rts.length; omega)).2
  have hsame : ∀ k, k < w.heap.size → ¬ LF k → w'.heap[k]? = w.heap[k]? := hI.fr.block
  have hSn : ∀ k, S'' k → S k ∨ w.heap.size ≤ k := hI.sn
  have hnw : ∀ k, (LF k ∨ w.heap.size ≤ k) → (∀ r c, posOf rs r = none → ¬ fps r c k) ∧ (∀ r, posOf rs r = none → st.bx.getD r false = true → cb r ≠ k) ∧ (E.lf k ∨ E.w0.heap.size ≤ k) := by
    intro k hk
    rcases hk with hk | hk
    · exact ⟨(hLF k hk).1, (hLF k hk).2.1, (hLF k hk).2.2.2.2⟩
    · exact ⟨fun r c _ hk2 => by have := h.rr.lt hk2; omega, fun r _ hr e => by have := h.box_lt hr; omega, .inr (Nat.le_trans h.fr.size hk)⟩
  let vals2 : Nat → Nat → Value := fun r c => match posOf rs r with | some i => vals' i c | none => vals r c
  let fps2 : Nat → Nat → Nat → Prop := fun r c k => match posOf rs r with | some i => fps' i c k | none => fps r c k
  have hrt2 : ∀ r, (setRs st.rt rs rts')[r]? = match posOf rs r with | some i => rts'[i]? | none => st.rt[r]? := setRs_get rs rts' st.rt hlen' hnd hm
  have hca : ∀ r c, Abs.cellAt (setRs st.rt rs rts') r c = match posOf rs r with | some i => Abs.cellAt rts' i c | none => Abs.cellAt st.rt r c := by
    intro r c
    unfold Abs.cellAt
    rw [hrt2]
    cases posOf rs r <;> rfl
  have hSf : ∀ r c k, posOf rs r = none → fps r c k → ¬ S'' k := fun r c k hr hk hs => by
    rcases hSn k hs with h5 | h5
    · exact h.rr.notS hk h5
    · have := h.rr.lt hk; omega
  have hkeepS : ∀ k, S k → w'.heap[k]? = w.heap[k]? := fun k hk => hsame k (h.slt k hk) fun hl => (hLF k hl).2.2.1 hk
  have hkeepF : ∀ r c k, posOf rs r = none → fps r c k → w'.heap[k]? = w.heap[k]? := fun r c k hr hk => hsame k (h.rr.lt hk) fun hl => (hLF k hl).1 r c hr hk
  -- places apart from the lent roots
  have hplc : ∀ p cell, look st.rt p = some cell → hit rs p = false → look (setRs st.rt rs rts') p = some cell ∧ plc w' (setRs st.rt rs rts') vals2 (adr st.bx cb) p = plc w st.rt vals (adr st.bx cb) p := by
    intro p cell hl hn
    cases p with
    | nil => simp [look] at hl
    | cons ic rest =>
      obtain ⟨r, c⟩ := ic
      have hr : posOf rs r = none := by simp only [hit] at hn; cases hpr : posOf rs r <;> simp_all
      have hc := hca r c
      simp only [hr] at hc
      refine ⟨by rw [look_head rest hc]; exact hl, ?_⟩
      rw [plc_head2 (vals2 := vals) (ad2 := adr st.bx cb) w' rest hc (by simp only [vals2, hr]) rfl]
      exact plc_frame _ st.rt vals _ fps cell h.rr hl fun ic2 rest2 he k hk => by cases he; exact hkeepF r c k hr hk
  have hra : ∀ {x : AV} {u : Value}, RA Z w S st.rt vals (adr st.bx cb) x u → RA Z w' S'' (setRs st.rt rs rts') vals2 (adr st.bx cb) (killR rs x) u := by
    intro x u hx
    induction hx with
    | c h => exact .c (h.frame0 hkeepS hI.s0)
    | nils => exact .nils
    | @ptr p cell ad hl hx =>
      simp only [killR]
      cases hq : hit rs p with
      | true => exact .dead
      | false =>
        obtain ⟨g1, g2⟩ := hplc p cell hl hq
        exact .ptr g1 (by rw [g2]; exact hx)
    | sptr hSb hb hr ho => exact .sptr (hI.s0 _ hSb) (by rw [hkeepS _ hSb]; exact hb) (fun j cell hj => let ⟨v, h1, h2⟩ := hr j cell hj; ⟨v, h1, h2.frame0 hkeepS hI.s0⟩) ho
    | @bor p e es sz lo len v hl hsz hln hs2 =>
      simp only [killR]
      cases hq : hit rs p with
      | true => exact .dead
      | false =>
        obtain ⟨g1, g2⟩ := hplc p _ hl hq
        exact .bor g1 hsz hln (by rw [g2]; exact hs2)
    | agg hl h1 hx ih =>
      simp only [killR, killRL_eq]
      refine .agg (by simpa using hl) h1 fun i x v hxi hvi => ?_
      rw [List.getElem?_map] at hxi
      simp only [Option.map_eq_some_iff] at hxi
      obtain ⟨x0, h5, rfl⟩ := hxi
      exact ih i x0 v h5 hvi
    | tup hl hx ih =>
      simp only [killR, killRL_eq]
      refine .tup (by simpa using hl) fun i x v hxi hvi => ?_
      rw [List.getElem?_map] at hxi
      simp only [Option.map_eq_some_iff] at hxi
      obtain ⟨x0, h5, rfl⟩ := hxi
      exact ih i x0 v h5 hvi
    | fn hl hl2 hx hy ih ih2 =>
      simp only [killR, killRL_eq]
      refine .fn (by simpa using hl) (by simpa using hl2) (fun i x v hxi hvi => ?_) fun i x v hxi hvi => ?_
      · rw [List.getElem?_map] at hxi
        simp only [Option.map_eq_some_iff] at hxi
        obtain ⟨x0, h5, rfl⟩ := hxi
        exact ih i x0 v h5 hvi
      · rw [List.getElem?_map] at hxi
        simp only [Option.map_eq_some_iff] at hxi
        obtain ⟨x0, h5, rfl⟩ := hxi
        exact ih2 i x0 v h5 hvi
    | dead => exact .dead
  have hown' : ∀ i c k, fps' i c k → LF k ∨ w.heap.size ≤ k := fun i c k hk => hI.own i c k hk
  have hcb' : ∀ i, bxs.getD i false = true → cb' i = cb (rs.getD i 0) := fun i hi => (hlnt i (hbxi i hi).1).1 hi
  have I2 : Inv Z E (st.back rs rts') a w' S'' vals2 fps2 cb := by
    refine ⟨h.dfr, h.nt, h.fr.trans (X := LF) ⟨hI.fr.os, hI.fr.tape, hI.fr.output, hI.fr.size, hI.fr.block⟩ (fun k hk hx => ((hLF k hx).2.2.2.2).resolve_right (by omega)), fun k hk => hI.s0 k (h.s0 k hk), hI.slt, fun k hk hl => ?_, fun k hk => ?_, ⟨fun r c cell hc => ?_, fun r c hc k hk => ?_, fun r c r' c' k hk hk' => ?_⟩, fun r c k hk => ?_, fun r cells hb hr => ?_, fun r hb => by simp only [St.back, setRs_len]; exact h.bxl r hb, by simp only [St.back, setRs_len]; exact h.bxn, fun r hb => ?_, h.bxd, fun t => ?_, by simp only [St.back, setRs_len]; exact h.lnl, fun r hr => ?_⟩
    · rcases hSn k hk with h5 | h5
      · exact h.slf k h5 hl
      · have := hE.lt k hl; have := h.fr.size; omega
    · rcases hSn k hk with h5 | h5
      · exact h.sn k h5
      · exact .inr (Nat.le_trans h.fr.size h5)
    · simp only [St.back] at hc
      rw [hca] at hc
      simp only [vals2, fps2]
      cases hr : posOf rs r with
      | some i => simp only [hr] at hc ⊢; exact hI.rr.rc i c cell hc
      | none =>
        simp only [hr] at hc ⊢
        exact (h.rr.rc r c cell hc).frame hkeepS (fun k hk => hkeepF r c k hr hk) hI.s0 fun k hk => hSf r c k hr hk
    · simp only [St.back] at hc
      rw [hca] at hc
      simp only [fps2] at hk
      cases hr : posOf rs r with
      | some i => simp only [hr] at hc hk; exact hI.rr.out i c hc k hk
      | none => simp only [hr] at hc hk; exact h.rr.out r c hc k hk
    · simp only [fps2] at hk hk'
      cases hr : posOf rs r with
      | some i =>
        simp only [hr] at hk
        cases hr' : posOf rs r' with
        | some i' =>
          simp only [hr'] at hk'
          obtain ⟨e1, e2⟩ := hI.rr.dj _ _ _ _ _ hk hk'
          subst e1
          exact ⟨(hget hr).2.symm.trans (hget hr').2, e2⟩
        | none => simp only [hr'] at hk'; exact absurd hk' ((hnw k (hown' i c k hk)).1 r' c' hr')
      | none =>
        simp only [hr] at hk
        cases hr' : posOf rs r' with
        | some i' => simp only [hr'] at hk'; exact absurd hk ((hnw k (hown' i' c' k hk')).1 r c hr)
        | none => simp only [hr'] at hk'; exact h.rr.dj _ _ _ _ _ hk hk'
    · simp only [fps2] at hk
      cases hr : posOf rs r with
      | some i => simp only [hr] at hk; exact (hnw k (hown' i c k hk)).2.2
      | none => simp only [hr] at hk; exact h.own r c k hk
    · simp only [St.back] at hb hr
      rw [hrt2] at hr
      simp only [vals2]
      cases hp2 : posOf rs r with
      | some i =>
        simp only [hp2] at hr ⊢
        obtain ⟨hi1, hi2⟩ := hget hp2
        have hbi : bxs.getD i false = true := by rw [hbxo i hi1, hi2]; exact hb
        have := hI.box i cells hbi hr
        rw [hcb' i hbi, hi2] at this
        exact this
      | none =>
        simp only [hp2] at hr ⊢
        obtain ⟨cur, ty, g1, g2, g3⟩ := h.box r cells hb hr
        exact ⟨cur, ty, by rw [hsame _ (h.box_lt hb) fun hl => (hLF _ hl).2.1 r hp2 hb rfl]; exact g1, g2, g3⟩
    · simp only [St.back] at hb
      obtain ⟨b1, b2, b3⟩ := h.bxS r hb
      cases hp2 : posOf rs r with
      | some i =>
        obtain ⟨hi1, hi2⟩ := hget hp2
        have hbi : bxs.getD i false = true := by rw [hbxo i hi1, hi2]; exact hb
        obtain ⟨k1, k2, _⟩ := hI.bxS i hbi
        rw [hcb' i hbi, hi2] at k1 k2
        refine ⟨k1, fun r' c hk => ?_, b3⟩
        simp only [fps2] at hk
        cases hr' : posOf rs r' with
        | some i' => simp only [hr'] at hk; exact k2 i' c hk
        | none => simp only [hr'] at hk; exact b2 r' c hk
      | none =>
        refine ⟨fun hs => ?_, fun r' c hk => ?_, b3⟩
        · rcases hSn _ hs with h5 | h5
          · exact b1 h5
          · have := h.box_lt hb; omega
        · simp only [fps2] at hk
          cases hr' : posOf rs r' with
          | some i' => simp only [hr'] at hk; exact (hnw _ (hown' i' c _ hk)).2.1 r hp2 hb rfl
          | none => simp only [hr'] at hk; exact b2 r' c hk
    · show RA Z w' S'' (setRs st.rt rs rts') vals2 (adr st.bx cb) (getA (st.sl.map fun x => (x.1, keepR st rs rts' x.2)) t) _
      rw [getA_map (keepR st rs rts') rfl]
      have hx := h.sl t
      generalize getA st.sl t = x at hx
      generalize a.tmps.getD t undef = u at hx
      have hkl := hra hx
      unfold keepR
      split
      · rename_i r c
        split
        · rename_i i hp2
          split
          · rename_i hlt
            cases hx with
            | @ptr _ cell ad hl hx =>
              obtain ⟨hi1, hi2⟩ := hget hp2
              refine .ptr (cell := (rts'.getD i [])[c]) ?_ hx
              rw [look_one, hca]
              simp only [hp2]
              unfold Abs.cellAt
              have hi3 : i < rts'.length := by omega
              simp [List.getD_eq_getElem?_getD, hi3] at hlt ⊢
          · exact .dead
        · rename_i hp2
          simpa [killR, hit, hp2] using hkl
      · rename_i r c lo len
        split
        · rename_i i hp2
          split
          · rename_i hcond
            obtain ⟨hb, hsr⟩ := hcond
            cases hx with
            | @bor _ e es sz _ _ _ hl hsz hln hs2 =>
              rw [look_one] at hl
              rw [hl] at hsr
              unfold sameRow at hsr
              split at hsr
              · rename_i e1 es1 e2 es2 ha1 hb1
                cases ha1
                simp only [Bool.and_eq_true, beq_iff_eq] at hsr
                obtain ⟨rfl, hlen2⟩ := hsr
                obtain ⟨hi1, hi2⟩ := hget hp2
                have hvv : vals' i c = vals r c := by
                  have := (hlnt i hi1).2 (by rw [hbxo i hi1, hi2]; exact hb) c
                  rw [this]; simp only [hv, hi2]
                obtain ⟨sz2, xs2, fq, ho2, hrows2, _, _, _, hze2⟩ := own_inner (hI.rr.rc i c _ hb1)
                obtain ⟨sz1, xs1, fq1, ho1, hrows1, _, _, _, hze1⟩ := own_inner (h.rr.rc r c _ hl)
                refine .bor (e := e2) (es' := es2) (sz := sz2) ?_ hrows2 (by omega) ?_
                · rw [look_one, hca]; simp only [hp2]; exact hb1
                · simp only [plc_one, vals2, hp2] at hs2 ⊢
                  rw [hvv]
                  rcases hs2 with h0 | ⟨g, n, cap, hgv, hle, h0 | ⟨h7, off, cap', rfl, h8, h9, h10⟩⟩
                  · exact .inl h0
                  · exact .inr ⟨g, n, cap, hgv, hle, .inl h0⟩
                  · refine .inr ⟨g, n, cap, hgv, hle, .inr ⟨h7, off, cap', rfl, h8, h9, ?_⟩⟩
                    rcases h10 with h10 | h10
                    · exact .inl h10
                    · by_cases hl0 : len = 0
                      · exact .inl hl0
                      · right
                        rw [h10]
                        congr 1
                        have hpos2 : 0 < es.length := by omega
                        rw [← hsz _ (List.getElem_mem hpos2), hrows1 _ (List.getElem_mem hpos2), ← hze1, hze2]
              · cases hsr
          · exact .dead
        · rename_i hp2
          simpa [killR, hit, hp2] using hkl
      · exact hkl
    · obtain ⟨l1, l2, l3⟩ := h.lent r hr
      refine ⟨l1, l2, fun hb c => ?_⟩
      simp only [St.back] at hb
      simp only [vals2]
      cases hp2 : posOf rs r with
      | some i =>
        simp only
        obtain ⟨hi1, hi2⟩ := hget hp2
        rw [(hlnt i hi1).2 (by rw [hbxo i hi1, hi2]; exact hb) c]
        simp only [hv, hi2]
        exact l3 hb c
      | none => exact l3 hb c
  have hflt : Flt E (st.back rs rts') fps2 cb fp := by
    have hfp : ∀ k, fp k → LF k ∨ w.heap.size ≤ k := fun k hk => hFl.own k hk
    refine ⟨fun k hk r c hk2 => ?_, fun k hk r hb => ?_, fun k hk => (hnw k (hfp k hk)).2.2⟩
    · simp only [fps2] at hk2
      cases hp2 : posOf rs r with
      | some i => simp only [hp2] at hk2; exact hFl.no k hk i c hk2
      | none => simp only [hp2] at hk2; exact (hnw k (hfp k hk)).1 r c hp2 hk2
    · simp only [St.back] at hb
      cases hp2 : posOf rs r with
      | some i =>
        obtain ⟨hi1, hi2⟩ := hget hp2
        have hbi : bxs.getD i false = true := by rw [hbxo i hi1, hi2]; exact hb
        have := hFl.nb k hk i hbi
        rw [hcb' i hbi, hi2] at this
        exact this
      | none => exact (hnw k (hfp k hk)).2.1 r hp2 hb
  have hlr : (st.back rs rts').rt.length = st.rt.length := setRs_len rs rts' st.rt
  have hfree := ext_free I2
  rw [hlr] at hfree
  obtain ⟨vals5, fps5, cb5, g1, g2⟩ := unpR_ok (I2.ext 1) hfree h.lnl hR hok hflt.ext
  exact ⟨_, v, _, S'', vals5, fps5, cb5, rfl, hK, g1, g2⟩
end
end Go.Abs

/- Regions in their order: operation by operation; calls by contracts. -/
namespace Go.Abs
open Go
set_option linter.unusedVariables false
set_option linter.unusedSimpArgs false
variable {Z : TypeId → Nat}
section
variable {E : Ent} {st : St} {a : Act} {w w' : World} {S S' : Nat → Prop} {vals : Nat → Nat → Value} {fps : Nat → Nat → Nat → Prop} {cb : Nat → Nat}
/-- A call, by a contract. -/
inductive CallA (Z : TypeId → Nat) (P : Program) (G : World → Prop) (B0 : Nat) (st : St) (f : FuncId) (args : List AV) (K : AV → St → Prop) : Prop
  | snap {args' : List AV} {Post : AV → Prop} (hs : snapL st args = some args') (hF : Does Z P G B0 f args' [] [] fun y _ => Post y) (hp : ∀ y, Post y → noShrA y = true ∧ K (unpR (st.ext 1) st.rt.length y).1 (unpR (st.ext 1) st.rt.length y).2)
  | clos {Post : AV → Prop} (hs : closL args = true) (hF : Does Z P G B0 f args [] [] fun y _ => Post y) (hp : ∀ y, Post y → K (unpR (st.ext 1) st.rt.length y).1 (unpR (st.ext 1) st.rt.length y).2)
  | row {p : Path} {e : TypeId} {es : Rows} {args' : List AV} {Post : AV → Rows → Prop} (hl : look st.rt p = some (.row true e es)) (hs : lendArgs st p args = some args') (hF : Does Z P G B0 f args' [[.row true e es]] [false] Post)
    (hp : ∀ y rts', Post y rts' → noShrA y = true ∧ ∃ c', rts' = [[c']] ∧ noShr c' = true ∧ K (unpR ((st.lent p e c' es.length).ext 1) st.rt.length y).1 (unpR ((st.lent p e c' es.length).ext 1) st.rt.length y).2)
  | roots (rs : List Nat) {args' : List AV} {Post : AV → Rows → Prop} (hm : ∀ i ∈ rs, i < st.rt.length) (hnd : rs.Nodup) (hs : args = args'.map (ren rs)) (hh : ∀ x ∈ args', hd rs.length x = true)
    (hF : Does Z P G B0 f args' (rs.map fun i => st.rt.getD i []) (rs.map fun i => st.bx.getD i false) Post)
    (hp : ∀ y rts', Post y rts' → rts'.length = rs.length → K (unpR ((st.back rs rts').ext 1) st.rt.length y).1 (unpR ((st.back rs rts').ext 1) st.rt.length y).2)
theorem callA_ok {P : Program} {G : World → Prop} {B0 : Nat} (hE : EOk G B0 E) (h : Inv Z E st a w S vals fps cb) {f : FuncId} {args : List AV} {vs : List Value} {K : AV → St → Prop} (ha : RL (RA Z w S st.rt vals (adr st.bx cb)) args vs) (hc : CallA Z P G B0 st f args K) :
    callable P f = true ∧ Calls P f vs.toArray w (CallGives Z E a K) := by
  cases hc with
  | snap hs hF hp => exact ⟨hF.1, (call_snap hE h ha hs hF fun y hy => (hp y hy).1).mono fun e w' => back_gives h.bxn h.lnl fun y hy => (hp y hy).2⟩
  | clos hs hF hp => exact ⟨hF.1, (call_clos hE h ha hs hF).mono fun e w' => back_gives h.bxn h.lnl hp⟩
  | row hl hs hF hp => exact ⟨hF.1, call_row hE h hl ha hs hF hp⟩
  | roots rs hm hnd hs hh hF hp => exact ⟨hF.1, call_roots hE h rs hm hnd ha hs hh hF hp⟩
/-- A guard. -/
def gateA (dsts : List (Option Nat)) (st : St) (g : Option (Nat × Bool)) (run skip : Prop) : Prop :=
  match g with
  | none => run
  | some (j, want) => match (dsts[j]?).bind id with
    | none => skip
    | some d => match getA st.sl d with
      | .c (.sc (.bool b)) => (b = want → run) ∧ (b = (!want) → skip)
      | .tup [] => skip
      | _ => False
/-- One operation. -/
def stepA (Z : TypeId → Nat) (P : Program) (G : World → Prop) (B0 : Nat) (st : St) (o : Oper) (K : St → Prop) : Prop :=
  match o.op with
  | .call { callee := .value fv, args := args, argTypes := _ } => match evA st fv with
    | .fn f first caps => CallA Z P G B0 st f (first ++ args.toList.map (evA st) ++ caps) fun av st' => st'.can o.dst = true ∧ K (st'.put o.dst av)
    | _ => False
  | op => match opA P st op with
    | some (av, st') => st'.can o.dst = true ∧ K (st'.put o.dst av)
    | none => False
/-- Operations in their order. -/
def regA (Z : TypeId → Nat) (P : Program) (G : World → Prop) (B0 : Nat) (dsts : List (Option Nat)) (Q : St → Prop) : List Oper → St → Prop
  | [], st => Q st
  | o :: rest, st => gateA dsts st o.guard (stepA Z P G B0 st o (regA Z P G B0 dsts Q rest)) (st.can o.dst = true ∧ regA Z P G B0 dsts Q rest (st.put o.dst (.tup [])))
theorem stepA_ok {P : Program} (hZ : ZOk P Z) {G : World → Prop} {B0 : Nat} (hE : EOk G B0 E) {o : Oper} {K : St → Prop} {N : Act → World → Prop} {Q : Exit → Act → World → Prop} (hh : Holds Z E st a w) (hs : stepA Z P G B0 st o K) (hN : ∀ s a' w', K s → Holds Z E s a' w' → N a' w') : o.wp P a w N Q := by
  obtain ⟨S, vals, fps, cb, h⟩ := hh
  have gen : (match opA P st o.op with
    | some (av, st') => st'.can o.dst = true ∧ K (st'.put o.dst av)
    | none => False) → o.wp P a w N Q := by
    intro hs
    split at hs
    · rename_i av st' hb
      obtain ⟨v, w', S', vals', fps', cb', hrun, hI, hR⟩ := opA_ok hZ h o hb
      have hput := hN _ _ w' hs.2 ⟨S', vals', fps', cb', hI.put hs.1 hR⟩
      rcases hrun with hrun | ⟨hrun, rfl⟩
      · simp only [Oper.wp, hrun, Oper.upon]; exact hput
      · simp only [Oper.wp, hrun, Oper.upon]; exact hput
    · exact hs.elim
  unfold stepA at hs
  split at hs
  · rename_i fv args tys ho
    split at hs
    · rename_i f first caps hfv
      have hv := h.eval fv
      rw [hfv] at hv
      generalize hev : a.eval fv = u at hv
      cases hv with
      | @fn _ xs ys vs us hl hl2 hx hy =>
        have hargs : RL (RA Z w S st.rt vals (adr st.bx cb)) (first ++ args.toList.map (evA st) ++ caps) (vs ++ args.toList.map a.eval ++ us) := by
          have h1 := RL_map (Z := Z) (w := w) (S := S) (vals := vals) (es := st.rt) (ad := adr st.bx cb) args.toList h.eval
          refine ⟨by simp [hl, hl2], fun i x v hxi hvi => ?_⟩
          by_cases c1 : i < first.length
          · rw [List.append_assoc, List.getElem?_append_left c1] at hxi
            rw [List.append_assoc, List.getElem?_append_left (by omega)] at hvi
            exact hx i x v hxi hvi
          · rw [List.append_assoc, List.getElem?_append_right (by omega)] at hxi hvi
            rw [hl] at hxi
            by_cases c2 : i - vs.length < args.toList.length
            · rw [List.getElem?_append_left (by simpa using c2)] at hxi hvi
              exact h1.2 _ x v hxi hvi
            · rw [List.getElem?_append_right (by simpa using c2)] at hxi hvi
              simp only [List.length_map] at hxi hvi
              exact hy _ x v hxi hvi
        obtain ⟨hcb, hcalls⟩ := callA_ok hE h hargs hs
        have he := exec_call (P := P) (w := w) (a := a) ho hev hcb
        have harr : (vs.toArray ++ args.map a.eval ++ us.toArray) = (vs ++ args.toList.map a.eval ++ us).toArray := by
          apply Array.ext'; simp
        simp only [Oper.wp, he, Oper.upon, harr]
        refine hcalls.mono fun e w' hg => ?_
        obtain ⟨av, v, st', S', vals', fps', cb', rfl, ⟨k1, k2⟩, hI, hR⟩ := hg
        exact hN _ _ w' k2 ⟨S', vals', fps', cb', hI.put k1 hR⟩
    · exact hs.elim
  · exact gen hs
theorem regA_ok {P : Program} (hZ : ZOk P Z) {G : World → Prop} {B0 : Nat} (hE : EOk G B0 E) {ops : Array Oper} {Q : Exit → St → Prop} : ∀ (l : List Oper) (st : St) (a : Act) (w : World), Holds Z E st a w → regA Z P G B0 (ops.toList.map (·.dst)) (Q .normal) l st →
    wpList P ops (fun ex a' w' => ∃ st', Holds Z E st' a' w' ∧ Q ex st') l a w
  | [], st, a, w, hh, h => ⟨st, hh, h⟩
  | o :: rest, st, a, w, hh, h => by
    simp only [regA] at h
    have hskip : (st.can o.dst = true ∧ regA Z P G B0 (ops.toList.map (·.dst)) (Q .normal) rest (st.put o.dst (.tup []))) → wpList P ops (fun ex a' w' => ∃ st', Holds Z E st' a' w' ∧ Q ex st') rest (a.put o.dst undef) w := by
      rintro ⟨h1, h2⟩
      obtain ⟨S, vals, fps, cb, hI⟩ := hh
      exact regA_ok hZ hE rest _ _ w ⟨S, vals, fps, cb, hI.put h1 (RA.tup (xs := []) (vs := []) rfl (by simp))⟩ h2
    have hrun : stepA Z P G B0 st o (regA Z P G B0 (ops.toList.map (·.dst)) (Q .normal) rest) → o.wp P a w (wpList P ops (fun ex a' w' => ∃ st', Holds Z E st' a' w' ∧ Q ex st') rest) (fun ex a' w' => ∃ st', Holds Z E st' a' w' ∧ Q ex st') :=
      fun hs => stepA_ok hZ hE hh hs fun s a' w' hk hh' => regA_ok hZ hE rest s a' w' hh' hk
    rw [wpList]
    cases hg : o.guard with
    | none =>
      simp only [gateA, hg] at h
      rw [if_pos (by simp [Region.wanted, hg])]
      exact .inl (hrun h)
    | some jw =>
      obtain ⟨j, want⟩ := jw
      simp only [gateA, hg] at h
      have hy : (ops.toList.map (·.dst))[j]?.bind id = (ops[j]?).bind (·.dst) := by
        simp only [List.getElem?_map, Array.getElem?_toList]
        cases ops[j]? <;> rfl
      rw [hy] at h
      split at h
      · rename_i hd
        rw [if_neg (by simp [Region.wanted, hg, yielded, hd])]
        exact hskip h
      · rename_i d hd
        obtain ⟨S, vals, fps, cb, hI⟩ := id hh
        have hsl := hI.sl d
        split at h
        · rename_i b hb
          rw [hb] at hsl
          obtain ⟨hv, _⟩ := sc_inv hsl
          have hlt : a.tmps[d]? = some (.bool b) := by
            by_cases hd2 : d < a.tmps.size
            · simpa [Array.getD_eq_getD_getElem?, hd2] using hv
            · simp [Array.getD_eq_getD_getElem?, Array.getElem?_eq_none (Nat.le_of_not_lt hd2), undef] at hv
          have hyl : yielded ops a.tmps j = some b := by unfold yielded; rw [hd]; simp [hlt]
          by_cases hbw : b = want
          · rw [if_pos (by simp [Region.wanted, hg, hyl, hbw])]
            exact .inl (hrun (h.1 hbw))
          · rw [if_neg (by simp [Region.wanted, hg, hyl, hbw])]
            exact hskip (h.2 (by cases b <;> cases want <;> simp_all))
        · rename_i hb
          rw [hb] at hsl
          have hv : a.tmps.getD d undef = undef := by
            generalize a.tmps.getD d undef = u at hsl
            cases hsl with
            | @tup _ vs hl _ =>
              have : vs = [] := List.eq_nil_of_length_eq_zero (by simpa using hl.symm)
              subst this; rfl
          have hyl : yielded ops a.tmps j = none := by
            unfold yielded; rw [hd]
            simp only [Option.bind_some]
            by_cases hd2 : d < a.tmps.size
            · have : a.tmps[d]? = some undef := by simpa [Array.getD_eq_getD_getElem?, hd2] using hv
              rw [this]; rfl
            · rw [Array.getElem?_eq_none (Nat.le_of_not_lt hd2)]
          rw [if_neg (by simp [Region.wanted, hg, hyl])]
          exact hskip h
        · exact h.elim
theorem W_region {P : Program} (hZ : ZOk P Z) {G : World → Prop} {B0 nl : Nat} {id : Nat} {ops : Array Oper} {Q : Exit → St → Prop} {st : St} (h : regA Z P G B0 (ops.toList.map (·.dst)) (Q .normal) ops.toList st) : W Z P G B0 nl (.region id ops false) Q st :=
  fun E a w hE _ hh => wp_region_list (regA_ok hZ hE _ st a w hh h)
end
end Go.Abs

/- The whole of a body as one formula; loops stay. -/
namespace Go.Abs
open Go
set_option linter.unusedVariables false
set_option linter.unusedSimpArgs false
variable {Z : TypeId → Nat}
/-- A test. -/
def condA (v : AV) (x y : Prop) : Prop :=
  match v with
  | .c (.sc (.bool t)) => (t = true → x) ∧ (t = false → y)
  | _ => False
/-- A region whose order is drawn. -/
def DrawA (Z : TypeId → Nat) (P : Program) (G : World → Prop) (B0 nl : Nat) (ops : Array Oper) (Q : Exit → St → Prop) (st : St) : Prop := ∀ id, W Z P G B0 nl (.region id ops true) Q st
/-- A loop. -/
def LoopA (Z : TypeId → Nat) (P : Program) (G : World → Prop) (B0 nl : Nat) (c : Code) (Q : Exit → St → Prop) (st : St) : Prop := W Z P G B0 nl (.loop c) Q st
def wpA (Z : TypeId → Nat) (P : Program) (G : World → Prop) (B0 nl : Nat) : Code → (Exit → St → Prop) → St → Prop
  | .skip, Q, st => Q .normal st
  | .label _, Q, st => Q .normal st
  | .exit id, Q, st => Q (.exit id) st
  | .ret, Q, st => Q .ret st
  | .seq x y, Q, st => wpA Z P G B0 nl x (thenQ (wpA Z P G B0 nl y Q) Q) st
  | .cond c x y, Q, st => condA (evA st c) (wpA Z P G B0 nl x Q st) (wpA Z P G B0 nl y Q st)
  | .block id c, Q, st => wpA Z P G B0 nl c (blockQ id Q) st
  | .region _ ops false, Q, st => regA Z P G B0 (ops.toList.map (·.dst)) (Q .normal) ops.toList st
  | .region _ ops true, Q, st => DrawA Z P G B0 nl ops Q st
  | .loop c, Q, st => LoopA Z P G B0 nl c Q st
  | _, _, _ => False
theorem wpA_ok {P : Program} (hZ : ZOk P Z) {G : World → Prop} {B0 nl : Nat} : ∀ (c : Code) (Q : Exit → St → Prop) (st : St), wpA Z P G B0 nl c Q st → W Z P G B0 nl c Q st
  | .skip, Q, st, h => W_skip h
  | .label _, Q, st, h => W_label h
  | .exit id, Q, st, h => W_exit h
  | .ret, Q, st, h => W_ret h
  | .seq x y, Q, st, h => by
    refine W_seq (W_mono (wpA_ok hZ x _ st h) fun ex s hq => ?_)
    cases ex with
    | normal => exact wpA_ok hZ y Q s hq
    | _ => exact hq
  | .cond c x y, Q, st, h => by
    simp only [wpA, condA] at h
    split at h
    · rename_i t ht
      exact W_cond ht (fun h1 => wpA_ok hZ x Q st (h.1 h1)) fun h1 => wpA_ok hZ y Q st (h.2 h1)
    · exact h.elim
  | .block id c, Q, st, h => W_block (wpA_ok hZ c _ st h)
  | .region id ops false, Q, st, h => W_region hZ h
  | .region id ops true, Q, st, h => h id
  | .loop c, Q, st, h => h
  | .rangeFunc .., _, _, h => h.elim
  | .scope _, _, _, h => h.elim
  | .goto _, _, _, h => h.elim
  | .refuse _, _, _, h => h.elim
/-- A body's contract. -/
theorem Does.body {P : Program} (hZ : ZOk P Z) {G : World → Prop} {B0 : Nat} {f : FuncId} {args : List AV} {rts : Rows} {bxs : List Bool} {Post : AV → Rows → Prop} {fn : Func} {c : Code} (hf : P.funcs[f]? = some fn) (hb : fn.body = some c) (hc : (fn.name == "runtime.NumGoroutine") = false) (hn : args.length ≤ fn.ntmps)
    (h : wpA Z P G B0 rts.length c (exitQ P fn rts.length Post) ⟨fn.ntmps, zipSl 0 args, rts, bxs⟩) : Does Z P G B0 f args rts bxs Post :=
  Does.intro hf hb (by unfold callable; rw [hf]; simp only [hb, Option.isSome_some, Bool.true_and, bne, hc, Bool.not_false]) hn (wpA_ok hZ c _ _ h)
/-- A loop, by a family of states and a measure. -/
theorem LoopA.intro {P : Program} (hZ : ZOk P Z) {G : World → Prop} {B0 nl : Nat} {c : Code} {Q : Exit → St → Prop} {st : St} {ι : Type} (I : ι → St) (μ : ι → Nat) (i0 : ι) (h0 : Sub Z nl st (I i0))
    (round : ∀ i, wpA Z P G B0 nl c (thenQ (fun s => ∃ j, μ j < μ i ∧ Sub Z nl s (I j)) Q) (I i)) : LoopA Z P G B0 nl c Q st :=
  W_loop I μ i0 h0 fun i => wpA_ok hZ c _ _ (round i)
end Go.Abs

/- One operation at two states that agree on what it looks at. -/
namespace Go.Abs
open Go
set_option linter.unusedVariables false
set_option linter.unusedSimpArgs false
variable {Z : TypeId → Nat}
def hinP (H : Nat → Bool) : Path → Bool
  | [] => true
  | (r, _) :: _ => H r
mutual
/-- Paths begin in roots of H. -/
def hin (H : Nat → Bool) : AV → Bool
  | .ptr p => hinP H p
  | .bor p _ _ => hinP H p
  | .agg xs => hinL H xs
  | .tup xs => hinL H xs
  | .fn _ a b => hinL H a && hinL H b
  | .c _ => true
  | .nils => true
  | .sptr _ _ => true
  | .nb _ => true
  | .dead => true
def hinL (H : Nat → Bool) : List AV → Bool
  | [] => true
  | x :: r => hin H x && hinL H r
end
theorem hinL_mem (H : Nat → Bool) : ∀ (l : List AV), hinL H l = true ↔ ∀ x ∈ l, hin H x = true
  | [] => by simp [hinL]
  | c :: r => by simp [hinL, hinL_mem H r]
/-- The same roots, as far as H goes. -/
def Ag (H : Nat → Bool) (st st1 : St) : Prop := ∀ r, H r = true → st.rt[r]? = st1.rt[r]? ∧ st.bx.getD r false = st1.bx.getD r false
variable {P : Program} {H : Nat → Bool} {st st1 : St}
theorem look_ag (h : Ag H st st1) {p : Path} (hp : hinP H p = true) : look st.rt p = look st1.rt p := by
  cases p with
  | nil => rfl
  | cons ic rest =>
    obtain ⟨r, c⟩ := ic
    refine look_head rest ?_
    unfold cellAt
    rw [(h r hp).1]
theorem hinP_bump {p : Path} {j : Nat} (hp : hinP H p = true) : hinP H (bump p j) = true := by
  match p, hp with
  | [], _ => rfl
  | [(r, c)], hp => simpa [bump, hinP] using hp
  | (r, c) :: y :: q, hp => simpa [bump, hinP] using hp
theorem hinP_app {p q : Path} (hne : p ≠ []) (hp : hinP H p = true) : hinP H (p ++ q) = true := by
  cases p with
  | nil => exact absurd rfl hne
  | cons x r => simpa [hinP] using hp
theorem loadL_ag (h : Ag H st st1) {p : Path} (hp : hinP H p = true) : ∀ n j, loadL st.rt p j n = loadL st1.rt p j n
  | 0, _ => rfl
  | n + 1, j => by simp only [loadL]; rw [look_ag h (hinP_bump hp), loadL_ag h hp n (j + 1)]
theorem loadA_ag (h : Ag H st st1) {ag : Bool} {n : Nat} {av : AV} (hp : hin H av = true) : loadA st ag n av = loadA st1 ag n av := by
  cases av with
  | ptr p => simp only [hin] at hp; simp only [loadA]; rw [loadL_ag h hp, look_ag h hp]
  | _ => rfl
theorem fieldAddrA_ag (h : Ag H st st1) {t : TypeId} {f : Nat} {av : AV} (hp : hin H av = true) : fieldAddrA P st t f av = fieldAddrA P st1 t f av := by
  unfold fieldAddrA
  split
  · rename_i off ag n hf
    cases av with
    | ptr p => simp only [hin] at hp; simp only; rw [look_ag h (hinP_bump hp)]
    | _ => rfl
  · rfl
theorem indexAddrA_ag (h : Ag H st st1) {t : TypeId} {av iv : AV} (hp : hin H av = true) : indexAddrA P st t av iv = indexAddrA P st1 t av iv := by
  unfold indexAddrA
  split
  · rename_i e i he hi
    cases av with
    | bor p lo len =>
      simp only [hin] at hp
      simp only
      rw [look_ag h hp]
      cases p with
      | nil => simp [look]
      | cons x r => rw [look_ag h (hinP_app (by simp) hp)]
    | c c0 =>
      cases c0 with
      | row o e' es => cases o <;> rfl
      | _ => rfl
    | _ => rfl
  · rfl
theorem sliceA_ag (h : Ag H st st1) {t : TypeId} {av : AV} {lo hi : Option AV} (hp : hin H av = true) : sliceA P st t av lo hi = sliceA P st1 t av lo hi := by
  unfold sliceA
  split
  · rfl
  · cases av with
    | bor p l0 len => simp only [hin] at hp; simp only; rw [look_ag h hp]
    | c c0 =>
      cases c0 with
      | row o e' es => cases o <;> rfl
      | _ => rfl
    | _ => rfl
  · rfl
theorem convA_ag (h : Ag H st st1) {s d : TypeId} {av : AV} (hp : hin H av = true) : convA P st s d av = convA P st1 s d av := by
  unfold convA
  split
  · rfl
  · rfl
  · cases av with
    | bor p l0 len => simp only [hin] at hp; simp only; rw [look_ag h hp]
    | c c0 =>
      cases c0 with
      | row o e' es => cases o <;> rfl
      | _ => rfl
    | _ => rfl
  · rfl
/-- Operations that make a value alone. -/
def quiet : Op → Bool
  | .move _ | .assign _ | .pick _ _ _ | .build _ _ | .load _ _ | .nilCheck _ | .binOp _ _ _ _ _ | .unOp _ _ _ | .convert _ _ _ | .makeFunc _ _ _ | .fieldAddr _ _ _ | .field _ _ _ | .indexAddr _ _ _ | .index _ _ _ | .extract _ _ => true
  | .slice _ _ _ _ none => true
  | .call { callee := .builtin .len, .. } | .call { callee := .builtin .min, .. } | .call { callee := .builtin .max, .. } => true
  | _ => false
theorem map_ag {l : List Operand} (h : ∀ o ∈ l, evA st o = evA st1 o) : l.map (evA st) = l.map (evA st1) := List.map_congr_left h
theorem evalQ_ag (h : Ag H st st1) {nid : Nat} {op : Op} (hq : quiet op = true) (ho : ∀ o ∈ op.operands.toList, evA st o = evA st1 o ∧ hin H (evA st o) = true) {av : AV} {s : St} (hb : evalOp P st nid op = some (av, s)) : s = st ∧ evalOp P st1 nid op = some (av, st1) := by
  have omap : ∀ {q : Option AV}, (q.map fun r => (r, st)) = some (av, s) → s = st ∧ (q.map fun r => (r, st1)) = some (av, st1) := by
    intro q hq
    simp only [Option.map_eq_some_iff, Prod.mk.injEq] at hq
    obtain ⟨r, rfl, rfl, rfl⟩ := hq
    exact ⟨rfl, rfl⟩
  have omap2 : ∀ {α : Type} {g : α → AV} {q : Option α}, (q.map fun r => (g r, st)) = some (av, s) → s = st ∧ (q.map fun r => (g r, st1)) = some (av, st1) := by
    intro α g q hq
    simp only [Option.map_eq_some_iff, Prod.mk.injEq] at hq
    obtain ⟨r, rfl, rfl, rfl⟩ := hq
    exact ⟨rfl, rfl⟩
  cases op with
  | move x => simp [Op.operands] at ho; simp only [evalOp, Option.some.injEq, Prod.mk.injEq] at hb ⊢; rw [← ho.1]; exact ⟨hb.2.symm, hb.1, trivial⟩
  | assign x => simp [Op.operands] at ho; simp only [evalOp, Option.some.injEq, Prod.mk.injEq] at hb ⊢; rw [← ho.1]; exact ⟨hb.2.symm, hb.1, trivial⟩
  | pick c x y =>
    simp [Op.operands] at ho
    simp only [evalOp] at hb ⊢
    rw [← ho.1.1, ← ho.2.1.1, ← ho.2.2.1]
    split at hb
    · rename_i t ht
      simp only [Option.some.injEq, Prod.mk.injEq] at hb
      exact ⟨hb.2.symm, by simp [hb.1]⟩
    · cases hb
  | build t parts =>
    simp only [evalOp] at hb ⊢
    have he : buildA P st t parts.toList = buildA P st1 t parts.toList := by
      unfold buildA
      have : (parts.toList.map fun p => (p.1, evA st p.2)) = parts.toList.map fun p => (p.1, evA st1 p.2) := List.map_congr_left fun p hp => by
        rw [(ho p.2 (by simp only [Op.operands, Array.toList_map, List.mem_map]; exact ⟨p, hp, rfl⟩)).1]
      rw [this]
    rw [← he]
    exact omap hb
  | load t x =>
    simp [Op.operands] at ho
    simp only [evalOp] at hb ⊢
    split at hb
    · rename_i ag n ht
      rw [← ho.1, ← loadA_ag h ho.2]
      exact omap hb
    · cases hb
  | nilCheck x =>
    simp [Op.operands] at ho
    simp only [evalOp] at hb ⊢
    rw [← ho.1]
    split at hb
    · rename_i p hp; simp only [Option.some.injEq, Prod.mk.injEq] at hb; exact ⟨hb.2.symm, by simp [hp, hb.1]⟩
    · rename_i cs o hp; simp only [Option.some.injEq, Prod.mk.injEq] at hb; exact ⟨hb.2.symm, by simp [hp, hb.1]⟩
    · cases hb
  | binOp b t x y u =>
    simp [Op.operands] at ho
    simp only [evalOp] at hb ⊢
    rw [← ho.1.1, ← ho.2.1]
    exact omap hb
  | unOp b t x =>
    simp [Op.operands] at ho
    simp only [evalOp] at hb ⊢
    rw [← ho.1]
    exact omap hb
  | convert a b x =>
    simp [Op.operands] at ho
    simp only [evalOp] at hb ⊢
    rw [← ho.1, ← convA_ag h ho.2]
    exact omap hb
  | makeFunc f a b =>
    cases f with
    | func f =>
      simp only [evalOp, Option.some.injEq, Prod.mk.injEq] at hb ⊢
      have h1 : a.toList.map (evA st) = a.toList.map (evA st1) := map_ag fun o hoo => (ho o (by simp [Op.operands]; exact .inl (by simpa using hoo))).1
      have h2 : b.toList.map (evA st) = b.toList.map (evA st1) := map_ag fun o hoo => (ho o (by simp [Op.operands]; exact .inr (by simpa using hoo))).1
      rw [← h1, ← h2]
      exact ⟨hb.2.symm, hb.1, trivial⟩
    | _ => simp [evalOp] at hb
  | fieldAddr t x f =>
    simp [Op.operands] at ho
    simp only [evalOp] at hb ⊢
    rw [← ho.1, ← fieldAddrA_ag h ho.2]
    exact omap hb
  | field t x f =>
    simp [Op.operands] at ho
    simp only [evalOp] at hb ⊢
    rw [← ho.1]
    exact omap hb
  | indexAddr t x i =>
    simp [Op.operands] at ho
    simp only [evalOp] at hb ⊢
    rw [← ho.1.1, ← ho.2.1, ← indexAddrA_ag h ho.1.2]
    split at hb
    · rename_i hk; rw [if_pos hk]; exact omap hb
    · cases hb
  | index t x i =>
    simp [Op.operands] at ho
    simp only [evalOp] at hb ⊢
    rw [← ho.1.1, ← ho.2.1]
    exact omap hb
  | extract x i =>
    simp [Op.operands] at ho
    simp only [evalOp] at hb ⊢
    rw [← ho.1]
    exact omap hb
  | slice t x lo hi mx =>
    cases mx with
    | some m => simp [quiet] at hq
    | none =>
      simp only [evalOp] at hb ⊢
      have hx := ho x (by simp [Op.operands])
      have hl : lo.map (evA st) = lo.map (evA st1) := by
        cases lo with
        | none => rfl
        | some o => simp [(ho o (by simp [Op.operands])).1]
      have hh : hi.map (evA st) = hi.map (evA st1) := by
        cases hi with
        | none => rfl
        | some o => simp [(ho o (by simp [Op.operands])).1]
      rw [← hx.1, ← hl, ← hh, ← sliceA_ag h hx.2]
      split at hb
      · rename_i hk; rw [if_pos hk]; exact omap hb
      · cases hb
  | call c =>
    obtain ⟨cal, args, tys⟩ := c
    cases cal with
    | builtin b =>
      simp only [evalOp] at hb ⊢
      have ha : args.toList.map (evA st) = args.toList.map (evA st1) := map_ag fun o hoo => (ho o (by simp [Op.operands, Call.operands]; simpa using hoo)).1
      rw [← ha]
      cases b <;> simp only [quiet, Bool.false_eq_true] at hq
      · unfold builtinA at hb ⊢
        split at hb <;> first | exact omap hb | exact omap2 hb | cases hb | contradiction
      · unfold builtinA at hb ⊢
        split at hb <;> first | exact omap hb | exact omap2 hb | cases hb | contradiction
      · unfold builtinA at hb ⊢
        split at hb <;> first | exact omap hb | exact omap2 hb | cases hb | contradiction
    | _ => simp [quiet] at hq
  | _ => simp [quiet] at hq
end Go.Abs

/- Effects of operations; a set of operations done, in whatever order. -/
namespace Go.Abs
open Go
set_option linter.unusedVariables false
set_option linter.unusedSimpArgs false
variable {Z : TypeId → Nat}
structure Eff where
  dst : Option Nat
  av : AV
  fill : Option (Nat × List Cell × Bool)
def Eff.on (e : Eff) (st : St) : St :=
  match e.fill with
  | none => st.put e.dst e.av
  | some (n, cs, b) => (st.fill n cs b).put e.dst e.av
/-- The effects of those in f, in their order. -/
def applyF (f : Nat → Bool) : Nat → List Eff → St → St
  | _, [], st => st
  | k, e :: es, st => applyF f (k + 1) es (if f k then e.on st else st)
theorem on_getA (e : Eff) (st : St) (t : Nat) : getA (e.on st).sl t = if e.dst = some t then e.av else getA st.sl t := by
  unfold Eff.on
  have key : ∀ s : St, getA (s.put e.dst e.av).sl t = if e.dst = some t then e.av else getA s.sl t := by
    intro s
    cases hd : e.dst with
    | none => simp [St.put]
    | some d => simp only [St.put, getA, Option.some.injEq]
  split
  · exact key st
  · rw [key]; rfl
theorem put_rt (st : St) (d : Option Nat) (x : AV) : (st.put d x).rt = st.rt ∧ (st.put d x).bx = st.bx ∧ (st.put d x).nt = st.nt := by cases d <;> exact ⟨rfl, rfl, rfl⟩
theorem on_rt (e : Eff) (st : St) : (e.on st).rt = (match e.fill with | none => st.rt | some (n, cs, b) => st.rt.set n cs) ∧ (e.on st).bx = (match e.fill with | none => st.bx | some (n, cs, b) => st.bx.set n b) ∧ (e.on st).nt = st.nt := by
  unfold Eff.on
  split
  · exact put_rt _ _ _
  · exact put_rt _ _ _
/-- States that hold the same. -/
structure Eqv (st st1 : St) : Prop where
  nt : st.nt = st1.nt
  rt : st.rt = st1.rt
  bx : st.bx = st1.bx
  sl : ∀ t, getA st.sl t = getA st1.sl t
theorem Eqv.holds {st st1 : St} (h : Eqv st st1) {E : Ent} {a : Act} {w : World} (hh : Holds Z E st a w) : Holds Z E st1 a w := by
  obtain ⟨nt, sl, rt, bx⟩ := st
  obtain ⟨nt1, sl1, rt1, bx1⟩ := st1
  obtain ⟨h1, h2, h3, h4⟩ := h
  simp only at h1 h2 h3 h4
  subst h1 h2 h3
  obtain ⟨S, vals, fps, cb, hI⟩ := hh
  refine ⟨S, vals, fps, cb, { hI with sl := fun t => ?_ }⟩
  have := hI.sl t
  simp only [h4] at this
  exact this
theorem applyF_len (f : Nat → Bool) : ∀ (es : List Eff) (k : Nat) (st : St), (applyF f k es st).rt.length = st.rt.length ∧ (applyF f k es st).bx.length = st.bx.length ∧ (applyF f k es st).nt = st.nt
  | [], _, _ => ⟨rfl, rfl, rfl⟩
  | e :: es, k, st => by
    have ih := applyF_len f es (k + 1) (if f k then e.on st else st)
    simp only [applyF]
    have h2 := on_rt e st
    refine ⟨ih.1.trans ?_, ih.2.1.trans ?_, ih.2.2.trans ?_⟩
    · split
      · rw [h2.1]; split <;> simp
      · rfl
    · split
      · rw [h2.2.1]; split <;> simp
      · rfl
    · split
      · exact h2.2.2
      · rfl
/-- A slot depends on its writers. -/
theorem applyF_getA (t : Nat) : ∀ (es : List Eff) (k : Nat) (f g : Nat → Bool) (st st1 : St), (∀ j e, es[j]? = some e → e.dst = some t → f (k + j) = g (k + j)) → getA st.sl t = getA st1.sl t → getA (applyF f k es st).sl t = getA (applyF g k es st1).sl t
  | [], _, _, _, _, _, _, h => h
  | e :: es, k, f, g, st, st1, hw, h => by
    simp only [applyF]
    refine applyF_getA t es (k + 1) f g _ _ (fun j e' hj hd => ?_) ?_
    · have := hw (j + 1) e' (by simpa using hj) hd
      rwa [show k + (j + 1) = k + 1 + j by omega] at this
    · have h0 := hw 0 e rfl
      simp only [Nat.add_zero] at h0
      by_cases hd : e.dst = some t
      · rw [h0 hd]
        split
        · rw [on_getA, on_getA, if_pos hd, if_pos hd]
        · exact h
      · have h1 : ∀ s : St, getA (e.on s).sl t = getA s.sl t := fun s => by rw [on_getA, if_neg hd]
        split <;> split <;> simp [h1, h]
def Eff.root (e : Eff) : Option Nat := e.fill.map (·.1)
/-- A root depends on its maker. -/
theorem applyF_rt (r : Nat) : ∀ (es : List Eff) (k : Nat) (f g : Nat → Bool) (st st1 : St), (∀ j e, es[j]? = some e → e.root = some r → f (k + j) = g (k + j)) → st.rt.length = st1.rt.length → st.bx.length = st1.bx.length → st.rt[r]? = st1.rt[r]? ∧ st.bx[r]? = st1.bx[r]? →
    (applyF f k es st).rt[r]? = (applyF g k es st1).rt[r]? ∧ (applyF f k es st).bx[r]? = (applyF g k es st1).bx[r]?
  | [], _, _, _, _, _, _, _, _, h => h
  | e :: es, k, f, g, st, st1, hw, hl, hb, h => by
    simp only [applyF]
    have hlen : ∀ s : St, (e.on s).rt.length = s.rt.length ∧ (e.on s).bx.length = s.bx.length := fun s => by
      have h2 := on_rt e s
      refine ⟨by rw [h2.1]; split <;> simp, by rw [h2.2.1]; split <;> simp⟩
    refine applyF_rt r es (k + 1) f g _ _ (fun j e' hj hd => ?_) ?_ ?_ ?_
    · have := hw (j + 1) e' (by simpa using hj) hd
      rwa [show k + (j + 1) = k + 1 + j by omega] at this
    · split <;> split <;> simp [hlen, hl]
    · split <;> split <;> simp [hlen, hb]
    · have h0 := hw 0 e rfl
      simp only [Nat.add_zero] at h0
      have hset : ∀ s : St, e.root ≠ some r → (e.on s).rt[r]? = s.rt[r]? ∧ (e.on s).bx[r]? = s.bx[r]? := by
        intro s hne
        have h2 := on_rt e s
        rw [h2.1, h2.2.1]
        cases hf : e.fill with
        | none => exact ⟨rfl, rfl⟩
        | some x =>
          obtain ⟨n, cs, b⟩ := x
          have hnr : n ≠ r := fun e2 => hne (by simp [Eff.root, hf, e2])
          simp [List.getElem?_set, hnr]
      by_cases hd : e.root = some r
      · rw [h0 hd]
        split
        · have h2 := on_rt e st
          have h3 := on_rt e st1
          rw [h2.1, h2.2.1, h3.1, h3.2.1]
          cases hf : e.fill with
          | none => exact h
          | some x =>
            obtain ⟨n, cs, b⟩ := x
            simp only [List.getElem?_set, hl, hb]
            split
            · exact ⟨rfl, rfl⟩
            · exact h
        · exact h
      · split <;> split <;> simp [hset _ hd, h]
/-- The last writer of a slot. -/
theorem applyF_last (t : Nat) (f : Nat → Bool) : ∀ (es : List Eff) (k i : Nat) (e : Eff) (st : St), es[i]? = some e → e.dst = some t → f (k + i) = true → (∀ j e', i < j → es[j]? = some e' → e'.dst = some t → f (k + j) = false) → getA (applyF f k es st).sl t = e.av
  | [], k, i, e, st, h, _, _, _ => by simp at h
  | e0 :: es, k, 0, e, st, h, hd, hf, hl => by
    simp only [List.getElem?_cons_zero, Option.some.injEq] at h
    subst h
    simp only [applyF]
    simp only [Nat.add_zero] at hf
    rw [if_pos hf]
    have : getA (applyF f (k + 1) es (e0.on st)).sl t = getA (applyF (fun _ => false) (k + 1) es (e0.on st)).sl t :=
      applyF_getA t es (k + 1) f (fun _ => false) _ _ (fun j e' hj hd' => by
        have := hl (j + 1) e' (by omega) (by simpa using hj) hd'
        rwa [show k + (j + 1) = k + 1 + j by omega] at this) rfl
    rw [this]
    have hnone : ∀ (es : List Eff) (k : Nat) (s : St), applyF (fun _ => false) k es s = s := by
      intro es
      induction es with
      | nil => intro k s; rfl
      | cons e es ih => intro k s; simp only [applyF]; exact ih _ _
    rw [hnone, on_getA, if_pos hd]
  | e0 :: es, k, i + 1, e, st, h, hd, hf, hl => by
    simp only [applyF]
    refine applyF_last t f es (k + 1) i e _ (by simpa using h) hd (by rwa [show k + (i + 1) = k + 1 + i by omega] at hf) fun j e' hj he hd' => ?_
    have := hl (j + 1) e' (by omega) (by simpa using he) hd'
    rwa [show k + (j + 1) = k + 1 + j by omega] at this
end Go.Abs

/- A region whose order is drawn: every order leaves what the text's order leaves. -/
namespace Go.Abs
open Go
set_option linter.unusedVariables false
set_option linter.unusedSimpArgs false
variable {Z : TypeId → Nat}
theorem applyF_mk (r : Nat) (f : Nat → Bool) : ∀ (es : List Eff) (k i : Nat) (e : Eff) (cs : List Cell) (b : Bool) (st : St), es[i]? = some e → e.fill = some (r, cs, b) → f (k + i) = true → (∀ j e', j ≠ i → es[j]? = some e' → e'.root ≠ some r) → r < st.rt.length → r < st.bx.length →
    (applyF f k es st).rt[r]? = some cs ∧ (applyF f k es st).bx[r]? = some b
  | [], k, i, e, cs, b, st, h, _, _, _, _, _ => by simp at h
  | e0 :: es, k, 0, e, cs, b, st, h, hd, hf, hl, hr, hb => by
    simp only [List.getElem?_cons_zero, Option.some.injEq] at h
    subst h
    simp only [applyF]
    simp only [Nat.add_zero] at hf
    rw [if_pos hf]
    have hnone : ∀ (es : List Eff) (k : Nat) (s : St), applyF (fun _ => false) k es s = s := by
      intro es
      induction es with
      | nil => intro k s; rfl
      | cons e es ih => intro k s; simp only [applyF]; exact ih _ _
    have := applyF_rt r es (k + 1) f (fun _ => false) (e0.on st) (e0.on st) (fun j e' hj hd' => absurd hd' (hl (j + 1) e' (by omega) (by simpa using hj))) rfl rfl ⟨rfl, rfl⟩
    rw [hnone] at this
    rw [this.1, this.2]
    have h2 := on_rt e0 st
    rw [h2.1, h2.2.1, hd]
    simp [List.getElem?_set, hr, hb]
  | e0 :: es, k, i + 1, e, cs, b, st, h, hd, hf, hl, hr, hb => by
    simp only [applyF]
    have h2 := on_rt e0 st
    have hlen : (if f k = true then e0.on st else st).rt.length = st.rt.length ∧ (if f k = true then e0.on st else st).bx.length = st.bx.length := by
      split
      · refine ⟨by rw [h2.1]; split <;> simp, by rw [h2.2.1]; split <;> simp⟩
      · exact ⟨rfl, rfl⟩
    exact applyF_mk r f es (k + 1) i e cs b _ (by simpa using h) hd (by rwa [show k + (i + 1) = k + 1 + i by omega] at hf) (fun j e' hj he => hl (j + 1) e' (by omega) (by simpa using he)) (by rw [hlen.1]; exact hr) (by rw [hlen.2]; exact hb)
theorem applyF_none (es : List Eff) : ∀ (k : Nat) (s : St), applyF (fun _ => false) k es s = s := by
  induction es with
  | nil => intro k s; rfl
  | cons e es ih => intro k s; simp only [applyF]; exact ih _ _
theorem applyF_add {es : List Eff} {st : St} {f : Nat → Bool} {i : Nat} {e : Eff} (hi : es[i]? = some e) (hw : ∀ j e', i < j → es[j]? = some e' → e.dst ≠ none → e'.dst = e.dst → f j = false)
    (hr : ∀ j e', j ≠ i → es[j]? = some e' → e.root ≠ none → e'.root ≠ e.root) (hlt : ∀ n, e.root = some n → n < st.rt.length ∧ n < st.bx.length) : Eqv (e.on (applyF f 0 es st)) (applyF (fun j => f j || j == i) 0 es st) := by
  have hA := applyF_len f es 0 st
  have hB := applyF_len (fun j => f j || j == i) es 0 st
  have h2 := on_rt e (applyF f 0 es st)
  have hroots : ∀ r : Nat, (e.on (applyF f 0 es st)).rt[r]? = (applyF (fun j => f j || j == i) 0 es st).rt[r]? ∧ (e.on (applyF f 0 es st)).bx[r]? = (applyF (fun j => f j || j == i) 0 es st).bx[r]? := by
    intro r
    rw [h2.1, h2.2.1]
    by_cases hd : e.root = some r
    · cases hf : e.fill with
      | none => simp [Eff.root, hf] at hd
      | some x =>
        obtain ⟨n, cs, b⟩ := x
        have hn : n = r := by simpa [Eff.root, hf] using hd
        subst hn
        obtain ⟨l1, l2⟩ := hlt n hd
        have := applyF_mk n (fun j => f j || j == i) es 0 i e cs b st hi hf (by simp) (fun j e' hj he h4 => hr j e' hj he (by rw [hd]; simp) (h4.trans hd.symm)) l1 l2
        rw [this.1, this.2]
        simp [List.getElem?_set, hA.1, hA.2.1, l1, l2]
    · have h3 := applyF_rt r es 0 f (fun j => f j || j == i) st st (fun j e' hj hd' => by
        have : j ≠ i := by rintro rfl; rw [hi] at hj; cases hj; exact hd hd'
        simp [this]) rfl rfl ⟨rfl, rfl⟩
      rw [← h3.1, ← h3.2]
      cases hf : e.fill with
      | none => exact ⟨rfl, rfl⟩
      | some x =>
        obtain ⟨n, cs, b⟩ := x
        have hnr : n ≠ r := fun e2 => hd (by simp [Eff.root, hf, e2])
        simp [List.getElem?_set, hnr]
  refine ⟨by rw [h2.2.2, hA.2.2, hB.2.2], List.ext_getElem? fun r => (hroots r).1, List.ext_getElem? fun r => (hroots r).2, fun t => ?_⟩
  rw [on_getA]
  by_cases hd : e.dst = some t
  · rw [if_pos hd]
    exact (applyF_last t (fun j => f j || j == i) es 0 i e st hi hd (by simp) fun j e' hj he hd' => by
      have h5 := hw j e' hj he (by rw [hd]; simp) (hd'.trans hd.symm)
      have : j ≠ i := by omega
      simp [h5, this]).symm
  · rw [if_neg hd]
    exact applyF_getA t es 0 f _ st st (fun j e' hj hd' => by
      have : j ≠ i := by rintro rfl; rw [hi] at hj; cases hj; exact hd hd'
      simp [this]) rfl
/-- Done before: in every set that holds with an operation what it waits for. -/
def Anc (ops : Array Oper) (i k : Nat) : Prop := ∀ f : Nat → Bool, (∀ j o, ops[j]? = some o → f j = true → ∀ e ∈ o.after, Region.binds .any e = true → f e.on = true) → f i = true → f k = true
section
variable {P : Program} {G : World → Prop} {B0 nl : Nat} {Q : Exit → St → Prop}
theorem draw_gen {E : Ent} {ops : Array Oper} (es : List Eff) (hlen : es.length ≤ ops.size) (st0 : St) (rd : Nat → List Nat) (Hs : Nat → Nat → Bool)
    (hst : ∀ (i : Nat) (o : Oper) (e : Eff), ops[i]? = some o → es[i]? = some e → ∀ f : Nat → Bool, (∀ t ∈ rd i, getA (applyF f 0 es st0).sl t = getA (applyF (fun j => decide (j < i)) 0 es st0).sl t) → Ag (Hs i) (applyF (fun j => decide (j < i)) 0 es st0) (applyF f 0 es st0) →
      (∀ n, e.root = some n → (applyF f 0 es st0).free n) → ∀ (a : Act) (w : World), Holds Z E (applyF f 0 es st0) a w → ∀ (K : Act → World → Prop) (N : Exit → Act → World → Prop), (∀ a' w', Holds Z E (e.on (applyF f 0 es st0)) a' w' → K a' w') →
        if Region.wanted o (yielded ops a.tmps) then o.wp P a w K N else K (a.put o.dst undef) w)
    (hpre : ∀ (i : Nat) (o : Oper), ops[i]? = some o → ∀ e ∈ o.after, Region.binds .any e = true → e.on < i)
    (hrd : ∀ (i k : Nat) (e e' : Eff), es[i]? = some e → es[k]? = some e' → k ≠ i → ∀ t, (t ∈ rd i ∨ e.dst = some t) → e'.dst = some t → (k < i → Anc ops i k) ∧ (i < k → Anc ops k i))
    (hHs : ∀ (i k : Nat) (e' : Eff), es[k]? = some e' → i < es.length → ∀ r, Hs i r = true → e'.root = some r → k < i ∧ Anc ops i k)
    (hdist : ∀ (i k : Nat) (e e' : Eff), es[i]? = some e → es[k]? = some e' → k ≠ i → e.root ≠ none → e'.root ≠ e.root)
    (hfree : ∀ (i : Nat) (e : Eff) (n : Nat), es[i]? = some e → e.root = some n → st0.free n ∧ n < st0.bx.length) {a : Act} {w : World} (hh : Holds Z E st0 a w) {N : Exit → Act → World → Prop} (hend : es.length = ops.size → ∀ a' w', Holds Z E (applyF (fun _ => true) 0 es st0) a' w' → N .normal a' w')
    (hexit : ∀ (fuel i : Nat) (listed : Array Bool) (a' : Act) (w' : World), listed.size = ops.size → ((List.range ops.size).filter fun i => !listed.getD i false).length ≤ fuel + 1 → (∀ j, listed.getD j false = true → j < es.length) →
      (∀ j o, ops[j]? = some o → listed.getD j false = true → ∀ e ∈ o.after, Region.binds .any e = true → listed.getD e.on false = true) → Holds Z E (applyF (fun j => listed.getD j false) 0 es st0) a' w' →
      i ∈ Region.ready .any ops listed → es.length ≤ i → wpOp P ops N i (wpAny P .any ops N fuel (listed.setIfInBounds i true)) a' w') :
    wpAny P .any ops N ops.size (Array.replicate ops.size false) a w := by
  have hall : ∀ listed : Array Bool, (∀ i, i < es.length → listed.getD i false = true) → ∀ st, applyF (fun j => listed.getD j false) 0 es st = applyF (fun _ => true) 0 es st := by
    intro listed hl
    have key : ∀ (l : List Eff) (k : Nat) (s : St), k + l.length ≤ es.length → applyF (fun j => listed.getD j false) k l s = applyF (fun _ => true) k l s := by
      intro l
      induction l with
      | nil => intro k s _; rfl
      | cons e l ih =>
        intro k s hk
        simp only [List.length_cons] at hk
        simp only [applyF]
        have h2 := hl k (by omega)
        rw [if_pos (show listed.getD k false = true from h2), if_pos trivial]
        exact ih (k + 1) _ (by omega)
    exact fun st => key es 0 st (by omega)
  have hready : ∀ listed : Array Bool, listed.size = ops.size → Region.ready .any ops listed = [] → ∀ i, i < ops.size → listed.getD i false = true := by
    intro listed hsz hr i
    induction i using Nat.strongRecOn with
    | ind i ih =>
      intro hi
      cases hli : listed.getD i false with
      | true => rfl
      | false =>
        exfalso
        have hmem : i ∈ Region.ready .any ops listed := by
          unfold Region.ready
          rw [List.mem_filter]
          refine ⟨by simpa using hi, ?_⟩
          have ho : ops[i]? = some ops[i] := Array.getElem?_eq_getElem hi
          have h1 : listed.getD i true = false := by
            have : i < listed.size := by omega
            simp [Array.getD_eq_getD_getElem?, this] at hli ⊢
            exact hli
          simp only [h1, ho, Option.map_some, Option.getD_some, Bool.not_false, Bool.true_and, Array.all_eq_true]
          intro j hj
          cases hb : Region.binds .any ops[i].after[j] with
          | false => simp
          | true =>
            have hlt := hpre i _ ho _ (Array.getElem_mem hj) hb
            simp [ih _ hlt (by omega)]
        rw [hr] at hmem
        cases hmem
  have main : ∀ (fuel : Nat) (listed : Array Bool) (a : Act) (w : World), listed.size = ops.size → ((List.range ops.size).filter fun i => !listed.getD i false).length ≤ fuel → (∀ j, listed.getD j false = true → j < es.length) →
      (∀ j o, ops[j]? = some o → listed.getD j false = true → ∀ e ∈ o.after, Region.binds .any e = true → listed.getD e.on false = true) → Holds Z E (applyF (fun j => listed.getD j false) 0 es st0) a w → wpAny P .any ops N fuel listed a w := by
    intro fuel
    induction fuel with
    | zero =>
      intro listed a w hsz hc hm hcl hh
      have hl : ∀ i, i < ops.size → listed.getD i false = true := by
        intro i hi
        have h0 := List.eq_nil_of_length_eq_zero (Nat.le_zero.1 hc)
        rw [List.filter_eq_nil_iff] at h0
        have := h0 i (by simpa using hi)
        simpa using this
      have hsize : es.length = ops.size := by
        rcases Nat.lt_or_ge es.length ops.size with h | h
        · have := hm es.length (hl _ h); omega
        · omega
      refine ⟨?_, hend hsize _ _ (by rw [← hall listed fun i hi => hl i (by omega)]; exact hh)⟩
      unfold Region.ready
      rw [List.filter_eq_nil_iff]
      intro i hi
      have hi2 : i < ops.size := by simpa using hi
      have h1 := hl i hi2
      have h2 : listed.getD i true = true := by
        have : i < listed.size := by omega
        simp [Array.getD_eq_getD_getElem?, this] at h1 ⊢
        exact h1
      simp [h2]
    | succ fuel ih =>
      intro listed a w hsz hc hm hcl hh
      refine ⟨fun hr => ?_, fun i hi => ?_⟩
      · have hl := hready listed hsz hr
        have hsize : es.length = ops.size := by
          rcases Nat.lt_or_ge es.length ops.size with h | h
          · have := hm es.length (hl _ h); omega
          · omega
        exact hend hsize _ _ (by rw [← hall listed fun i hi => hl i (by omega)]; exact hh)
      rcases Nat.lt_or_ge i es.length with hil | hge
      rotate_left
      · exact hexit fuel i listed a w hsz hc hm hcl hh hi hge
      unfold Region.ready at hi
      rw [List.mem_filter] at hi
      obtain ⟨hi1, hi2⟩ := hi
      have hin : i < ops.size := by simpa using hi1
      have ho : ops[i]? = some ops[i] := Array.getElem?_eq_getElem hin
      have he : es[i]? = some es[i] := List.getElem?_eq_getElem hil
      simp only [ho, Option.map_some, Option.getD_some, Bool.and_eq_true, Bool.not_eq_true', Array.all_eq_true, Bool.or_eq_true] at hi2
      obtain ⟨hnl, hpl⟩ := hi2
      have hfi : listed.getD i false = false := by
        have : i < listed.size := by omega
        simp [Array.getD_eq_getD_getElem?, this] at hnl ⊢
        exact hnl
      -- what comes behind i is not done; what i waits for is
      have hlater : ∀ k, Anc ops k i → listed.getD k false = false := fun k hk => by
        cases hf : listed.getD k false with
        | false => rfl
        | true => have := hk (fun j => listed.getD j false) hcl hf; rw [hfi] at this; cases this
      have hearlier : ∀ k, Anc ops i k → k ≠ i → listed.getD k false = true := fun k hk hne => by
        have := hk (fun j => listed.getD j false || j == i) (fun j o hj hfj ed hed hb => by
          simp only [Bool.or_eq_true, beq_iff_eq] at hfj ⊢
          rcases hfj with h1 | rfl
          · exact .inl (hcl j o hj h1 ed hed hb)
          · rw [ho] at hj; cases hj
            obtain ⟨m, hm, rfl⟩ := Array.getElem_of_mem hed
            have := hpl m hm
            rw [hb] at this
            left
            simpa using this) (by simp)
        simpa [hne] using this
      have hreads : ∀ t, (t ∈ rd i ∨ es[i].dst = some t) → ∀ j e', es[j]? = some e' → e'.dst = some t → j ≠ i → (j < i → listed.getD j false = true) ∧ (i < j → listed.getD j false = false) := by
        intro t ht j e' hj hd hne
        obtain ⟨h1, h2⟩ := hrd i j _ e' he hj hne t ht hd
        exact ⟨fun hlt => hearlier j (h1 hlt) hne, fun hlt => hlater j (h2 hlt)⟩
      have hgo := hst i _ _ ho he (fun j => listed.getD j false) (fun t ht => by
        refine applyF_getA t es 0 _ _ st0 st0 (fun j e' hj hd => ?_) rfl
        rw [Nat.zero_add]
        by_cases hne : j = i
        · subst hne; simp [hfi]
        · obtain ⟨h1, h2⟩ := hreads t (.inl ht) j e' hj hd hne
          by_cases hlt : j < i
          · simp [h1 hlt, hlt]
          · have : i < j := by omega
            simp [h2 this, hlt]) (fun r hr => by
        have h3 := applyF_rt r es 0 (fun j => decide (j < i)) (fun j => listed.getD j false) st0 st0 (fun j e' hj hd => by
          obtain ⟨h1, h2⟩ := hHs i j e' hj hil r hr hd
          rw [Nat.zero_add]
          simp [h1, hearlier j h2 (by omega)]) rfl rfl ⟨rfl, rfl⟩
        refine ⟨h3.1, ?_⟩
        rw [List.getD_eq_getElem?_getD, List.getD_eq_getElem?_getD, h3.2]) (fun n hn => by
        obtain ⟨⟨h1, h2⟩, h4⟩ := hfree i _ n he hn
        have h3 := applyF_rt n es 0 (fun j => listed.getD j false) (fun _ => false) st0 st0 (fun j e' hj hd => by
          rw [Nat.zero_add]
          by_cases hne : j = i
          · subst hne; exact hfi
          · exact absurd (hd.trans hn.symm) (hdist i j _ e' he hj hne (by rw [hn]; simp))) rfl rfl ⟨rfl, rfl⟩
        have hnone : ∀ (es : List Eff) (k : Nat) (s : St), applyF (fun _ => false) k es s = s := by
          intro es
          induction es with
          | nil => intro k s; rfl
          | cons e es ih => intro k s; simp only [applyF]; exact ih _ _
        rw [hnone] at h3
        refine ⟨by rw [h3.1]; exact h1, ?_⟩
        rw [List.getD_eq_getElem?_getD, h3.2, ← List.getD_eq_getElem?_getD]; exact h2) a w hh
      have hnext : ∀ a' w', Holds Z E (es[i].on (applyF (fun j => listed.getD j false) 0 es st0)) a' w' → wpAny P .any ops N fuel (listed.setIfInBounds i true) a' w' := by
        intro a' w' hh'
        have hset : ∀ j, (listed.setIfInBounds i true).getD j false = (listed.getD j false || j == i) := by
          intro j
          simp only [Array.getD_eq_getD_getElem?, Array.getElem?_setIfInBounds]
          by_cases hj : i = j
          · subst hj; simp [show i < listed.size by omega]
          · have : ¬ j = i := fun e => hj e.symm
            simp [hj, this]
        refine ih _ a' w' (by simpa using hsz) ?_ (fun j hj => by rw [hset] at hj; simp only [Bool.or_eq_true, beq_iff_eq] at hj; rcases hj with h | rfl; exact hm j h; exact hil) ?_ ?_
        · have hsub : ((List.range ops.size).filter fun j => !(listed.setIfInBounds i true).getD j false) = ((List.range ops.size).filter fun j => !listed.getD j false).filter fun j => !(j == i) := by
            rw [List.filter_filter]
            congr 1
            funext j
            rw [hset]
            cases listed.getD j false <;> cases (j == i) <;> rfl
          rw [hsub]
          have hmem : i ∈ (List.range ops.size).filter fun j => !listed.getD j false := by
            rw [List.mem_filter]; exact ⟨hi1, by simp [hfi]⟩
          have hlt := (List.length_filter_lt_length_iff_exists (p := fun j => !(j == i))).2 ⟨i, hmem, by simp⟩
          omega
        · intro j o hj hfj ed hed hb
          rw [hset] at hfj ⊢
          simp only [Bool.or_eq_true, beq_iff_eq] at hfj ⊢
          rcases hfj with h1 | rfl
          · exact .inl (hcl j o hj h1 ed hed hb)
          · rw [ho] at hj; cases hj
            obtain ⟨m, hm, rfl⟩ := Array.getElem_of_mem hed
            have := hpl m hm
            rw [hb] at this
            left
            simpa using this
        · have hq := applyF_add (st := st0) (f := fun j => listed.getD j false) he (fun j e' hj hej _ hd => by
            cases hd2 : es[i].dst with
            | none => rw [hd2] at hd; rename_i hne; exact absurd hd2 hne
            | some t =>
              rw [hd2] at hd
              exact (hreads t (.inr hd2) j e' hej hd (by omega)).2 hj) (fun j e' hj hej hne => hdist i j _ e' he hej hj hne) (fun n hn => by
            obtain ⟨⟨h1, _⟩, h4⟩ := hfree i _ n he hn
            exact ⟨(List.getElem?_eq_some_iff.1 h1).1, h4⟩)
          have := hq.holds hh'
          have hfun : (fun j => (listed.setIfInBounds i true).getD j false) = fun j => listed.getD j false || j == i := funext hset
          rw [hfun]
          exact this
      unfold wpOp
      simp only [ho]
      split
      · rename_i hw
        have := hgo (wpAny P .any ops N fuel (listed.setIfInBounds i true)) N hnext
        rw [if_pos hw] at this
        exact .inl this
      · rename_i hw
        have := hgo (wpAny P .any ops N fuel (listed.setIfInBounds i true)) N hnext
        rw [if_neg hw] at this
        exact this
  refine main ops.size _ a w (by simp) ?_ (fun j hf => ?_) (fun j o hj hf => ?_) ?_
  · exact Nat.le_trans (List.length_filter_le _ _) (by simp)
  · simp only [Array.getD_eq_getD_getElem?, Array.getElem?_replicate] at hf
    split at hf <;> simp at hf
  · simp only [Array.getD_eq_getD_getElem?, Array.getElem?_replicate] at hf
    split at hf <;> simp at hf
  · have hf : (fun j => (Array.replicate ops.size false).getD j false) = fun _ => false := by
      funext k
      simp only [Array.getD_eq_getD_getElem?, Array.getElem?_replicate]
      split <;> rfl
    rw [hf, applyF_none]
    exact hh
theorem count_rest : ∀ (n m : Nat) (g : Nat → Bool), m ≤ n → (∀ j, g j = decide (j < m)) → ((List.range n).filter fun i => !g i).length = n - m := by
  intro n m g hmn hg
  have : ((List.range n).filter fun i => !g i) = (List.range n).filter fun i => decide (m ≤ i) := by
    congr 1; funext i; rw [hg]; by_cases h : i < m <;> simp [h] <;> omega
  rw [this]
  clear this hg
  induction n with
  | zero => simp
  | succ n ih =>
    rw [List.range_succ, List.filter_append, List.length_append]
    by_cases h : m ≤ n
    · rw [ih h]; simp [h]; omega
    · have hm : m = n + 1 := by omega
      subst hm
      have h0 : (List.range n).filter (fun i => decide (n + 1 ≤ i)) = [] := by
        rw [List.filter_eq_nil_iff]; intro i hi; simp at hi ⊢; omega
      rw [h0]; simp
theorem draw_ok {E : Ent} {ops : Array Oper} (es : List Eff) (hlen : es.length ≤ ops.size) (st0 : St) (rd : Nat → List Nat) (Hs : Nat → Nat → Bool)
    (hst : ∀ (i : Nat) (o : Oper) (e : Eff), ops[i]? = some o → es[i]? = some e → ∀ f : Nat → Bool, (∀ t ∈ rd i, getA (applyF f 0 es st0).sl t = getA (applyF (fun j => decide (j < i)) 0 es st0).sl t) → Ag (Hs i) (applyF (fun j => decide (j < i)) 0 es st0) (applyF f 0 es st0) →
      (∀ n, e.root = some n → (applyF f 0 es st0).free n) → ∀ (a : Act) (w : World), Holds Z E (applyF f 0 es st0) a w → ∀ (K : Act → World → Prop) (N : Exit → Act → World → Prop), (∀ a' w', Holds Z E (e.on (applyF f 0 es st0)) a' w' → K a' w') →
        if Region.wanted o (yielded ops a.tmps) then o.wp P a w K N else K (a.put o.dst undef) w)
    (hpre : ∀ (i : Nat) (o : Oper), ops[i]? = some o → ∀ e ∈ o.after, Region.binds .any e = true → e.on < i)
    (hrd : ∀ (i k : Nat) (e e' : Eff), es[i]? = some e → es[k]? = some e' → k ≠ i → ∀ t, (t ∈ rd i ∨ e.dst = some t) → e'.dst = some t → (k < i → Anc ops i k) ∧ (i < k → Anc ops k i))
    (hHs : ∀ (i k : Nat) (e' : Eff), es[k]? = some e' → i < es.length → ∀ r, Hs i r = true → e'.root = some r → k < i ∧ Anc ops i k)
    (hdist : ∀ (i k : Nat) (e e' : Eff), es[i]? = some e → es[k]? = some e' → k ≠ i → e.root ≠ none → e'.root ≠ e.root)
    (hfree : ∀ (i : Nat) (e : Eff) (n : Nat), es[i]? = some e → e.root = some n → st0.free n ∧ n < st0.bx.length) {a : Act} {w : World} (hh : Holds Z E st0 a w) {N : Exit → Act → World → Prop} (htail : ∀ i k, i < ops.size → es.length ≤ i → k < es.length → Anc ops i k)
    (hN : ∀ (fuel : Nat) (listed : Array Bool) (a' : Act) (w' : World), listed.size = ops.size → (∀ j, listed.getD j false = decide (j < es.length)) → ops.size - es.length ≤ fuel → Holds Z E (applyF (fun _ => true) 0 es st0) a' w' → wpAny P .any ops N fuel listed a' w') :
    wpAny P .any ops N ops.size (Array.replicate ops.size false) a w := by
  refine draw_gen es hlen st0 rd Hs hst hpre hrd hHs hdist hfree hh (fun hsz a' w' hh' => ?_) fun fuel i listed a' w' hsz hc hm hcl hh' hi hge => ?_
  · have := hN 0 (Array.replicate ops.size true) a' w' (by simp) (fun j => by
      simp only [Array.getD_eq_getD_getElem?, Array.getElem?_replicate, hsz]
      by_cases h : j < ops.size <;> simp [h]) (by omega) hh'
    exact this.2
  · have hi0 := hi
    unfold Region.ready at hi
    rw [List.mem_filter] at hi
    obtain ⟨hi1, hi2⟩ := hi
    have hin : i < ops.size := by simpa using hi1
    have ho : ops[i]? = some ops[i] := Array.getElem?_eq_getElem hin
    simp only [ho, Option.map_some, Option.getD_some, Bool.and_eq_true, Bool.not_eq_true', Array.all_eq_true, Bool.or_eq_true] at hi2
    have hdone : ∀ k, k < es.length → listed.getD k false = true := by
      intro k hk
      have := htail i k hin hge hk (fun j => listed.getD j false || j == i) (fun j o hj hfj ed hed hb => by
        simp only [Bool.or_eq_true, beq_iff_eq] at hfj ⊢
        rcases hfj with h1 | rfl
        · exact .inl (hcl j o hj h1 ed hed hb)
        · rw [ho] at hj; cases hj
          obtain ⟨m, hm2, rfl⟩ := Array.getElem_of_mem hed
          have := hi2.2 m hm2
          rw [hb] at this
          left
          simpa using this) (by simp)
      have hne : ¬ k = i := by omega
      simpa [hne] using this
    have hj : ∀ j, listed.getD j false = decide (j < es.length) := fun j => by
      by_cases h : j < es.length
      · rw [hdone j h]; simp [h]
      · cases hv : listed.getD j false with
        | false => simp [h]
        | true => exact absurd (hm j hv) h
    have hfun : (fun j => listed.getD j false) = fun j => decide (j < es.length) := funext hj
    have hall : applyF (fun j => listed.getD j false) 0 es st0 = applyF (fun _ => true) 0 es st0 := by
      rw [hfun]
      have key : ∀ (l : List Eff) (k : Nat) (s : St), k + l.length ≤ es.length → applyF (fun j => decide (j < es.length)) k l s = applyF (fun _ => true) k l s := by
        intro l
        induction l with
        | nil => intro k s _; rfl
        | cons e l ih =>
          intro k s hk
          simp only [List.length_cons] at hk
          simp only [applyF]
          rw [if_pos (by simp; omega), if_pos trivial]
          exact ih (k + 1) _ (by omega)
      exact key es 0 st0 (by omega)
    have := hN (fuel + 1) listed a' w' hsz hj (by rw [← count_rest ops.size es.length _ hlen hj]; exact hc) (by rw [← hall]; exact hh')
    exact this.2 i hi0
end
end Go.Abs

/- What waits for what: a check on a drawn region's text. -/
namespace Go.Abs
open Go
set_option linter.unusedVariables false
set_option linter.unusedSimpArgs false
variable {Z : TypeId → Nat}
/-- Those that a list of edges waits for, as bits. -/
def maskE (acc : List Nat) : List Edge → Nat
  | [] => 0
  | e :: r => if Region.binds .any e then (1 <<< e.on) ||| (acc.getD e.on 0 ||| maskE acc r) else maskE acc r
def ancGo : List Oper → List Nat → List Nat
  | [], acc => acc
  | o :: rest, acc => ancGo rest (acc ++ [maskE acc o.after.toList])
def ancs (ops : List Oper) : List Nat := ancGo ops []
theorem maskE_bit {acc : List Nat} {k : Nat} : ∀ (l : List Edge), (maskE acc l).testBit k = true → ∃ e ∈ l, Region.binds .any e = true ∧ (e.on = k ∨ (acc.getD e.on 0).testBit k = true)
  | [], h => by simp [maskE] at h
  | e :: r, h => by
    simp only [maskE] at h
    split at h
    · rename_i hb
      simp only [Nat.testBit_or, Bool.or_eq_true] at h
      rcases h with h | h | h
      · refine ⟨e, List.mem_cons_self .., hb, .inl ?_⟩
        rw [Nat.one_shiftLeft, Nat.testBit_two_pow] at h
        simpa using h
      · exact ⟨e, List.mem_cons_self .., hb, .inr h⟩
      · obtain ⟨e', h1, h2⟩ := maskE_bit r h
        exact ⟨e', List.mem_cons_of_mem _ h1, h2⟩
    · obtain ⟨e', h1, h2⟩ := maskE_bit r h
      exact ⟨e', List.mem_cons_of_mem _ h1, h2⟩
theorem ancGo_ok {ops : Array Oper} : ∀ (l : List Oper) (acc : List Nat), (∀ j, l[j]? = ops[acc.length + j]?) → (∀ i k, (acc.getD i 0).testBit k = true → Anc ops i k) → ∀ i k, ((ancGo l acc).getD i 0).testBit k = true → Anc ops i k
  | [], acc, _, h, i, k, hk => h i k hk
  | o :: rest, acc, hl, h, i, k, hk => by
    refine ancGo_ok rest (acc ++ [maskE acc o.after.toList]) (fun j => ?_) (fun i k hk => ?_) i k hk
    · have := hl (j + 1)
      simpa [Nat.add_assoc, Nat.add_comm 1 j] using this
    · by_cases hi : i < acc.length
      · rw [List.getD_eq_getElem?_getD, List.getElem?_append_left hi, ← List.getD_eq_getElem?_getD] at hk
        exact h i k hk
      · by_cases hi2 : i = acc.length
        · subst hi2
          rw [List.getD_eq_getElem?_getD, List.getElem?_append_right (Nat.le_refl _)] at hk
          simp only [Nat.sub_self, List.getElem?_cons_zero, Option.getD_some] at hk
          obtain ⟨e, h1, h2, h3⟩ := maskE_bit _ hk
          have ho : ops[acc.length]? = some o := by have := hl 0; simpa using this.symm
          intro f hf hfi
          have he := hf _ o ho hfi e (by simpa using h1) h2
          rcases h3 with h3 | h3
          · rw [← h3]; exact he
          · exact h _ _ h3 f hf he
        · rw [List.getD_eq_getElem?_getD, List.getElem?_append_right (by omega)] at hk
          have : i - acc.length ≠ 0 := by omega
          obtain ⟨m, hm⟩ := Nat.exists_eq_succ_of_ne_zero this
          rw [hm] at hk
          simp at hk
theorem ancs_ok {ops : Array Oper} {i k : Nat} (h : ((ancs ops.toList).getD i 0).testBit k = true) : Anc ops i k :=
  ancGo_ok (ops := ops) ops.toList [] (fun j => by simp) (fun i k hk => by simp at hk) i k h
def slotOf : Operand → List Nat
  | .tmp t => [t]
  | _ => []
/-- The slots that an operation looks at. -/
def readsOf (dsts : List (Option Nat)) (o : Oper) : List Nat :=
  o.op.operands.toList.flatMap slotOf ++ (match o.guard with
    | some (j, _) => ((dsts[j]?).bind id).toList
    | none => [])
/-- The check: edges go back; who writes what another one reads or writes is ordered with it. -/
def okD (ops : List Oper) : Bool :=
  (ops.zipIdx.all fun x => x.1.after.toList.all fun e => !Region.binds .any e || decide (e.on < x.2)) &&
  (ops.zipIdx.all fun x => ops.zipIdx.all fun y => decide (y.2 = x.2) || (match y.1.dst with
    | none => true
    | some t => !((readsOf (ops.map (·.dst)) x.1 ++ x.1.dst.toList).contains t) || (if y.2 < x.2 then ((ancs ops).getD x.2 0).testBit y.2 else ((ancs ops).getD y.2 0).testBit x.2)))
theorem zipIdx_mem {ops : List Oper} {i : Nat} {o : Oper} (h : ops[i]? = some o) : (o, i) ∈ ops.zipIdx := by
  rw [List.mem_zipIdx_iff_getElem?]; exact h
theorem okD_pre {ops : Array Oper} (h : okD ops.toList = true) : ∀ (i : Nat) (o : Oper), ops[i]? = some o → ∀ e ∈ o.after, Region.binds .any e = true → e.on < i := by
  intro i o ho e he hb
  simp only [okD, Bool.and_eq_true, List.all_eq_true] at h
  have := h.1 (o, i) (zipIdx_mem (by simpa using ho)) e (by simpa using he)
  simpa [hb] using this
theorem okD_cmp {ops : Array Oper} (h : okD ops.toList = true) {i k : Nat} {o o' : Oper} (hi : ops[i]? = some o) (hk : ops[k]? = some o') (hne : k ≠ i) {t : Nat} (ht : t ∈ readsOf (ops.toList.map (·.dst)) o ∨ o.dst = some t) (hd : o'.dst = some t) :
    (k < i → Anc ops i k) ∧ (i < k → Anc ops k i) := by
  simp only [okD, Bool.and_eq_true, List.all_eq_true] at h
  have := h.2 (o, i) (zipIdx_mem (by simpa using hi)) (o', k) (zipIdx_mem (by simpa using hk))
  simp only [hne, decide_false, Bool.false_or, hd, Bool.or_eq_true, Bool.not_eq_true'] at this
  rcases this with h1 | h1
  · exfalso
    have hmem : t ∈ readsOf (ops.toList.map (·.dst)) o ++ o.dst.toList := by
      rw [List.mem_append]
      exact ht.imp id fun h => by simp [h]
    have : (readsOf (ops.toList.map (·.dst)) o ++ o.dst.toList).contains t = true := by simpa using hmem
    rw [this] at h1; cases h1
  · constructor
    · intro hlt; rw [if_pos hlt] at h1; exact ancs_ok h1
    · intro hlt; rw [if_neg (by omega)] at h1; exact ancs_ok h1
end Go.Abs

/- One operation of a drawn region: its effect, wherever what it looks at is the same. -/
namespace Go.Abs
open Go
set_option linter.unusedVariables false
set_option linter.unusedSimpArgs false
variable {Z : TypeId → Nat}
section
variable {P : Program} {H : Nat → Bool} {st st1 : St}
theorem snapP_ag (h : Ag H st st1) {p : Path} (hp : hinP H p = true) : snapP st p = snapP st1 p := by
  unfold snapP
  split
  · rename_i r c
    simp only [hinP] at hp
    obtain ⟨h1, h2⟩ := h r hp
    rw [h1, h2]
  · rfl
mutual
theorem snap_ag (h : Ag H st st1) : ∀ (x : AV), hin H x = true → snap st x = snap st1 x
  | .c _, _ => by simp [snap]
  | .nils, _ => by simp [snap]
  | .bor p _ _, hx => by simp only [hin] at hx; simp only [snap, look_ag h hx]
  | .ptr p, hx => by simp only [hin] at hx; simp only [snap, snapP_ag h hx]
  | .sptr _ _, _ => by simp [snap]
  | .agg xs, hx => by simp only [hin] at hx; simp only [snap, snapL_ag h xs hx]
  | .fn f a b, hx => by simp only [hin, Bool.and_eq_true] at hx; simp only [snap, snapL_ag h a hx.1, snapL_ag h b hx.2]
  | .tup _, _ => by simp [snap]
  | .nb _, _ => by simp [snap]
  | .dead, _ => by simp [snap]
theorem snapL_ag (h : Ag H st st1) : ∀ (xs : List AV), hinL H xs = true → snapL st xs = snapL st1 xs
  | [], _ => by simp [snapL]
  | x :: xs, hx => by simp only [hinL, Bool.and_eq_true] at hx; simp only [snapL, snap_ag h x hx.1, snapL_ag h xs hx.2]
end
/-- Cells of values that own nothing. -/
def cellsOf : List TypeId → List AV → Option (List Cell)
  | _, [] => some []
  | es, .c (.sc v) :: xs => (cellsOf es.tail xs).map (.sc v :: ·)
  | es, .c (.row false e r) :: xs => (cellsOf es.tail xs).map (.row false e r :: ·)
  | es, .nils :: xs => (cellsOf es.tail xs).map (.row true (es.headD 0) [] :: ·)
  | _, _ => none
theorem cellsOf_ok (st : St) : ∀ (xs : List AV) (es : List TypeId) (cs : List Cell), cellsOf es xs = some cs → absorbL es st id xs = some (st, cs)
  | [], es, cs, h => by simp only [cellsOf, Option.some.injEq] at h; subst h; rfl
  | x :: xs, es, cs, h => by
    have key : ∀ (c : Cell), absorb (es.headD 0) st x = some (st, c, []) → (cellsOf es.tail xs).map (c :: ·) = some cs → absorbL es st id (x :: xs) = some (st, cs) := by
      intro c hc hm
      simp only [Option.map_eq_some_iff] at hm
      obtain ⟨cs', h1, rfl⟩ := hm
      simp only [absorbL, id_eq, hc]
      have := cellsOf_ok st xs es.tail cs' h1
      show (match absorbL es.tail st (trq [] id) xs with | some (st2, cells) => some (st2, c :: cells) | none => none) = _
      rw [show trq [] id = (id : AV → AV) from rfl, this]
    cases x with
    | c c0 =>
      cases c0 with
      | sc v => simp only [cellsOf] at h; exact key _ rfl h
      | hole => simp [cellsOf] at h
      | row o e r =>
        cases o with
        | true => simp [cellsOf] at h
        | false => simp only [cellsOf] at h; exact key _ rfl h
    | nils => simp only [cellsOf] at h; exact key _ rfl h
    | _ => simp [cellsOf] at h
def allocD (P : Program) (t : TypeId) : Option (List Cell) := (zeroAV P t).bind fun z => cellsOf (cellE P t) (avCells z)
theorem allocD_ok {t : TypeId} {c : Cell} {cs : List Cell} (h : allocD P t = some (c :: cs)) (st : St) (nid : Nat) : allocA P st nid t = some (.ptr [(nid, 0)], st.fill nid (c :: cs) true) := by
  unfold allocD at h
  unfold allocA
  cases hz : zeroAV P t with
  | none => rw [hz] at h; cases h
  | some z =>
    rw [hz] at h
    simp only [Option.bind_some] at h ⊢
    unfold boxA
    rw [cellsOf_ok st _ _ _ h]
def bsliceD (P : Program) (st : St) (t : TypeId) (len : Nat) (parts : List (Nat × Operand)) : Option Cell :=
  match Abs.elemOf P t with
  | some e => match einfo P e with
    | some (sz, _, zs) => if len * sz ≤ 16777216 ∧ (parts.map fun p => (p.1, evA st p.2)).all (fun p => plain p.2) = true then
        match fillA (fun i => some (i * sz, sz)) ((List.replicate len zs).flatten) (parts.map fun p => (p.1, evA st p.2)) with
        | some r => match cellsOf ((List.replicate len (cellE P e)).flatten) r with
          | some cells => some (.row true e (chunk len sz cells))
          | none => none
        | none => none
      else none
    | none => none
  | none => none
theorem bsliceD_ok {t : TypeId} {len : Nat} {parts : List (Nat × Operand)} {c : Cell} (h : bsliceD P st t len parts = some c) (hp : ∀ p ∈ parts, evA st p.2 = evA st1 p.2) (nid : Nat) : buildSliceA P st1 nid t len parts = some (.bor [(nid, 0)] 0 len, st1.fill nid [c] false) := by
  have hm : (parts.map fun p => (p.1, evA st p.2)) = parts.map fun p => (p.1, evA st1 p.2) := List.map_congr_left fun p h => by rw [hp p h]
  unfold bsliceD at h
  rw [hm] at h
  unfold buildSliceA
  split at h
  · rename_i e he
    split at h
    · rename_i sz by_ zs hi
      split at h
      · rename_i hc
        simp only [he, hi]
        rw [if_pos hc]
        split at h
        · rename_i r hr
          split at h
          · rename_i cells hcl
            cases h
            simp only [hr, cellsOf_ok st1 _ _ _ hcl]
          · cases h
        · cases h
      · cases h
    · cases h
  · cases h
/-- A result's effect. -/
def effR (nid : Nat) (y : AV) : AV × List Cell × Bool :=
  match y with
  | .nb cells => (.ptr [(nid, 0)], cells, true)
  | y => ((unp nid 0 y).1, (unp nid 0 y).2, false)
theorem effR_ok (st : St) (nid : Nat) (y : AV) : unpR st nid y = ((effR nid y).1, st.fill nid (effR nid y).2.1 (effR nid y).2.2) := by
  unfold unpR effR
  cases y <;> rfl
def gateV (dsts : List (Option Nat)) (st : St) (g : Option (Nat × Bool)) : Option Bool :=
  match g with
  | none => some true
  | some (j, want) => match (dsts[j]?).bind id with
    | none => some false
    | some d => match getA st.sl d with
      | .c (.sc (.bool b)) => some (b == want)
      | .tup [] => some false
      | _ => none
theorem gate_dec {E : Ent} {a : Act} {w : World} {ops : Array Oper} {o : Oper} (hh : Holds Z E st a w) {b : Bool} (hb : gateV (ops.toList.map (·.dst)) st o.guard = some b) : Region.wanted o (yielded ops a.tmps) = b := by
  obtain ⟨S, vals, fps, cb, hI⟩ := hh
  unfold gateV at hb
  split at hb
  · rename_i hg; cases hb; simp [Region.wanted, hg]
  · rename_i j want hg
    have hy : (ops.toList.map (·.dst))[j]?.bind id = (ops[j]?).bind (·.dst) := by
      simp only [List.getElem?_map, Array.getElem?_toList]
      cases ops[j]? <;> rfl
    rw [hy] at hb
    split at hb
    · rename_i hd; cases hb; simp [Region.wanted, hg, yielded, hd]
    · rename_i d hd
      have hsl := hI.sl d
      split at hb
      · rename_i b' hb'
        cases hb
        rw [hb'] at hsl
        obtain ⟨hv, _⟩ := sc_inv hsl
        have hlt : a.tmps[d]? = some (.bool b') := by
          by_cases hd2 : d < a.tmps.size
          · simpa [Array.getD_eq_getD_getElem?, hd2] using hv
          · simp [Array.getD_eq_getD_getElem?, Array.getElem?_eq_none (Nat.le_of_not_lt hd2), undef] at hv
        have hyl : yielded ops a.tmps j = some b' := by unfold yielded; rw [hd]; simp [hlt]
        simp only [Region.wanted, hg, hyl]
        cases b' <;> cases want <;> rfl
      · rename_i hb'
        cases hb
        rw [hb'] at hsl
        have hv : a.tmps.getD d undef = undef := by
          generalize a.tmps.getD d undef = u at hsl
          cases hsl with
          | @tup _ vs hl _ =>
            have : vs = [] := List.eq_nil_of_length_eq_zero (by simpa using hl.symm)
            subst this; rfl
        have hyl : yielded ops a.tmps j = none := by
          unfold yielded; rw [hd]
          simp only [Option.bind_some]
          by_cases hd2 : d < a.tmps.size
          · have : a.tmps[d]? = some undef := by simpa [Array.getD_eq_getD_getElem?, hd2] using hv
            rw [this]; rfl
          · rw [Array.getElem?_eq_none (Nat.le_of_not_lt hd2)]
        simp [Region.wanted, hg, hyl]
      · cases hb
/-- An operation's effect, in a state. -/
inductive RunD (Z : TypeId → Nat) (P : Program) (G : World → Prop) (B0 nid : Nat) (st : St) (op : Op) (e : Eff) : Prop
  | quiet (hq : quiet op = true) (hb : evalOp P st nid op = some (e.av, st)) (hf : e.fill = none)
  | alloc {t : TypeId} {c : Cell} {cs : List Cell} (ho : op = .alloc t) (hc : allocD P t = some (c :: cs)) (ha : e.av = .ptr [(nid, 0)]) (hf : e.fill = some (nid, c :: cs, true))
  | bslice {t : TypeId} {n : Nat} {parts : Array (Nat × Operand)} {c : Cell} (ho : op = .buildSlice t n parts) (hc : bsliceD P st t n parts.toList = some c) (ha : e.av = .bor [(nid, 0)] 0 n) (hf : e.fill = some (nid, [c], false))
  | snap {fv : Operand} {args : Array Operand} {tys : Array TypeId} {f : FuncId} {first caps args' : List AV} {y : AV} (ho : op = .call { callee := .value fv, args := args, argTypes := tys }) (hv : evA st fv = .fn f first caps)
      (hs : snapL st (first ++ args.toList.map (evA st) ++ caps) = some args') (hF : Does Z P G B0 f args' [] [] fun z _ => z = y) (hn : noShrA y = true) (ha : e.av = (effR nid y).1) (hf : e.fill = some (nid, (effR nid y).2))
  | clos {fv : Operand} {args : Array Operand} {tys : Array TypeId} {f : FuncId} {first caps : List AV} {y : AV} (ho : op = .call { callee := .value fv, args := args, argTypes := tys }) (hv : evA st fv = .fn f first caps)
      (hs : closL (first ++ args.toList.map (evA st) ++ caps) = true) (hF : Does Z P G B0 f (first ++ args.toList.map (evA st) ++ caps) [] [] fun z _ => z = y) (ha : e.av = (effR nid y).1) (hf : e.fill = some (nid, (effR nid y).2))
structure StepD (Z : TypeId → Nat) (P : Program) (G : World → Prop) (B0 : Nat) (dsts : List (Option Nat)) (H : Nat → Bool) (nid : Nat) (o : Oper) (st : St) (e : Eff) : Prop where
  dst : e.dst = o.dst
  can : st.can o.dst = true
  hin : ∀ x ∈ o.op.operands.toList, hin H (evA st x) = true
  run : (gateV dsts st o.guard = some false ∧ e.av = .tup [] ∧ e.fill = none) ∨ (gateV dsts st o.guard = some true ∧ RunD Z P G B0 nid st o.op e)
theorem call_at {E : Ent} {G : World → Prop} {B0 : Nat} {a : Act} {w : World} {S : Nat → Prop} {vals : Nat → Nat → Value} {fps : Nat → Nat → Nat → Prop} {cb : Nat → Nat} (hE : EOk G B0 E) (h : Inv Z E st a w S vals fps cb) {nid : Nat} (hfree : st.free nid) (hnl : E.nl ≤ nid) {f : FuncId} {args : List AV} {vs : List Value} {y : AV}
    (hc : Calls P f vs.toArray w (Back Z E st a vals fps cb fun z => z = y)) : Calls P f vs.toArray w (CallGives Z E a fun av st' => (av, st') = ((effR nid y).1, st.fill nid (effR nid y).2.1 (effR nid y).2.2)) := by
  refine hc.mono fun e w' hb => ?_
  obtain ⟨z, v, S2, fp, rfl, rfl, h2, h3, h4, h5⟩ := hb
  obtain ⟨vals', fps', cb', g1, g2⟩ := unpR_ok h3 hfree hnl h4 h2 h5
  exact ⟨_, v, _, S2, vals', fps', cb', rfl, (effR_ok st nid z).symm ▸ rfl, g1, g2⟩
theorem stepD_ok (hZ : ZOk P Z) {E : Ent} {G : World → Prop} {B0 : Nat} (hE : EOk G B0 E) {ops : Array Oper} {nid : Nat} (hnl : E.nl ≤ nid) {o : Oper} {e : Eff} (hs : StepD Z P G B0 (ops.toList.map (·.dst)) H nid o st e)
    (hr : ∀ t ∈ readsOf (ops.toList.map (·.dst)) o, getA st1.sl t = getA st.sl t) (hag : Ag H st st1) (hnt : st1.nt = st.nt) (hfree : ∀ n, e.root = some n → st1.free n) {a : Act} {w : World} (hh : Holds Z E st1 a w)
    {K : Act → World → Prop} {N : Exit → Act → World → Prop} (hK : ∀ a' w', Holds Z E (e.on st1) a' w' → K a' w') : if Region.wanted o (yielded ops a.tmps) then o.wp P a w K N else K (a.put o.dst undef) w := by
  have hop : ∀ x ∈ o.op.operands.toList, evA st x = evA st1 x := by
    intro x hx
    cases x with
    | tmp t => exact (hr t (by unfold readsOf; rw [List.mem_append]; left; exact List.mem_flatMap.2 ⟨_, hx, by simp [slotOf]⟩)).symm
    | _ => rfl
  have hgv : gateV (ops.toList.map (·.dst)) st1 o.guard = gateV (ops.toList.map (·.dst)) st o.guard := by
    unfold gateV
    split
    · rfl
    · rename_i j want hg
      split
      · rfl
      · rename_i d hd
        rw [hr d (by unfold readsOf; rw [List.mem_append]; right; rw [hg]; simp only [hd]; simp)]
  have hcan : st1.can o.dst = true := by
    have := hs.can
    unfold St.can at this ⊢
    rw [hnt]; exact this
  have hput : ∀ {st2 : St} {av : AV} {v : Value} {w' : World} {S' : Nat → Prop} {vals' : Nat → Nat → Value} {fps' : Nat → Nat → Nat → Prop} {cb' : Nat → Nat}, Inv Z E st2 a w' S' vals' fps' cb' → RA Z w' S' st2.rt vals' (adr st2.bx cb') av v → st2.nt = st1.nt → Holds Z E (st2.put o.dst av) (a.put o.dst v) w' := by
    intro st2 av v w' S' vals' fps' cb' hI hR hn
    exact ⟨S', vals', fps', cb', hI.put (by unfold St.can at hcan ⊢; rw [hn]; exact hcan) hR⟩
  rcases hs.run with ⟨hg, hav, hf⟩ | ⟨hg, hrun⟩
  · rw [if_neg (by rw [gate_dec hh (hgv.trans hg)]; simp)]
    obtain ⟨S, vals, fps, cb, hI⟩ := hh
    refine hK _ _ ?_
    have h5 := hput hI (RA.tup (xs := []) (vs := []) rfl (by simp)) rfl
    unfold Eff.on
    rw [hf, hav, hs.dst]
    exact h5
  · rw [if_pos (gate_dec hh (hgv.trans hg))]
    obtain ⟨S, vals, fps, cb, hI⟩ := hh
    have gen : ∀ (st2 : St) (av : AV), evalOp P st1 nid o.op = some (av, st2) → (makes o.op = true → st1.free nid) → st2.nt = st1.nt → st2.put o.dst av = e.on st1 → o.wp P a w K N := by
      intro st2 av hb hm hn heq
      obtain ⟨v, w', S', vals', fps', cb', hrun, hI2, hR⟩ := evalOp_ok hZ hI o hm hnl hb
      have hp := hK _ _ (by rw [← heq]; exact hput hI2 hR hn)
      rcases hrun with hrun | ⟨hrun, rfl⟩
      · simp only [Oper.wp, hrun, Oper.upon]; exact hp
      · simp only [Oper.wp, hrun, Oper.upon]; exact hp
    have callgen : ∀ {fv : Operand} {args : Array Operand} {tys : Array TypeId} {f : FuncId} {first caps : List AV} {y : AV}, o.op = .call { callee := .value fv, args := args, argTypes := tys } → evA st fv = .fn f first caps → e.av = (effR nid y).1 → e.fill = some (nid, (effR nid y).2) → callable P f = true →
        (∀ vs : List Value, RL (RA Z w S st1.rt vals (adr st1.bx cb)) (first ++ args.toList.map (evA st) ++ caps) vs → Calls P f vs.toArray w (Back Z E st1 a vals fps cb fun z => z = y)) → o.wp P a w K N := by
      intro fv args tys f first caps y ho hv ha hf hcb hcalls
      have hfvm : evA st1 fv = .fn f first caps := by rw [← hop fv (by rw [ho]; simp [Op.operands, Call.operands])]; exact hv
      have hmap : args.toList.map (evA st) = args.toList.map (evA st1) := List.map_congr_left fun x hx => hop x (by rw [ho]; simp [Op.operands, Call.operands]; exact .inr (by simpa using hx))
      rw [hmap] at hcalls
      have hvv := hI.eval fv
      rw [hfvm] at hvv
      generalize hev : a.eval fv = u at hvv
      cases hvv with
      | @fn _ xs ys vs us hl hl2 hx hy =>
        have hargs : RL (RA Z w S st1.rt vals (adr st1.bx cb)) (first ++ args.toList.map (evA st1) ++ caps) (vs ++ args.toList.map a.eval ++ us) := by
          have h1 := RL_map (Z := Z) (w := w) (S := S) (vals := vals) (es := st1.rt) (ad := adr st1.bx cb) args.toList hI.eval
          refine ⟨by simp [hl, hl2], fun i x v hxi hvi => ?_⟩
          by_cases c1 : i < first.length
          · rw [List.append_assoc, List.getElem?_append_left c1] at hxi
            rw [List.append_assoc, List.getElem?_append_left (by omega)] at hvi
            exact hx i x v hxi hvi
          · rw [List.append_assoc, List.getElem?_append_right (by omega)] at hxi hvi
            rw [hl] at hxi
            by_cases c2 : i - vs.length < args.toList.length
            · rw [List.getElem?_append_left (by simpa using c2)] at hxi hvi
              exact h1.2 _ x v hxi hvi
            · rw [List.getElem?_append_right (by simpa using c2)] at hxi hvi
              simp only [List.length_map] at hxi hvi
              exact hy _ x v hxi hvi
        have hc := call_at (args := []) hE hI (hfree nid (by simp [Eff.root, hf])) hnl (hcalls _ hargs)
        have he := exec_call (P := P) (w := w) (a := a) ho hev hcb
        have harr : (vs.toArray ++ args.map a.eval ++ us.toArray) = (vs ++ args.toList.map a.eval ++ us).toArray := by
          apply Array.ext'; simp
        simp only [Oper.wp, he, Oper.upon, harr]
        refine hc.mono fun en w' hg2 => ?_
        obtain ⟨av, v, st', S', vals', fps', cb', rfl, hk, hI2, hR⟩ := hg2
        cases hk
        refine hK _ _ ?_
        have h5 := hput hI2 hR rfl
        unfold Eff.on
        rw [hf, ha, hs.dst]
        exact h5
    cases hrun with
    | quiet hq hb hf =>
      obtain ⟨_, h2⟩ := evalQ_ag hag hq (fun x hx => ⟨hop x hx, hs.hin x hx⟩) hb
      refine gen st1 e.av h2 (fun hm => ?_) rfl (by unfold Eff.on; rw [hf, hs.dst])
      exfalso
      cases hop2 : o.op with
      | call c =>
        rw [hop2] at hm hq
        obtain ⟨cal, args, tys⟩ := c
        cases cal with
        | builtin b => cases b <;> simp [makes, quiet] at hm hq
        | _ => simp [makes] at hm
      | _ => rw [hop2] at hm hq; simp [makes, quiet] at hm hq
    | @alloc t c cs ho hc ha hf =>
      refine gen (st1.fill nid (c :: cs) true) e.av ?_ (fun _ => hfree nid (by simp [Eff.root, hf])) rfl (by unfold Eff.on; rw [hf, hs.dst])
      rw [ho, ha]; exact allocD_ok hc st1 nid
    | @bslice t n parts c ho hc ha hf =>
      refine gen (st1.fill nid [c] false) e.av ?_ (fun _ => hfree nid (by simp [Eff.root, hf])) rfl (by unfold Eff.on; rw [hf, hs.dst])
      rw [ho, ha]
      exact bsliceD_ok hc (fun p hp => hop p.2 (by rw [ho]; simp only [Op.operands]; exact List.mem_map.2 ⟨p, hp, rfl⟩)) nid
    | @snap fv args tys f first caps args' y ho hv hsn hF hn ha hf =>
      refine callgen ho hv ha hf hF.1 fun vs hra => ?_
      have hin2 : hinL H (first ++ args.toList.map (evA st) ++ caps) = true := by
        have h1 := hs.hin fv (by rw [ho]; simp [Op.operands, Call.operands])
        rw [hv] at h1
        simp only [Abs.hin, Bool.and_eq_true, hinL_mem] at h1
        rw [hinL_mem]
        intro x hx
        simp only [List.mem_append, List.mem_map] at hx
        rcases hx with (hx | ⟨q, hq, rfl⟩) | hx
        · exact h1.1 x hx
        · exact hs.hin q (by rw [ho]; simp [Op.operands, Call.operands]; exact .inr (by simpa using hq))
        · exact h1.2 x hx
      exact call_snap hE hI hra (by rw [← snapL_ag hag _ hin2]; exact hsn) hF fun z hz => by rw [hz]; exact hn
    | @clos fv args tys f first caps y ho hv hsn hF ha hf =>
      exact callgen ho hv ha hf hF.1 fun vs hra => call_clos hE hI hra hsn hF
end
end Go.Abs

/- A drawn region's formula: the operations whose order is open, then those that come behind all. -/
namespace Go.Abs
open Go
set_option linter.unusedVariables false
set_option linter.unusedSimpArgs false
variable {Z : TypeId → Nat}
def fills : Op → Bool
  | .alloc _ | .buildSlice _ _ _ => true
  | .call { callee := .value _, .. } => true
  | _ => false
def Hof (base : Nat) (hs : List Nat) (r : Nat) : Bool := decide (r < base) || hs.contains r
/-- A call in it, by an exact contract. -/
inductive CallD (Z : TypeId → Nat) (P : Program) (G : World → Prop) (B0 : Nat) (st : St) (f : FuncId) (args : List AV) (K : AV → Prop) : Prop
  | snap {args' : List AV} {y : AV} (hs : snapL st args = some args') (hF : Does Z P G B0 f args' [] [] fun z _ => z = y) (hn : noShrA y = true) (hk : K y)
  | clos {y : AV} (hs : closL args = true) (hF : Does Z P G B0 f args [] [] fun z _ => z = y) (hk : K y)
def runD (Z : TypeId → Nat) (P : Program) (G : World → Prop) (B0 nid : Nat) (st : St) (o : Oper) (K : St → Prop) : Prop :=
  match o.op with
  | .call { callee := .value fv, args := args, argTypes := _ } => match evA st fv with
    | .fn f first caps => CallD Z P G B0 st f (first ++ args.toList.map (evA st) ++ caps) fun y => K ((st.fill nid (effR nid y).2.1 (effR nid y).2.2).put o.dst (effR nid y).1)
    | _ => False
  | .alloc t => match allocD P t with
    | some (c :: cs) => K ((st.fill nid (c :: cs) true).put o.dst (.ptr [(nid, 0)]))
    | _ => False
  | .buildSlice t n parts => match bsliceD P st t n parts.toList with
    | some c => K ((st.fill nid [c] false).put o.dst (.bor [(nid, 0)] 0 n))
    | none => False
  | op => quiet op = true ∧ match evalOp P st nid op with
    | some (av, _) => K (st.put o.dst av)
    | none => False
def regD (Z : TypeId → Nat) (P : Program) (G : World → Prop) (B0 base : Nat) (dsts : List (Option Nat)) (K : St → Prop) : List (Nat × List Nat) → List Oper → St → Prop
  | [], [], st => K st
  | (nid, hs) :: xs, o :: rest, st => st.can o.dst = true ∧ (∀ x ∈ o.op.operands.toList, hin (Hof base hs) (evA st x) = true) ∧
      gateA dsts st o.guard (runD Z P G B0 nid st o (regD Z P G B0 base dsts K xs rest)) (regD Z P G B0 base dsts K xs rest (st.put o.dst (.tup [])))
  | _, _, _ => False
section
variable {P : Program} {G : World → Prop} {B0 : Nat}
theorem gateA_V {dsts : List (Option Nat)} {st : St} {g : Option (Nat × Bool)} {R S : Prop} (h : gateA dsts st g R S) : (gateV dsts st g = some true ∧ R) ∨ (gateV dsts st g = some false ∧ S) := by
  cases g with
  | none => exact .inl ⟨rfl, h⟩
  | some jw =>
    obtain ⟨j, want⟩ := jw
    simp only [gateA] at h
    simp only [gateV]
    cases hd : (dsts[j]?).bind id with
    | none => rw [hd] at h; exact .inr ⟨rfl, h⟩
    | some d =>
      rw [hd] at h
      simp only at h ⊢
      generalize getA st.sl d = v at h ⊢
      split at h
      · rename_i b
        by_cases hbw : b = want
        · exact .inl ⟨by simp [hbw], h.1 hbw⟩
        · exact .inr ⟨by simp [hbw], h.2 (by cases b <;> cases want <;> simp_all)⟩
      · exact .inr ⟨rfl, h⟩
      · exact h.elim
theorem runD_eff {dsts : List (Option Nat)} {base nid : Nat} {hs : List Nat} {st : St} {o : Oper} {K : St → Prop} (hcan : st.can o.dst = true) (hh : ∀ x ∈ o.op.operands.toList, hin (Hof base hs) (evA st x) = true) (hg : gateV dsts st o.guard = some true) (h : runD Z P G B0 nid st o K) :
    ∃ e, StepD Z P G B0 dsts (Hof base hs) nid o st e ∧ K (e.on st) ∧ (∀ n, e.root = some n → n = nid ∧ fills o.op = true) := by
  unfold runD at h
  split at h
  · rename_i fv args tys ho
    split at h
    · rename_i f first caps hv
      cases h with
      | @snap args' y hs1 hF hn hk => exact ⟨⟨o.dst, (effR nid y).1, some (nid, (effR nid y).2)⟩, ⟨rfl, hcan, hh, .inr ⟨hg, .snap ho hv hs1 hF hn rfl rfl⟩⟩, hk, fun n hn => by simp [Eff.root] at hn; exact ⟨hn.symm, by rw [ho]; rfl⟩⟩
      | @clos y hs1 hF hk => exact ⟨⟨o.dst, (effR nid y).1, some (nid, (effR nid y).2)⟩, ⟨rfl, hcan, hh, .inr ⟨hg, .clos ho hv hs1 hF rfl rfl⟩⟩, hk, fun n hn => by simp [Eff.root] at hn; exact ⟨hn.symm, by rw [ho]; rfl⟩⟩
    · exact h.elim
  · rename_i t ho
    split at h
    · rename_i c cs hc
      exact ⟨⟨o.dst, .ptr [(nid, 0)], some (nid, c :: cs, true)⟩, ⟨rfl, hcan, hh, .inr ⟨hg, .alloc ho hc rfl rfl⟩⟩, h, fun n hn => by simp [Eff.root] at hn; exact ⟨hn.symm, by rw [ho]; rfl⟩⟩
    · exact h.elim
  · rename_i t n parts ho
    split at h
    · rename_i c hc
      exact ⟨⟨o.dst, .bor [(nid, 0)] 0 n, some (nid, [c], false)⟩, ⟨rfl, hcan, hh, .inr ⟨hg, .bslice ho hc rfl rfl⟩⟩, h, fun m hm => by simp [Eff.root] at hm; exact ⟨hm.symm, by rw [ho]; rfl⟩⟩
    · exact h.elim
  · obtain ⟨hq, h⟩ := h
    split at h
    · rename_i av s hb
      have h2 := (evalQ_ag (H := fun _ => true) (st1 := st) (fun r _ => ⟨rfl, rfl⟩) hq (fun x hx => ⟨rfl, by
        have : ∀ x, hin (fun _ => true) x = true := fun x => by
          have key : (∀ x, hin (fun _ => true) x = true) ∧ ∀ l, hinL (fun _ => true) l = true := by
            refine ⟨fun x => ?_, fun l => ?_⟩
            · exact AV.rec (motive_1 := fun x => hin (fun _ => true) x = true) (motive_2 := fun l => hinL (fun _ => true) l = true)
                (fun _ => rfl) rfl (fun p => by cases p <;> rfl) (fun _ _ => rfl) (fun p _ _ => by cases p <;> rfl) (fun _ h => h) (fun _ h => h) (fun _ _ _ h1 h2 => by simp [hin, h1, h2]) (fun _ => rfl) rfl rfl (fun x l h1 h2 => by simp [hinL, h1, h2]) x
            · exact AV.rec_1 (motive_1 := fun x => hin (fun _ => true) x = true) (motive_2 := fun l => hinL (fun _ => true) l = true)
                (fun _ => rfl) rfl (fun p => by cases p <;> rfl) (fun _ _ => rfl) (fun p _ _ => by cases p <;> rfl) (fun _ h => h) (fun _ h => h) (fun _ _ _ h1 h2 => by simp [hin, h1, h2]) (fun _ => rfl) rfl rfl (fun x l h1 h2 => by simp [hinL, h1, h2]) l
          exact key.1 x
        exact this _⟩) hb).2
      exact ⟨⟨o.dst, av, none⟩, ⟨rfl, hcan, hh, .inr ⟨hg, .quiet hq h2 rfl⟩⟩, h, fun n hn => by simp [Eff.root] at hn⟩
    · exact h.elim
theorem regD_effs {dsts : List (Option Nat)} {base : Nat} {K : St → Prop} : ∀ (xs : List (Nat × List Nat)) (l : List Oper) (i : Nat) (st : St), regD Z P G B0 base dsts K xs l st →
    ∃ es : List Eff, es.length = l.length ∧ xs.length = l.length ∧ K (applyF (fun _ => true) i es st) ∧ ∀ (j : Nat) o x e, l[j]? = some o → xs[j]? = some x → es[j]? = some e →
      StepD Z P G B0 dsts (Hof base x.2) x.1 o (applyF (fun k => decide (k < i + j)) i es st) e ∧ ∀ n, e.root = some n → n = x.1 ∧ fills o.op = true
  | [], [], i, st, h => ⟨[], rfl, rfl, h, by simp⟩
  | [], _ :: _, i, st, h => h.elim
  | _ :: _, [], i, st, h => by obtain ⟨_, _⟩ := ‹Nat × List Nat›; exact h.elim
  | (nid, hs) :: xs, o :: rest, i, st, h => by
    obtain ⟨hcan, hh, hg⟩ := h
    have key : ∀ e, StepD Z P G B0 dsts (Hof base hs) nid o st e → regD Z P G B0 base dsts K xs rest (e.on st) → (∀ n, e.root = some n → n = nid ∧ fills o.op = true) →
        ∃ es : List Eff, es.length = (o :: rest).length ∧ ((nid, hs) :: xs).length = (o :: rest).length ∧ K (applyF (fun _ => true) i es st) ∧ ∀ (j : Nat) o' x e, (o :: rest)[j]? = some o' → ((nid, hs) :: xs)[j]? = some x → es[j]? = some e →
          StepD Z P G B0 dsts (Hof base x.2) x.1 o' (applyF (fun k => decide (k < i + j)) i es st) e ∧ ∀ n, e.root = some n → n = x.1 ∧ fills o'.op = true := by
      intro e hs2 hr hroot
      obtain ⟨es, h1, h2, h3, h4⟩ := regD_effs xs rest (i + 1) (e.on st) hr
      refine ⟨e :: es, by simp [h1], by simp [h2], by simpa [applyF] using h3, fun j o' x e' ho hx he => ?_⟩
      cases j with
      | zero =>
        simp only [List.getElem?_cons_zero, Option.some.injEq] at ho hx he
        subst ho; subst hx; subst he
        have hz : applyF (fun k => decide (k < i + 0)) i (e :: es) st = st := by
          simp only [applyF, Nat.add_zero, Nat.lt_irrefl, decide_false, Bool.false_eq_true, if_false]
          have hn : ∀ (l : List Eff) (k : Nat) (s : St), i ≤ k → applyF (fun k => decide (k < i)) k l s = s := by
            intro l
            induction l with
            | nil => intro k s _; rfl
            | cons a l ih => intro k s hk; simp only [applyF]; rw [if_neg (by simp; omega)]; exact ih _ _ (by omega)
          exact hn es (i + 1) st (by omega)
        rw [hz]
        exact ⟨hs2, hroot⟩
      | succ j =>
        simp only [List.getElem?_cons_succ] at ho hx he
        have := h4 j o' x e' ho hx he
        have hz : applyF (fun k => decide (k < i + (j + 1))) i (e :: es) st = applyF (fun k => decide (k < i + 1 + j)) (i + 1) es (e.on st) := by
          simp only [applyF]
          rw [if_pos (by simp)]
          congr 1
          funext k
          congr 1
          apply propext
          omega
        rw [hz]
        exact this
    rcases gateA_V hg with ⟨hv, hrun⟩ | ⟨hv, hskip⟩
    · obtain ⟨e, h1, h2, h3⟩ := runD_eff hcan hh hv hrun
      exact key e h1 h2 h3
    · exact key ⟨o.dst, .tup [], none⟩ ⟨rfl, hcan, hh, .inl ⟨hv, rfl, rfl⟩⟩ hskip fun n hn => by simp [Eff.root] at hn
end
end Go.Abs

/- A drawn region: its rule. -/
namespace Go.Abs
open Go
set_option linter.unusedVariables false
set_option linter.unusedSimpArgs false
variable {Z : TypeId → Nat}
def fillsAt (ops : List Oper) (k : Nat) : Bool := ((ops[k]?).map fun o => fills o.op).getD false
/-- The check on the numbers given: each maker's root, the roots that each operation may look at, the tail's order. -/
def planOk (base n m : Nat) (ops : List Oper) (xs : List (Nat × List Nat)) : Bool :=
  okD ops && decide (m ≤ ops.length) &&
  (xs.zipIdx.all fun x => decide (base ≤ x.1.1) && (!fillsAt ops x.2 || decide (x.1.1 < base + n)) &&
    (x.1.2.all fun r => (List.range x.2).any fun k => fillsAt ops k && ((xs.getD k (0, [])).1 == r) && ((ancs ops).getD x.2 0).testBit k)) &&
  (xs.zipIdx.all fun x => xs.zipIdx.all fun y => (x.2 == y.2) || !(fillsAt ops x.2 && fillsAt ops y.2) || !(x.1.1 == y.1.1)) &&
  ((List.range ops.length).all fun i => decide (i < m) || (List.range i).all fun k => ((ancs ops).getD i 0).testBit k)
section
variable {P : Program} {G : World → Prop} {B0 nl : Nat} {Q : Exit → St → Prop}
theorem tail_ok (hZ : ZOk P Z) {E : Ent} (hE : EOk G B0 E) {ops : Array Oper} {m : Nat} (htot : ∀ i k, i < ops.size → m ≤ i → k < i → Anc ops i k) (hpre : ∀ (i : Nat) (o : Oper), ops[i]? = some o → ∀ e ∈ o.after, Region.binds .any e = true → e.on < i) :
    ∀ (d i fuel : Nat) (listed : Array Bool) (st : St) (a : Act) (w : World), i + d = ops.size → m ≤ i → listed.size = ops.size → (∀ j, listed.getD j false = decide (j < i)) → d ≤ fuel → Holds Z E st a w → regA Z P G B0 (ops.toList.map (·.dst)) (Q .normal) (ops.toList.drop i) st →
      wpAny P .any ops (fun ex a' w' => ∃ st', Holds Z E st' a' w' ∧ Q ex st') fuel listed a w := by
  intro d
  induction d with
  | zero =>
    intro i fuel listed st a w hi hm hsz hl hf hh hr
    have hdrop : ops.toList.drop i = [] := List.drop_eq_nil_of_le (by simp; omega)
    rw [hdrop] at hr
    have hready : Region.ready .any ops listed = [] := by
      unfold Region.ready
      rw [List.filter_eq_nil_iff]
      intro k hk
      have hk2 : k < ops.size := by simpa using hk
      have h1 := hl k
      have h2 : listed.getD k true = true := by
        have : k < listed.size := by omega
        simp [Array.getD_eq_getD_getElem?, this] at h1 ⊢
        rw [h1]; simp; omega
      simp [h2]
    cases fuel with
    | zero => exact ⟨hready, st, hh, hr⟩
    | succ fuel => exact ⟨fun _ => ⟨st, hh, hr⟩, fun k hk => by rw [hready] at hk; cases hk⟩
  | succ d ih =>
    intro i fuel listed st a w hi hm hsz hl hf hh hr
    cases fuel with
    | zero => omega
    | succ fuel =>
      have hin : i < ops.size := by omega
      have ho : ops[i]? = some ops[i] := Array.getElem?_eq_getElem hin
      have hcl : ∀ j o, ops[j]? = some o → listed.getD j false = true → ∀ e ∈ o.after, Region.binds .any e = true → listed.getD e.on false = true := by
        intro j o hj hlj e he hb
        have := hpre j o hj e he hb
        rw [hl] at hlj ⊢
        simp at hlj ⊢
        omega
      refine ⟨fun hr0 => ?_, fun k hk => ?_⟩
      · exfalso
        have hmem : i ∈ Region.ready .any ops listed := by
          unfold Region.ready
          rw [List.mem_filter]
          refine ⟨by simpa using hin, ?_⟩
          have h1 := hl i
          have h2 : listed.getD i true = false := by
            have : i < listed.size := by omega
            simp [Array.getD_eq_getD_getElem?, this] at h1 ⊢
            exact h1
          simp only [h2, ho, Option.map_some, Option.getD_some, Bool.not_false, Bool.true_and, Array.all_eq_true]
          intro j hj
          cases hb : Region.binds .any ops[i].after[j] with
          | false => simp
          | true =>
            have hlt := hpre i _ ho _ (Array.getElem_mem hj) hb
            simp [hl, hlt]
        rw [hr0] at hmem
        cases hmem
      · have hk0 := hk
        unfold Region.ready at hk
        rw [List.mem_filter] at hk
        obtain ⟨hk1, hk2⟩ := hk
        have hkn : k < ops.size := by simpa using hk1
        have hok : ops[k]? = some ops[k] := Array.getElem?_eq_getElem hkn
        simp only [hok, Option.map_some, Option.getD_some, Bool.and_eq_true, Bool.not_eq_true', Array.all_eq_true, Bool.or_eq_true] at hk2
        obtain ⟨hnl, hpl⟩ := hk2
        have hkl : listed.getD k false = false := by
          have : k < listed.size := by omega
          simp [Array.getD_eq_getD_getElem?, this] at hnl ⊢
          exact hnl
        have hki : k = i := by
          have h1 : i ≤ k := by rw [hl] at hkl; simpa using hkl
          rcases Nat.lt_or_ge i k with h2 | h2
          · exfalso
            have := htot k i hkn (by omega) h2 (fun j => listed.getD j false || j == k) (fun j o hj hfj ed hed hb => by
              simp only [Bool.or_eq_true, beq_iff_eq] at hfj ⊢
              rcases hfj with h1 | rfl
              · exact .inl (hcl j o hj h1 ed hed hb)
              · rw [hok] at hj; cases hj
                obtain ⟨q, hq, rfl⟩ := Array.getElem_of_mem hed
                have := hpl q hq
                rw [hb] at this
                left
                simpa using this) (by simp)
            rw [hl] at this
            simp at this
            omega
          · omega
        subst hki
        have hd : ops.toList.drop k = ops[k] :: ops.toList.drop (k + 1) := by
          rw [← Array.getElem_toList]
          exact List.drop_eq_getElem_cons (by simpa using hkn)
        rw [hd] at hr
        simp only [regA] at hr
        have hnext : ∀ s a' w', regA Z P G B0 (ops.toList.map (·.dst)) (Q .normal) (ops.toList.drop (k + 1)) s → Holds Z E s a' w' → wpAny P .any ops (fun ex a' w' => ∃ st', Holds Z E st' a' w' ∧ Q ex st') fuel (listed.setIfInBounds k true) a' w' := by
          intro s a' w' hs hh'
          refine ih (k + 1) fuel _ s a' w' (by omega) (by omega) (by simpa using hsz) (fun j => ?_) (by omega) hh' hs
          have := hl j
          simp only [Array.getD_eq_getD_getElem?, Array.getElem?_setIfInBounds] at this ⊢
          by_cases hj : k = j
          · subst hj; simp [show k < listed.size by omega]
          · simp only [hj, if_false]
            rw [this]
            congr 1
            apply propext
            omega
        unfold wpOp
        simp only [hok]
        rcases gateA_V hr with ⟨hv, hrun⟩ | ⟨hv, h1, h2⟩
        · rw [if_pos (gate_dec hh hv)]
          exact .inl (stepA_ok hZ hE hh hrun fun s a' w' hs hh' => hnext s a' w' hs hh')
        · rw [if_neg (by rw [gate_dec hh hv]; simp)]
          obtain ⟨S, vals, fps, cb, hI⟩ := hh
          exact hnext _ _ w h2 ⟨S, vals, fps, cb, hI.put h1 (RA.tup (xs := []) (vs := []) rfl (by simp))⟩
theorem W_draw (hZ : ZOk P Z) (hmo : P.follows .mixedOrders = true) {ops : Array Oper} {st : St} (n m : Nat) (xs : List (Nat × List Nat)) (hok : planOk st.rt.length n m ops.toList xs = true)
    (h : regD Z P G B0 st.rt.length (ops.toList.map (·.dst)) (regA Z P G B0 (ops.toList.map (·.dst)) (Q .normal) (ops.toList.drop m)) xs (ops.toList.take m) (st.ext n)) : DrawA Z P G B0 nl ops Q st := by
  intro id E a w hE hnl hh
  refine wp_region_any hmo ?_
  simp only [planOk, Bool.and_eq_true, decide_eq_true_eq, List.all_eq_true] at hok
  obtain ⟨⟨⟨⟨hD, hml⟩, hx⟩, hdj⟩, htl⟩ := hok
  have hbn : E.nl ≤ st.rt.length ∧ st.bx.length = st.rt.length := by
    obtain ⟨S, vals, fps, cb, hI⟩ := hh
    exact ⟨hI.lnl, hI.bxn⟩
  have hh0 : Holds Z E (st.ext n) a { w with drawn := w.drawn + 1 } := by
    obtain ⟨S, vals, fps, cb, hI⟩ := hh
    exact ⟨S, vals, fps, cb, (hI.grow (w' := { w with drawn := w.drawn + 1 }) ⟨rfl, rfl, rfl, Nat.le_refl _, fun _ _ _ => rfl⟩).ext n⟩
  obtain ⟨es, h1, h2, h3, h4⟩ := regD_effs xs (ops.toList.take m) 0 (st.ext n) h
  have hm : (ops.toList.take m).length = m := by rw [List.length_take]; omega
  have hes : es.length = m := by omega
  have hxs : xs.length = m := by omega
  have hms : m ≤ ops.size := by simpa using hml
  have hpre := okD_pre (ops := ops) hD
  have hget : ∀ {i : Nat} {e : Eff}, es[i]? = some e → ∃ o x, ops[i]? = some o ∧ xs[i]? = some x ∧ i < m ∧ StepD Z P G B0 (ops.toList.map (·.dst)) (Hof st.rt.length x.2) x.1 o (applyF (fun k => decide (k < i)) 0 es (st.ext n)) e ∧ (∀ n, e.root = some n → n = x.1 ∧ fills o.op = true) := by
    intro i e he
    have hi : i < m := by have := (List.getElem?_eq_some_iff.1 he).1; omega
    have ho : ops[i]? = some (ops[i]'(by omega)) := Array.getElem?_eq_getElem (by omega)
    have hxi : xs[i]? = some (xs[i]'(by omega)) := List.getElem?_eq_getElem (by omega)
    have ht : (ops.toList.take m)[i]? = some (ops[i]'(by omega)) := by rw [List.getElem?_take, if_pos hi]; simp [ho]
    obtain ⟨g1, g2⟩ := h4 i _ _ e ht hxi he
    rw [Nat.zero_add] at g1
    exact ⟨_, _, ho, hxi, hi, g1, g2⟩
  have hfa : ∀ {i : Nat} {o : Oper}, ops[i]? = some o → fills o.op = true → fillsAt ops.toList i = true := by
    intro i o ho hf
    unfold fillsAt
    rw [Array.getElem?_toList, ho]
    simpa using hf
  have hdist : ∀ {i k : Nat} {x y : Nat × List Nat}, xs[i]? = some x → xs[k]? = some y → k ≠ i → fillsAt ops.toList i = true → fillsAt ops.toList k = true → x.1 ≠ y.1 := by
    intro i k x y hxi hyk hne f1 f2 e
    have := hdj (x, i) (by rw [List.mem_zipIdx_iff_getElem?]; exact hxi) (y, k) (by rw [List.mem_zipIdx_iff_getElem?]; exact hyk)
    simp [f1, f2, e, show ¬ i = k from fun e => hne e.symm] at this
  refine draw_ok es (by omega) (st.ext n) (fun i => match ops[i]? with | some o => readsOf (ops.toList.map (·.dst)) o | none => []) (fun i => match xs[i]? with | some x => Hof st.rt.length x.2 | none => fun _ => false)
    (fun i o e ho he f hr hag hfr a w hh K N hK => ?_) hpre (fun i k e e' he he' hne t ht hd => ?_) (fun i k e' he' hi r hr hroot => ?_) (fun i k e e' he he' hne hr => ?_) (fun i e r he hr => ?_) hh0 (fun i k hi hmi hk => ?_) (fun fuel listed a' w' hsz hl hf hh' => ?_)
  · obtain ⟨o2, x, ho2, hxi, hi, g1, g2⟩ := hget he
    rw [ho] at ho2; cases ho2
    simp only [ho] at hr
    simp only [hxi] at hag
    have hnid : E.nl ≤ x.1 := by
      have := (hx (x, i) (by rw [List.mem_zipIdx_iff_getElem?]; exact hxi)).1.1
      simp only at this
      omega
    exact stepD_ok hZ hE hnid g1 hr hag (by rw [(applyF_len f es 0 (st.ext n)).2.2, (applyF_len _ es 0 (st.ext n)).2.2]) hfr hh hK
  · obtain ⟨o, x, ho, hxi, hi, g1, g2⟩ := hget he
    obtain ⟨o', x', ho', hxi', hi', g1', g2'⟩ := hget he'
    simp only [ho] at ht
    refine okD_cmp hD ho ho' hne (t := t) (ht.imp (fun h => h) fun h => by rw [← g1.dst]; exact h) (by rw [← g1'.dst]; exact hd)
  · obtain ⟨o', x', ho', hxi', hi', g1', g2'⟩ := hget he'
    obtain ⟨e1, e2⟩ := g2' r hroot
    have hil : i < xs.length := by omega
    have hxi : xs[i]? = some xs[i] := List.getElem?_eq_getElem hil
    simp only [hxi, Hof, Bool.or_eq_true, decide_eq_true_eq] at hr
    have hb := (hx (x', k) (by rw [List.mem_zipIdx_iff_getElem?]; exact hxi')).1.1
    simp only at hb
    rcases hr with hr | hr
    · omega
    · have h7 := (hx (xs[i], i) (by rw [List.mem_zipIdx_iff_getElem?]; exact hxi)).2 r (by simpa using hr)
      simp only [List.any_eq_true, List.mem_range, Bool.and_eq_true, beq_iff_eq] at h7
      obtain ⟨k', hk', ⟨f1, f2⟩, f3⟩ := h7
      have hk'x : xs[k']? = some (xs[k']'(by omega)) := List.getElem?_eq_getElem (by omega)
      have f4 : (xs[k']'(by omega)).1 = r := by rw [← f2, List.getD_eq_getElem?_getD, hk'x]; rfl
      have hkk : k' = k := by
        rcases Decidable.em (k' = k) with h | h
        · exact h
        · exact absurd (by rw [f4, e1]) (hdist hk'x hxi' (fun e => h e.symm) f1 (hfa ho' e2))
      subst hkk
      exact ⟨hk', ancs_ok f3⟩
  · obtain ⟨o, x, ho, hxi, hi, g1, g2⟩ := hget he
    obtain ⟨o', x', ho', hxi', hi', g1', g2'⟩ := hget he'
    cases hr2 : e.root with
    | none => exact absurd hr2 hr
    | some r =>
      intro hr3
      obtain ⟨e1, e2⟩ := g2 r hr2
      obtain ⟨e3, e4⟩ := g2' r hr3
      exact hdist hxi hxi' hne (hfa ho e2) (hfa ho' e4) (e1.symm.trans e3)
  · obtain ⟨o, x, ho, hxi, hi, g1, g2⟩ := hget he
    obtain ⟨e1, e2⟩ := g2 r hr
    have h8 := (hx (x, i) (by rw [List.mem_zipIdx_iff_getElem?]; exact hxi)).1
    simp only [hfa ho e2, Bool.not_true, Bool.false_or, decide_eq_true_eq] at h8
    subst e1
    refine ⟨⟨?_, ?_⟩, ?_⟩
    · simp only [St.ext]
      rw [List.getElem?_append_right h8.1, List.getElem?_replicate, if_pos (by omega)]
    · simp only [St.ext, List.getD_eq_getElem?_getD]
      rw [List.getElem?_append_right (by omega), List.getElem?_replicate]
      split <;> rfl
    · simp only [St.ext, List.length_append, List.length_replicate]; omega
  · have := htl i (by simpa using hi)
    simp only [Bool.or_eq_true, decide_eq_true_eq, List.all_eq_true, List.mem_range] at this
    rcases this with h9 | h9
    · omega
    · exact ancs_ok (h9 k (by omega))
  · refine tail_ok hZ hE (m := m) (fun i k hi hmi hk => ?_) hpre (ops.size - m) m fuel listed _ a' w' (by omega) (Nat.le_refl _) hsz (fun j => by rw [hl, hes]) (by omega) hh' h3
    have := htl i (by simpa using hi)
    simp only [Bool.or_eq_true, decide_eq_true_eq, List.all_eq_true, List.mem_range] at this
    rcases this with h9 | h9
    · omega
    · exact ancs_ok (h9 k hk)
end
end Go.Abs

/- A store or an append, where slots that it does not look at differ. -/
namespace Go.Abs
open Go
set_option linter.unusedVariables false
set_option linter.unusedSimpArgs false
def mapS (κ : AV → AV) (sl : List (Nat × AV)) : List (Nat × AV) := sl.map fun x => (x.1, κ x.2)
theorem mapS_id (sl : List (Nat × AV)) : mapS id sl = sl := by simp [mapS]
theorem mapS_comp (f g : AV → AV) (sl : List (Nat × AV)) : mapS g (mapS f sl) = mapS (fun x => g (f x)) sl := by simp [mapS, Function.comp_def]
/-- st turns to st', and so does it with other slots. -/
def Moves (st st' : St) (κ : AV → AV) : Prop := st'.nt = st.nt ∧ st'.sl = mapS κ st.sl ∧ κ .dead = .dead
theorem Moves.refl (st : St) : Moves st st id := ⟨rfl, (mapS_id _).symm, rfl⟩
theorem Moves.trans {a b c : St} {f g : AV → AV} (h : Moves a b f) (k : Moves b c g) : Moves a c fun x => g (f x) :=
  ⟨k.1.trans h.1, by rw [k.2.1, h.2.1, mapS_comp], by simp only [h.2.2, k.2.2]⟩
theorem Moves.setAt (st : St) (p : Path) (x : Cell) : Moves st (st.setAt p x) (kill p) := ⟨rfl, rfl, rfl⟩
theorem Moves.setSc (st : St) (p : Path) (x : Cell) : Moves st (st.setSc p x) id := ⟨rfl, (mapS_id _).symm, rfl⟩
theorem Moves.fill (st : St) (n : Nat) (cs : List Cell) (b : Bool) : Moves st (st.fill n cs b) id := ⟨rfl, (mapS_id _).symm, rfl⟩
theorem absorb_frame {e : TypeId} {st st' : St} {av : AV} {c : Cell} {q : Path} (h : absorb e st av = some (st', c, q)) : ∃ κ, Moves st st' κ ∧ ∀ sl1, absorb e { st with sl := sl1 } av = some ({ st' with sl := mapS κ sl1 }, c, q) := by
  have triv : st' = st → (∀ sl1, absorb e { st with sl := sl1 } av = some ({ st with sl := sl1 }, c, q)) → ∃ κ, Moves st st' κ ∧ ∀ sl1, absorb e { st with sl := sl1 } av = some ({ st' with sl := mapS κ sl1 }, c, q) := by
    rintro rfl h; exact ⟨id, .refl _, fun sl1 => by rw [mapS_id]; exact h sl1⟩
  cases av with
  | c c0 =>
    cases c0 with
    | sc v => simp only [absorb, Option.some.injEq, Prod.mk.injEq] at h; obtain ⟨h1, rfl, rfl⟩ := h; exact triv h1.symm fun _ => rfl
    | hole => simp [absorb] at h
    | row o e' es =>
      cases o with
      | true => simp [absorb] at h
      | false => simp only [absorb, Option.some.injEq, Prod.mk.injEq] at h; obtain ⟨h1, rfl, rfl⟩ := h; exact triv h1.symm fun _ => rfl
  | nils => simp only [absorb, Option.some.injEq, Prod.mk.injEq] at h; obtain ⟨h1, rfl, rfl⟩ := h; exact triv h1.symm fun _ => rfl
  | bor p lo len =>
    simp only [absorb] at h
    split at h
    · rename_i e' es hl
      split at h
      · rename_i hlo
        simp only [Option.some.injEq, Prod.mk.injEq] at h
        obtain ⟨rfl, rfl, rfl⟩ := h
        exact ⟨kill p, .setAt _ _ _, fun sl1 => by simp only [absorb, hl, hlo, if_true]; rfl⟩
      · cases h
    · cases h
  | _ => simp [absorb] at h
theorem wr_frame (st : St) (p : Path) (old cell : Cell) : ∃ κ, Moves st (st.wr p old cell) κ ∧ ∀ sl1, St.wr { st with sl := sl1 } p old cell = { st.wr p old cell with sl := mapS κ sl1 } := by
  unfold St.wr
  cases old.isOwn with
  | true => exact ⟨kill p, .setAt _ _ _, fun sl1 => rfl⟩
  | false => exact ⟨id, .setSc _ _ _, fun sl1 => by rw [mapS_id]; rfl⟩
theorem storeL_frame {p : Path} : ∀ (xs : List AV) (es : List TypeId) (j : Nat) (st st' : St) (tr : AV → AV), storeL p es j st tr xs = some st' → ∃ κ, Moves st st' κ ∧ ∀ sl1, storeL p es j { st with sl := sl1 } tr xs = some { st' with sl := mapS κ sl1 }
  | [], es, j, st, st', tr, h => by
    simp only [storeL, Option.some.injEq] at h
    subst h
    exact ⟨id, .refl _, fun sl1 => by rw [mapS_id]; rfl⟩
  | x :: xs, es, j, st, st', tr, h => by
    simp only [storeL] at h
    split at h
    · rename_i st1 cell q h1
      split at h
      · rename_i old hl
        split at h
        · rename_i ha
          obtain ⟨κ1, m1, f1⟩ := absorb_frame h1
          obtain ⟨κ2, m2, f2⟩ := wr_frame st1 (bump p j) old cell
          obtain ⟨κ3, m3, f3⟩ := storeL_frame xs _ _ _ _ _ h
          refine ⟨_, (m1.trans m2).trans m3, fun sl1 => ?_⟩
          rw [storeL]
          simp only [f1, hl, ha, if_true]
          rw [f2]
          have := f3 (mapS κ2 (mapS κ1 sl1))
          have e : mapS κ3 (mapS κ2 (mapS κ1 sl1)) = mapS (fun x => κ3 (κ2 (κ1 x))) sl1 := by rw [mapS_comp, mapS_comp]
          rw [e] at this
          exact this
        · cases h
      · cases h
    · cases h
theorem storeA_frame {P : Program} {st st' : St} {t : TypeId} {pv xv : AV} (h : storeA P st t pv xv = some st') : ∃ κ, Moves st st' κ ∧ ∀ sl1, storeA P { st with sl := sl1 } t pv xv = some { st' with sl := mapS κ sl1 } := by
  unfold storeA at h ⊢
  split at h
  · rename_i p
    split at h
    · rename_i n ht
      split at h
      · rename_i xs
        split at h
        · rename_i hl
          obtain ⟨κ, m, f⟩ := storeL_frame _ _ _ _ _ _ h
          exact ⟨κ, m, fun sl1 => by simp only [hl, if_true]; exact f sl1⟩
        · cases h
      · cases h
    · rename_i n ht
      split at h
      · rename_i hl
        obtain ⟨κ, m, f⟩ := storeL_frame _ _ _ _ _ _ h
        exact ⟨κ, m, fun sl1 => by simp only [hl, if_true]; exact f sl1⟩
      · cases h
    · cases h
  · cases h
theorem tk_frame (st : St) (q : Path) : ∃ κ, Moves st (st.tk q) κ ∧ ∀ sl1, St.tk { st with sl := sl1 } q = { st.tk q with sl := mapS κ sl1 } := by
  cases q with
  | nil => exact ⟨id, .refl _, fun sl1 => by rw [mapS_id]; rfl⟩
  | cons x r => exact ⟨kill (x :: r), .setAt _ _ _, fun sl1 => rfl⟩
theorem srcA_slots (e : TypeId) (st : St) (xv : AV) (sl1 : List (Nat × AV)) : srcA e { st with sl := sl1 } xv = srcA e st xv := by
  unfold srcA; rfl
theorem appendA_frame {P : Program} {st st' : St} {nid : Nat} {t : TypeId} {bv xv av : AV} (h : appendA P st nid t bv xv = some (av, st')) : ∃ κ, Moves st st' κ ∧ ∀ sl1, appendA P { st with sl := sl1 } nid t bv xv = some (av, { st' with sl := mapS κ sl1 }) := by
  unfold appendA at h ⊢
  split at h
  · rename_i e he
    split at h
    · rename_i sz by_ zs hi
      split at h
      · rename_i ys q hs
        obtain ⟨κ, m, f⟩ := tk_frame st q
        split at h
        · rename_i hq
          split at h
          · rename_i hc
            cases h
            exact ⟨κ, m.trans (.fill _ _ _ _), fun sl1 => by
              rw [srcA_slots, hs]
              simp only [hq]
              rw [if_pos hc, f sl1]
              rfl⟩
          · cases h
        · rename_i p lo len hq
          split at h
          · rename_i e' es hl
            split at h
            · rename_i hc
              cases h
              refine ⟨_, (m.trans (.setAt _ p .hole)).trans (.fill _ _ _ _), fun sl1 => ?_⟩
              rw [srcA_slots, hs]
              simp only [hq]
              rw [f sl1]
              simp only [hl]
              rw [if_pos hc]
              simp only [St.fill, St.setAt, killS, mapS, List.map_map, Function.comp_def, id]
            · cases h
          · cases h
        · cases h
      · cases h
    · cases h
  · cases h
end Go.Abs

