/- Contracts: lists of drawn records, drawn trees. -/
import Derived.Test.YtbhbkaonlillhaaGreatDoorCDb
namespace Go.Proofs.YtbhbkaonlillhaaGreatDoor
open Go Go.Abs Go.Proofs Go.Tm
set_option linter.unusedSimpArgs false
set_option linter.unusedVariables false
set_option maxRecDepth 10000
variable {Z : TypeId → Nat} {G : World → Prop} {B0 : Nat}
theorem W_drawCB {P : Program} {nl : Nat} {Q : Exit → St → Prop} (hZ : ZOk P Z) (hmo : P.follows .mixedOrders = true) {ops : Array Oper} {st : St} (b : Nat) (hb : st.rt.length = b) (n m M : Nat) (xs : List (Nat × List Nat)) (us : List Nat) (nid : Nat) (hok : planOkC b n m M ops.toList xs us nid = true) {oc : Oper} (hoc : ops[m]? = some oc)
    (h : regD Z P G B0 st.rt.length (ops.toList.map (·.dst)) (regC Z P G B0 nid (ops.toList.map (·.dst)) (us.filterMap (ops.toList[·]?)) ((ops.toList.take M).drop (m + 1)) oc (ops.toList.drop M) (Q .normal)) xs (ops.toList.take m) (st.ext n)) : DrawA Z P G B0 nl ops Q st :=
  W_drawC hZ hmo n m M xs us nid (by rw [hb]; exact hok) hoc h
theorem goodP_lit {s : ByteArray} (h : s ∈ [(⟨#[47, 97]⟩ : ByteArray), ⟨#[47, 98]⟩, ⟨#[47, 99]⟩, ⟨#[47, 97, 47, 98]⟩, ⟨#[47, 97, 47, 99]⟩, ⟨#[47, 98, 47, 97]⟩]) : GoodP s := by
  have ha : nmA ∈ abcL := by simp [abcL]
  have hb : nmBb ∈ abcL := by simp [abcL]
  have hc : nmC ∈ abcL := by simp [abcL]
  have one : ∀ x, x ∈ abcL → GoodP (joinF ⟨#[]⟩ [x]) := fun x hx => goodP_join (by simp [hx]) (by simp) (by simp)
  have two : ∀ x y, x ∈ abcL → y ∈ abcL → GoodP (joinF ⟨#[]⟩ [x, y]) := fun x y hx hy => goodP_join (by simp [hx, hy]) (by simp) (by simp)
  simp at h
  rcases h with rfl | rfl | rfl | rfl | rfl | rfl
  · rw [show (⟨#[47, 97]⟩ : ByteArray) = joinF ⟨#[]⟩ [nmA] by kernel_rfl]; exact one _ ha
  · rw [show (⟨#[47, 98]⟩ : ByteArray) = joinF ⟨#[]⟩ [nmBb] by kernel_rfl]; exact one _ hb
  · rw [show (⟨#[47, 99]⟩ : ByteArray) = joinF ⟨#[]⟩ [nmC] by kernel_rfl]; exact one _ hc
  · rw [show (⟨#[47, 97, 47, 98]⟩ : ByteArray) = joinF ⟨#[]⟩ [nmA, nmBb] by kernel_rfl]; exact two _ _ ha hb
  · rw [show (⟨#[47, 97, 47, 99]⟩ : ByteArray) = joinF ⟨#[]⟩ [nmA, nmC] by kernel_rfl]; exact two _ _ ha hc
  · rw [show (⟨#[47, 98, 47, 97]⟩ : ByteArray) = joinF ⟨#[]⟩ [nmBb, nmA] by kernel_rfl]; exact two _ _ hb ha
theorem goodE_make {s : ByteArray} (h : GoodP s) : GoodE ⟨1, s, ⟨#[]⟩, 0, 0⟩ := by
  obtain ⟨hn, hsz, hpa⟩ := goodP_named h
  exact ⟨by simp [editB, hn, named_none, inB], hsz, by simp, hpa, abc_none⟩
theorem goodE_create {s : ByteArray} (h : GoodP s) : GoodE ⟨2, s, ⟨#[]⟩, 0, 1⟩ := by
  obtain ⟨hn, hsz, hpa⟩ := goodP_named h
  exact ⟨by simp [editB, hn, named_none, inB], hsz, by simp, hpa, abc_none⟩
set_option maxHeartbeats 2000000 in
theorem l11Edits_spec (hZ : ZOk Tryz.prog Z) (c : Cur) (n : Int) (hn : 0 < n ∧ n ≤ 100) : Does Z Tryz.prog G B0 74 [.ptr [(0, 0)], iA n] [curE c] [true] (fun y r => ∃ l c', y = .c (edsE true l) ∧ ((∀ e ∈ l, GoodE e) ∧ (l.length : Int) < n) ∧ r = [curE c']) := by
  refine Does.bodyR hZ Tryz.func74 rfl rfl (Nat.le_of_ble_eq_true rfl) fun ha hf => ?_
  simp [Tryz.f74]
  refine LoopA.run hZ (fun p : Cur × List Edt => ⟨71, [(0, .ptr [(0, 0)]), (1, iA n), (5, .bor [(1, 0)] 0 p.2.length), (6, iA p.2.length)], [curE p.1, [edsE true p.2]], [true, false]⟩) (fun p => (p.2.length : Int) < n ∧ ∀ e ∈ p.2, GoodE e) (fun p => n.toNat - p.2.length) (c, []) (by simp; omega) (Sub.by [0, 1] (by simp [edsE])) fun ⟨c, l⟩ ⟨hl, hg⟩ => ?_
  dsimp only at hl hg
  simp [edsE]
  refine CallA.rootsP [0] (l01Below_spec hZ c n (by omega)) (by simp [curE, byE]) ?_
  rintro y r ⟨v, c1, rfl, hv, rfl⟩ _
  have hv3 := hv.1 (by omega)
  simp [curE, byE]
  refine Br.dec (fun h => ?_) (fun h => ?_)
  rotate_left
  · simp
    refine ⟨l, by simp [edsE], ⟨hg, hl⟩, c1, rfl, rfl, rfl⟩
  simp
  refine CallA.rootsP [0] (l11Edit_spec hZ c1) (by simp [curE, byE]) ?_
  rintro y r ⟨e, c2, rfl, he, rfl⟩ _
  simp [curE, byE, edA, edE]
  have hmake : ∀ s, s ∈ [(⟨#[47, 97]⟩ : ByteArray), ⟨#[47, 98]⟩] → GoodE ⟨1, s, ⟨#[]⟩, 0, 0⟩ := fun s hs => goodE_make (goodP_lit (by simp at hs; rcases hs with h | h <;> simp [h]))
  have hcreate : ∀ s, s ∈ [(⟨#[47, 99]⟩ : ByteArray), ⟨#[47, 97, 47, 98]⟩, ⟨#[47, 97, 47, 99]⟩, ⟨#[47, 98, 47, 97]⟩] → GoodE ⟨2, s, ⟨#[]⟩, 0, 1⟩ := fun s hs => goodE_create (goodP_lit (by simp at hs; rcases hs with h | h | h | h <;> simp [h]))
  have hfin : ∀ (e : Edt) (c : Cur), GoodE e → (((l ++ [e]).length : Int) < n ∧ ∀ x ∈ l ++ [e], GoodE x) := fun e c he => ⟨by simp; omega, fun x hx => by
    rcases List.mem_append.1 hx with hx | hx
    · exact hg x hx
    · simp at hx; subst hx; exact he⟩
  have hw : IntKind.i64.wrap ((l.length : Int) + 1) = (l.length : Int) + 1 := wrap_i64 (by omega)
  by_cases hz : 0 < l.length
  · obtain ⟨x, hx⟩ : ∃ x, l[l.length - 1]? = some x := ⟨_, List.getElem?_eq_getElem (show l.length - 1 < l.length by omega)⟩
    have hxg := hg x (List.mem_of_getElem? hx)
    have hw1 : IntKind.i64.wrap ((l.length : Int) - 1) = ((l.length - 1 : Nat) : Int) := by rw [wrap_i64 (by omega)]; omega
    have hput : x.kind = 2 → ∀ v : Int, 0 ≤ v ∧ v < 60 → GoodE ⟨7, x.path, ⟨#[]⟩, 1 + v, 0⟩ := fun hk v hv => ⟨by
      have := editB_named hxg.ok (by omega) (by omega) (by omega)
      simp [editB, this, named_none, inB]; omega, hxg.p6, by simp, hxg.pa, abc_none⟩
    by_cases h3 : (l.length : Int) < 3
    · have h3n : ¬ (2 : Int) < l.length := by omega
      simp [h3, h3n]
      refine CallA.rootsP [0] (l01Once_spec hZ c2 2 (by omega)) (by simp [curE, byE]) ?_
      rintro y r ⟨b, c3, rfl, rfl⟩ _
      simp [curE, byE, h3, h3n, hz]
      refine Br.bool (fun hb => ?_) (fun hb => ?_)
      · simp [h3, h3n, hz, hb]
        refine CallA.rootsP [0, 6] (l01Pick_spec hZ c3 [⟨#[47, 97]⟩, ⟨#[47, 98]⟩] (by simp)) (by simp [curE, byE, strsE]) ?_
        rintro y r ⟨s, c4, rfl, hs, rfl⟩ _
        simp [curE, byE, strsE, edE, h3, h3n, hz]
        refine CallA.rootsP [0] (l01Once_spec hZ c4 3 (by omega)) (by simp [curE, byE]) ?_
        rintro y r ⟨b3, c5, rfl, rfl⟩ _
        simp [curE, byE, hz, hw1]
        refine Br.bool (fun hb3 => ?_) (fun hb3 => ?_)
        · simp [hb3, hx, edE]
          refine Need.mk ⟨by rw [hw1]; omega, by rw [hw1]; omega⟩ ?_
          simp [hw1, hx, edE]
          refine Br.dec (fun hk => ?_) (fun hk => ?_)
          · first | refine W_drawCB hZ hmo 7 rfl 0 8 10 [(7, []), (7, []), (7, []), (7, []), (7, []), (7, []), (7, []), (7, [])] [0, 1, 2, 3, 4, 5, 6, 9] 7 (by kernel_rfl) rfl ?_ | refine W_drawCB hZ hmo 8 rfl 0 8 10 [(8, []), (8, []), (8, []), (8, []), (8, []), (8, []), (8, []), (8, [])] [0, 1, 2, 3, 4, 5, 6, 9] 8 (by kernel_rfl) rfl ?_ | refine W_drawCB hZ hmo 9 rfl 0 8 10 [(9, []), (9, []), (9, []), (9, []), (9, []), (9, []), (9, []), (9, [])] [0, 1, 2, 3, 4, 5, 6, 9] 9 (by kernel_rfl) rfl ?_
            simp
            refine Need.mk ⟨by rw [hw1]; omega, by rw [hw1]; omega⟩ ?_
            simp [hw1, hx, edE]
            refine CallC.rootsP [0] (l01Below_spec hZ c5 60 (by omega)) (by simp [curE, byE]) ?_
            rintro y r ⟨v, c6, rfl, hv, rfl⟩ _
            have hv3 := hv.1 (by omega)
            have hw5 : IntKind.i64.wrap (1 + v) = 1 + v := wrap_i64 (by omega)
            simp [curE, byE, hw1, hx, edE, hw5]
            refine ⟨Need.mk (by omega) rfl, Need.mk (by omega) ?_⟩
            simp [hw]
            first | exact Again.mk (c6, l ++ [⟨7, x.path, ⟨#[]⟩, 1 + v, 0⟩]) (hfin _ c6 (hput hk v (by omega))) (by simp; omega) (Sub.by [0, 7] (by first | (simp [edsE, edA, edE, hw, curE, byE]; done) | fail)) | exact Again.mk (c6, l ++ [⟨7, x.path, ⟨#[]⟩, 1 + v, 0⟩]) (hfin _ c6 (hput hk v (by omega))) (by simp; omega) (Sub.by [0, 8] (by first | (simp [edsE, edA, edE, hw, curE, byE]; done) | fail)) | exact Again.mk (c6, l ++ [⟨7, x.path, ⟨#[]⟩, 1 + v, 0⟩]) (hfin _ c6 (hput hk v (by omega))) (by simp; omega) (Sub.by [0, 9] (by first | (simp [edsE, edA, edE, hw, curE, byE]; done) | fail)) | exact Again.mk (c6, l ++ [⟨7, x.path, ⟨#[]⟩, 1 + v, 0⟩]) (hfin _ c6 (hput hk v (by omega))) (by simp; omega) (Sub.by [0, 10] (by first | (simp [edsE, edA, edE, hw, curE, byE]; done) | fail)) | exact Again.mk (c6, l ++ [⟨7, x.path, ⟨#[]⟩, 1 + v, 0⟩]) (hfin _ c6 (hput hk v (by omega))) (by simp; omega) (Sub.by [0, 11] (by first | (simp [edsE, edA, edE, hw, curE, byE]; done) | fail)) | exact Again.mk (c6, l ++ [⟨7, x.path, ⟨#[]⟩, 1 + v, 0⟩]) (hfin _ c6 (hput hk v (by omega))) (by simp; omega) (Sub.by [0, 12] (by first | (simp [edsE, edA, edE, hw, curE, byE]; done) | fail)) | exact Again.mk (c6, l ++ [⟨7, x.path, ⟨#[]⟩, 1 + v, 0⟩]) (hfin _ c6 (hput hk v (by omega))) (by simp; omega) (Sub.by [0, 13] (by first | (simp [edsE, edA, edE, hw, curE, byE]; done) | fail))
          · simp [edA, edE]
            refine Need.mk (by omega) ?_
            simp [hw]
            first | exact Again.mk (c5, l ++ [⟨1, s, ⟨#[]⟩, 0, 0⟩]) (hfin _ c5 (hmake s hs)) (by simp; omega) (Sub.by [0, 7] (by first | (simp [edsE, edA, edE, hw, curE, byE]; done) | fail)) | exact Again.mk (c5, l ++ [⟨1, s, ⟨#[]⟩, 0, 0⟩]) (hfin _ c5 (hmake s hs)) (by simp; omega) (Sub.by [0, 8] (by first | (simp [edsE, edA, edE, hw, curE, byE]; done) | fail)) | exact Again.mk (c5, l ++ [⟨1, s, ⟨#[]⟩, 0, 0⟩]) (hfin _ c5 (hmake s hs)) (by simp; omega) (Sub.by [0, 9] (by first | (simp [edsE, edA, edE, hw, curE, byE]; done) | fail)) | exact Again.mk (c5, l ++ [⟨1, s, ⟨#[]⟩, 0, 0⟩]) (hfin _ c5 (hmake s hs)) (by simp; omega) (Sub.by [0, 10] (by first | (simp [edsE, edA, edE, hw, curE, byE]; done) | fail)) | exact Again.mk (c5, l ++ [⟨1, s, ⟨#[]⟩, 0, 0⟩]) (hfin _ c5 (hmake s hs)) (by simp; omega) (Sub.by [0, 11] (by first | (simp [edsE, edA, edE, hw, curE, byE]; done) | fail)) | exact Again.mk (c5, l ++ [⟨1, s, ⟨#[]⟩, 0, 0⟩]) (hfin _ c5 (hmake s hs)) (by simp; omega) (Sub.by [0, 12] (by first | (simp [edsE, edA, edE, hw, curE, byE]; done) | fail)) | exact Again.mk (c5, l ++ [⟨1, s, ⟨#[]⟩, 0, 0⟩]) (hfin _ c5 (hmake s hs)) (by simp; omega) (Sub.by [0, 13] (by first | (simp [edsE, edA, edE, hw, curE, byE]; done) | fail))
        · simp [hb3, edA, edE]
          refine Need.mk (by omega) ?_
          simp [hw]
          first | exact Again.mk (c5, l ++ [⟨1, s, ⟨#[]⟩, 0, 0⟩]) (hfin _ c5 (hmake s hs)) (by simp; omega) (Sub.by [0, 7] (by first | (simp [edsE, edA, edE, hw, curE, byE]; done) | fail)) | exact Again.mk (c5, l ++ [⟨1, s, ⟨#[]⟩, 0, 0⟩]) (hfin _ c5 (hmake s hs)) (by simp; omega) (Sub.by [0, 8] (by first | (simp [edsE, edA, edE, hw, curE, byE]; done) | fail)) | exact Again.mk (c5, l ++ [⟨1, s, ⟨#[]⟩, 0, 0⟩]) (hfin _ c5 (hmake s hs)) (by simp; omega) (Sub.by [0, 9] (by first | (simp [edsE, edA, edE, hw, curE, byE]; done) | fail)) | exact Again.mk (c5, l ++ [⟨1, s, ⟨#[]⟩, 0, 0⟩]) (hfin _ c5 (hmake s hs)) (by simp; omega) (Sub.by [0, 10] (by first | (simp [edsE, edA, edE, hw, curE, byE]; done) | fail)) | exact Again.mk (c5, l ++ [⟨1, s, ⟨#[]⟩, 0, 0⟩]) (hfin _ c5 (hmake s hs)) (by simp; omega) (Sub.by [0, 11] (by first | (simp [edsE, edA, edE, hw, curE, byE]; done) | fail)) | exact Again.mk (c5, l ++ [⟨1, s, ⟨#[]⟩, 0, 0⟩]) (hfin _ c5 (hmake s hs)) (by simp; omega) (Sub.by [0, 12] (by first | (simp [edsE, edA, edE, hw, curE, byE]; done) | fail)) | exact Again.mk (c5, l ++ [⟨1, s, ⟨#[]⟩, 0, 0⟩]) (hfin _ c5 (hmake s hs)) (by simp; omega) (Sub.by [0, 13] (by first | (simp [edsE, edA, edE, hw, curE, byE]; done) | fail))
      · simp [h3, h3n, hz, hb]
        refine CallA.rootsP [0] (l01Once_spec hZ c3 3 (by omega)) (by simp [curE, byE]) ?_
        rintro y r ⟨b3, c4, rfl, rfl⟩ _
        simp [curE, byE, hz, hw1]
        refine Br.bool (fun hb3 => ?_) (fun hb3 => ?_)
        · simp [hb3, hx, edE]
          refine Need.mk ⟨by rw [hw1]; omega, by rw [hw1]; omega⟩ ?_
          simp [hw1, hx, edE]
          refine Br.dec (fun hk => ?_) (fun hk => ?_)
          · first | refine W_drawCB hZ hmo 7 rfl 0 8 10 [(7, []), (7, []), (7, []), (7, []), (7, []), (7, []), (7, []), (7, [])] [0, 1, 2, 3, 4, 5, 6, 9] 7 (by kernel_rfl) rfl ?_ | refine W_drawCB hZ hmo 8 rfl 0 8 10 [(8, []), (8, []), (8, []), (8, []), (8, []), (8, []), (8, []), (8, [])] [0, 1, 2, 3, 4, 5, 6, 9] 8 (by kernel_rfl) rfl ?_ | refine W_drawCB hZ hmo 9 rfl 0 8 10 [(9, []), (9, []), (9, []), (9, []), (9, []), (9, []), (9, []), (9, [])] [0, 1, 2, 3, 4, 5, 6, 9] 9 (by kernel_rfl) rfl ?_
            simp
            refine Need.mk ⟨by rw [hw1]; omega, by rw [hw1]; omega⟩ ?_
            simp [hw1, hx, edE]
            refine CallC.rootsP [0] (l01Below_spec hZ c4 60 (by omega)) (by simp [curE, byE]) ?_
            rintro y r ⟨v, c5, rfl, hv, rfl⟩ _
            have hv3 := hv.1 (by omega)
            have hw5 : IntKind.i64.wrap (1 + v) = 1 + v := wrap_i64 (by omega)
            simp [curE, byE, hw1, hx, edE, hw5]
            refine ⟨Need.mk (by omega) rfl, Need.mk (by omega) ?_⟩
            simp [hw]
            first | exact Again.mk (c5, l ++ [⟨7, x.path, ⟨#[]⟩, 1 + v, 0⟩]) (hfin _ c5 (hput hk v (by omega))) (by simp; omega) (Sub.by [0, 7] (by first | (simp [edsE, edA, edE, hw, curE, byE]; done) | fail)) | exact Again.mk (c5, l ++ [⟨7, x.path, ⟨#[]⟩, 1 + v, 0⟩]) (hfin _ c5 (hput hk v (by omega))) (by simp; omega) (Sub.by [0, 8] (by first | (simp [edsE, edA, edE, hw, curE, byE]; done) | fail)) | exact Again.mk (c5, l ++ [⟨7, x.path, ⟨#[]⟩, 1 + v, 0⟩]) (hfin _ c5 (hput hk v (by omega))) (by simp; omega) (Sub.by [0, 9] (by first | (simp [edsE, edA, edE, hw, curE, byE]; done) | fail)) | exact Again.mk (c5, l ++ [⟨7, x.path, ⟨#[]⟩, 1 + v, 0⟩]) (hfin _ c5 (hput hk v (by omega))) (by simp; omega) (Sub.by [0, 10] (by first | (simp [edsE, edA, edE, hw, curE, byE]; done) | fail)) | exact Again.mk (c5, l ++ [⟨7, x.path, ⟨#[]⟩, 1 + v, 0⟩]) (hfin _ c5 (hput hk v (by omega))) (by simp; omega) (Sub.by [0, 11] (by first | (simp [edsE, edA, edE, hw, curE, byE]; done) | fail)) | exact Again.mk (c5, l ++ [⟨7, x.path, ⟨#[]⟩, 1 + v, 0⟩]) (hfin _ c5 (hput hk v (by omega))) (by simp; omega) (Sub.by [0, 12] (by first | (simp [edsE, edA, edE, hw, curE, byE]; done) | fail)) | exact Again.mk (c5, l ++ [⟨7, x.path, ⟨#[]⟩, 1 + v, 0⟩]) (hfin _ c5 (hput hk v (by omega))) (by simp; omega) (Sub.by [0, 13] (by first | (simp [edsE, edA, edE, hw, curE, byE]; done) | fail))
          · simp [edA, edE]
            refine Need.mk (by omega) ?_
            simp [hw]
            first | exact Again.mk (c4, l ++ [e]) (hfin _ c4 he) (by simp; omega) (Sub.by [0, 7] (by first | (simp [edsE, edA, edE, hw, curE, byE]; done) | fail)) | exact Again.mk (c4, l ++ [e]) (hfin _ c4 he) (by simp; omega) (Sub.by [0, 8] (by first | (simp [edsE, edA, edE, hw, curE, byE]; done) | fail)) | exact Again.mk (c4, l ++ [e]) (hfin _ c4 he) (by simp; omega) (Sub.by [0, 9] (by first | (simp [edsE, edA, edE, hw, curE, byE]; done) | fail)) | exact Again.mk (c4, l ++ [e]) (hfin _ c4 he) (by simp; omega) (Sub.by [0, 10] (by first | (simp [edsE, edA, edE, hw, curE, byE]; done) | fail)) | exact Again.mk (c4, l ++ [e]) (hfin _ c4 he) (by simp; omega) (Sub.by [0, 11] (by first | (simp [edsE, edA, edE, hw, curE, byE]; done) | fail)) | exact Again.mk (c4, l ++ [e]) (hfin _ c4 he) (by simp; omega) (Sub.by [0, 12] (by first | (simp [edsE, edA, edE, hw, curE, byE]; done) | fail)) | exact Again.mk (c4, l ++ [e]) (hfin _ c4 he) (by simp; omega) (Sub.by [0, 13] (by first | (simp [edsE, edA, edE, hw, curE, byE]; done) | fail))
        · simp [hb3, edA, edE]
          refine Need.mk (by omega) ?_
          simp [hw]
          first | exact Again.mk (c4, l ++ [e]) (hfin _ c4 he) (by simp; omega) (Sub.by [0, 7] (by first | (simp [edsE, edA, edE, hw, curE, byE]; done) | fail)) | exact Again.mk (c4, l ++ [e]) (hfin _ c4 he) (by simp; omega) (Sub.by [0, 8] (by first | (simp [edsE, edA, edE, hw, curE, byE]; done) | fail)) | exact Again.mk (c4, l ++ [e]) (hfin _ c4 he) (by simp; omega) (Sub.by [0, 9] (by first | (simp [edsE, edA, edE, hw, curE, byE]; done) | fail)) | exact Again.mk (c4, l ++ [e]) (hfin _ c4 he) (by simp; omega) (Sub.by [0, 10] (by first | (simp [edsE, edA, edE, hw, curE, byE]; done) | fail)) | exact Again.mk (c4, l ++ [e]) (hfin _ c4 he) (by simp; omega) (Sub.by [0, 11] (by first | (simp [edsE, edA, edE, hw, curE, byE]; done) | fail)) | exact Again.mk (c4, l ++ [e]) (hfin _ c4 he) (by simp; omega) (Sub.by [0, 12] (by first | (simp [edsE, edA, edE, hw, curE, byE]; done) | fail)) | exact Again.mk (c4, l ++ [e]) (hfin _ c4 he) (by simp; omega) (Sub.by [0, 13] (by first | (simp [edsE, edA, edE, hw, curE, byE]; done) | fail))
    · have h3n : (2 : Int) < l.length := by omega
      simp [h3, h3n]
      refine CallA.rootsP [0] (l01Once_spec hZ c2 3 (by omega)) (by simp [curE, byE]) ?_
      rintro y r ⟨b, c3, rfl, rfl⟩ _
      simp [curE, byE, h3, h3n, hz]
      refine Br.bool (fun hb => ?_) (fun hb => ?_)
      · simp [h3, h3n, hz, hb]
        refine CallA.rootsP [0, 6] (l01Pick_spec hZ c3 [⟨#[47, 99]⟩, ⟨#[47, 97, 47, 98]⟩, ⟨#[47, 97, 47, 99]⟩, ⟨#[47, 98, 47, 97]⟩] (by simp)) (by simp [curE, byE, strsE]) ?_
        rintro y r ⟨s, c4, rfl, hs, rfl⟩ _
        simp [curE, byE, strsE, edE, h3, h3n, hz]
        refine CallA.rootsP [0] (l01Once_spec hZ c4 3 (by omega)) (by simp [curE, byE]) ?_
        rintro y r ⟨b3, c5, rfl, rfl⟩ _
        simp [curE, byE, hz, hw1]
        refine Br.bool (fun hb3 => ?_) (fun hb3 => ?_)
        · simp [hb3, hx, edE]
          refine Need.mk ⟨by rw [hw1]; omega, by rw [hw1]; omega⟩ ?_
          simp [hw1, hx, edE]
          refine Br.dec (fun hk => ?_) (fun hk => ?_)
          · first | refine W_drawCB hZ hmo 7 rfl 0 8 10 [(7, []), (7, []), (7, []), (7, []), (7, []), (7, []), (7, []), (7, [])] [0, 1, 2, 3, 4, 5, 6, 9] 7 (by kernel_rfl) rfl ?_ | refine W_drawCB hZ hmo 8 rfl 0 8 10 [(8, []), (8, []), (8, []), (8, []), (8, []), (8, []), (8, []), (8, [])] [0, 1, 2, 3, 4, 5, 6, 9] 8 (by kernel_rfl) rfl ?_ | refine W_drawCB hZ hmo 9 rfl 0 8 10 [(9, []), (9, []), (9, []), (9, []), (9, []), (9, []), (9, []), (9, [])] [0, 1, 2, 3, 4, 5, 6, 9] 9 (by kernel_rfl) rfl ?_
            simp
            refine Need.mk ⟨by rw [hw1]; omega, by rw [hw1]; omega⟩ ?_
            simp [hw1, hx, edE]
            refine CallC.rootsP [0] (l01Below_spec hZ c5 60 (by omega)) (by simp [curE, byE]) ?_
            rintro y r ⟨v, c6, rfl, hv, rfl⟩ _
            have hv3 := hv.1 (by omega)
            have hw5 : IntKind.i64.wrap (1 + v) = 1 + v := wrap_i64 (by omega)
            simp [curE, byE, hw1, hx, edE, hw5]
            refine ⟨Need.mk (by omega) rfl, Need.mk (by omega) ?_⟩
            simp [hw]
            first | exact Again.mk (c6, l ++ [⟨7, x.path, ⟨#[]⟩, 1 + v, 0⟩]) (hfin _ c6 (hput hk v (by omega))) (by simp; omega) (Sub.by [0, 7] (by first | (simp [edsE, edA, edE, hw, curE, byE]; done) | fail)) | exact Again.mk (c6, l ++ [⟨7, x.path, ⟨#[]⟩, 1 + v, 0⟩]) (hfin _ c6 (hput hk v (by omega))) (by simp; omega) (Sub.by [0, 8] (by first | (simp [edsE, edA, edE, hw, curE, byE]; done) | fail)) | exact Again.mk (c6, l ++ [⟨7, x.path, ⟨#[]⟩, 1 + v, 0⟩]) (hfin _ c6 (hput hk v (by omega))) (by simp; omega) (Sub.by [0, 9] (by first | (simp [edsE, edA, edE, hw, curE, byE]; done) | fail)) | exact Again.mk (c6, l ++ [⟨7, x.path, ⟨#[]⟩, 1 + v, 0⟩]) (hfin _ c6 (hput hk v (by omega))) (by simp; omega) (Sub.by [0, 10] (by first | (simp [edsE, edA, edE, hw, curE, byE]; done) | fail)) | exact Again.mk (c6, l ++ [⟨7, x.path, ⟨#[]⟩, 1 + v, 0⟩]) (hfin _ c6 (hput hk v (by omega))) (by simp; omega) (Sub.by [0, 11] (by first | (simp [edsE, edA, edE, hw, curE, byE]; done) | fail)) | exact Again.mk (c6, l ++ [⟨7, x.path, ⟨#[]⟩, 1 + v, 0⟩]) (hfin _ c6 (hput hk v (by omega))) (by simp; omega) (Sub.by [0, 12] (by first | (simp [edsE, edA, edE, hw, curE, byE]; done) | fail)) | exact Again.mk (c6, l ++ [⟨7, x.path, ⟨#[]⟩, 1 + v, 0⟩]) (hfin _ c6 (hput hk v (by omega))) (by simp; omega) (Sub.by [0, 13] (by first | (simp [edsE, edA, edE, hw, curE, byE]; done) | fail))
          · simp [edA, edE]
            refine Need.mk (by omega) ?_
            simp [hw]
            first | exact Again.mk (c5, l ++ [⟨2, s, ⟨#[]⟩, 0, 1⟩]) (hfin _ c5 (hcreate s hs)) (by simp; omega) (Sub.by [0, 7] (by first | (simp [edsE, edA, edE, hw, curE, byE]; done) | fail)) | exact Again.mk (c5, l ++ [⟨2, s, ⟨#[]⟩, 0, 1⟩]) (hfin _ c5 (hcreate s hs)) (by simp; omega) (Sub.by [0, 8] (by first | (simp [edsE, edA, edE, hw, curE, byE]; done) | fail)) | exact Again.mk (c5, l ++ [⟨2, s, ⟨#[]⟩, 0, 1⟩]) (hfin _ c5 (hcreate s hs)) (by simp; omega) (Sub.by [0, 9] (by first | (simp [edsE, edA, edE, hw, curE, byE]; done) | fail)) | exact Again.mk (c5, l ++ [⟨2, s, ⟨#[]⟩, 0, 1⟩]) (hfin _ c5 (hcreate s hs)) (by simp; omega) (Sub.by [0, 10] (by first | (simp [edsE, edA, edE, hw, curE, byE]; done) | fail)) | exact Again.mk (c5, l ++ [⟨2, s, ⟨#[]⟩, 0, 1⟩]) (hfin _ c5 (hcreate s hs)) (by simp; omega) (Sub.by [0, 11] (by first | (simp [edsE, edA, edE, hw, curE, byE]; done) | fail)) | exact Again.mk (c5, l ++ [⟨2, s, ⟨#[]⟩, 0, 1⟩]) (hfin _ c5 (hcreate s hs)) (by simp; omega) (Sub.by [0, 12] (by first | (simp [edsE, edA, edE, hw, curE, byE]; done) | fail)) | exact Again.mk (c5, l ++ [⟨2, s, ⟨#[]⟩, 0, 1⟩]) (hfin _ c5 (hcreate s hs)) (by simp; omega) (Sub.by [0, 13] (by first | (simp [edsE, edA, edE, hw, curE, byE]; done) | fail))
        · simp [hb3, edA, edE]
          refine Need.mk (by omega) ?_
          simp [hw]
          first | exact Again.mk (c5, l ++ [⟨2, s, ⟨#[]⟩, 0, 1⟩]) (hfin _ c5 (hcreate s hs)) (by simp; omega) (Sub.by [0, 7] (by first | (simp [edsE, edA, edE, hw, curE, byE]; done) | fail)) | exact Again.mk (c5, l ++ [⟨2, s, ⟨#[]⟩, 0, 1⟩]) (hfin _ c5 (hcreate s hs)) (by simp; omega) (Sub.by [0, 8] (by first | (simp [edsE, edA, edE, hw, curE, byE]; done) | fail)) | exact Again.mk (c5, l ++ [⟨2, s, ⟨#[]⟩, 0, 1⟩]) (hfin _ c5 (hcreate s hs)) (by simp; omega) (Sub.by [0, 9] (by first | (simp [edsE, edA, edE, hw, curE, byE]; done) | fail)) | exact Again.mk (c5, l ++ [⟨2, s, ⟨#[]⟩, 0, 1⟩]) (hfin _ c5 (hcreate s hs)) (by simp; omega) (Sub.by [0, 10] (by first | (simp [edsE, edA, edE, hw, curE, byE]; done) | fail)) | exact Again.mk (c5, l ++ [⟨2, s, ⟨#[]⟩, 0, 1⟩]) (hfin _ c5 (hcreate s hs)) (by simp; omega) (Sub.by [0, 11] (by first | (simp [edsE, edA, edE, hw, curE, byE]; done) | fail)) | exact Again.mk (c5, l ++ [⟨2, s, ⟨#[]⟩, 0, 1⟩]) (hfin _ c5 (hcreate s hs)) (by simp; omega) (Sub.by [0, 12] (by first | (simp [edsE, edA, edE, hw, curE, byE]; done) | fail)) | exact Again.mk (c5, l ++ [⟨2, s, ⟨#[]⟩, 0, 1⟩]) (hfin _ c5 (hcreate s hs)) (by simp; omega) (Sub.by [0, 13] (by first | (simp [edsE, edA, edE, hw, curE, byE]; done) | fail))
      · simp [h3, h3n, hz, hb]
        refine CallA.rootsP [0] (l01Once_spec hZ c3 3 (by omega)) (by simp [curE, byE]) ?_
        rintro y r ⟨b3, c4, rfl, rfl⟩ _
        simp [curE, byE, hz, hw1]
        refine Br.bool (fun hb3 => ?_) (fun hb3 => ?_)
        · simp [hb3, hx, edE]
          refine Need.mk ⟨by rw [hw1]; omega, by rw [hw1]; omega⟩ ?_
          simp [hw1, hx, edE]
          refine Br.dec (fun hk => ?_) (fun hk => ?_)
          · first | refine W_drawCB hZ hmo 7 rfl 0 8 10 [(7, []), (7, []), (7, []), (7, []), (7, []), (7, []), (7, []), (7, [])] [0, 1, 2, 3, 4, 5, 6, 9] 7 (by kernel_rfl) rfl ?_ | refine W_drawCB hZ hmo 8 rfl 0 8 10 [(8, []), (8, []), (8, []), (8, []), (8, []), (8, []), (8, []), (8, [])] [0, 1, 2, 3, 4, 5, 6, 9] 8 (by kernel_rfl) rfl ?_ | refine W_drawCB hZ hmo 9 rfl 0 8 10 [(9, []), (9, []), (9, []), (9, []), (9, []), (9, []), (9, []), (9, [])] [0, 1, 2, 3, 4, 5, 6, 9] 9 (by kernel_rfl) rfl ?_
            simp
            refine Need.mk ⟨by rw [hw1]; omega, by rw [hw1]; omega⟩ ?_
            simp [hw1, hx, edE]
            refine CallC.rootsP [0] (l01Below_spec hZ c4 60 (by omega)) (by simp [curE, byE]) ?_
            rintro y r ⟨v, c5, rfl, hv, rfl⟩ _
            have hv3 := hv.1 (by omega)
            have hw5 : IntKind.i64.wrap (1 + v) = 1 + v := wrap_i64 (by omega)
            simp [curE, byE, hw1, hx, edE, hw5]
            refine ⟨Need.mk (by omega) rfl, Need.mk (by omega) ?_⟩
            simp [hw]
            first | exact Again.mk (c5, l ++ [⟨7, x.path, ⟨#[]⟩, 1 + v, 0⟩]) (hfin _ c5 (hput hk v (by omega))) (by simp; omega) (Sub.by [0, 7] (by first | (simp [edsE, edA, edE, hw, curE, byE]; done) | fail)) | exact Again.mk (c5, l ++ [⟨7, x.path, ⟨#[]⟩, 1 + v, 0⟩]) (hfin _ c5 (hput hk v (by omega))) (by simp; omega) (Sub.by [0, 8] (by first | (simp [edsE, edA, edE, hw, curE, byE]; done) | fail)) | exact Again.mk (c5, l ++ [⟨7, x.path, ⟨#[]⟩, 1 + v, 0⟩]) (hfin _ c5 (hput hk v (by omega))) (by simp; omega) (Sub.by [0, 9] (by first | (simp [edsE, edA, edE, hw, curE, byE]; done) | fail)) | exact Again.mk (c5, l ++ [⟨7, x.path, ⟨#[]⟩, 1 + v, 0⟩]) (hfin _ c5 (hput hk v (by omega))) (by simp; omega) (Sub.by [0, 10] (by first | (simp [edsE, edA, edE, hw, curE, byE]; done) | fail)) | exact Again.mk (c5, l ++ [⟨7, x.path, ⟨#[]⟩, 1 + v, 0⟩]) (hfin _ c5 (hput hk v (by omega))) (by simp; omega) (Sub.by [0, 11] (by first | (simp [edsE, edA, edE, hw, curE, byE]; done) | fail)) | exact Again.mk (c5, l ++ [⟨7, x.path, ⟨#[]⟩, 1 + v, 0⟩]) (hfin _ c5 (hput hk v (by omega))) (by simp; omega) (Sub.by [0, 12] (by first | (simp [edsE, edA, edE, hw, curE, byE]; done) | fail)) | exact Again.mk (c5, l ++ [⟨7, x.path, ⟨#[]⟩, 1 + v, 0⟩]) (hfin _ c5 (hput hk v (by omega))) (by simp; omega) (Sub.by [0, 13] (by first | (simp [edsE, edA, edE, hw, curE, byE]; done) | fail))
          · simp [edA, edE]
            refine Need.mk (by omega) ?_
            simp [hw]
            first | exact Again.mk (c4, l ++ [e]) (hfin _ c4 he) (by simp; omega) (Sub.by [0, 7] (by first | (simp [edsE, edA, edE, hw, curE, byE]; done) | fail)) | exact Again.mk (c4, l ++ [e]) (hfin _ c4 he) (by simp; omega) (Sub.by [0, 8] (by first | (simp [edsE, edA, edE, hw, curE, byE]; done) | fail)) | exact Again.mk (c4, l ++ [e]) (hfin _ c4 he) (by simp; omega) (Sub.by [0, 9] (by first | (simp [edsE, edA, edE, hw, curE, byE]; done) | fail)) | exact Again.mk (c4, l ++ [e]) (hfin _ c4 he) (by simp; omega) (Sub.by [0, 10] (by first | (simp [edsE, edA, edE, hw, curE, byE]; done) | fail)) | exact Again.mk (c4, l ++ [e]) (hfin _ c4 he) (by simp; omega) (Sub.by [0, 11] (by first | (simp [edsE, edA, edE, hw, curE, byE]; done) | fail)) | exact Again.mk (c4, l ++ [e]) (hfin _ c4 he) (by simp; omega) (Sub.by [0, 12] (by first | (simp [edsE, edA, edE, hw, curE, byE]; done) | fail)) | exact Again.mk (c4, l ++ [e]) (hfin _ c4 he) (by simp; omega) (Sub.by [0, 13] (by first | (simp [edsE, edA, edE, hw, curE, byE]; done) | fail))
        · simp [hb3, edA, edE]
          refine Need.mk (by omega) ?_
          simp [hw]
          first | exact Again.mk (c4, l ++ [e]) (hfin _ c4 he) (by simp; omega) (Sub.by [0, 7] (by first | (simp [edsE, edA, edE, hw, curE, byE]; done) | fail)) | exact Again.mk (c4, l ++ [e]) (hfin _ c4 he) (by simp; omega) (Sub.by [0, 8] (by first | (simp [edsE, edA, edE, hw, curE, byE]; done) | fail)) | exact Again.mk (c4, l ++ [e]) (hfin _ c4 he) (by simp; omega) (Sub.by [0, 9] (by first | (simp [edsE, edA, edE, hw, curE, byE]; done) | fail)) | exact Again.mk (c4, l ++ [e]) (hfin _ c4 he) (by simp; omega) (Sub.by [0, 10] (by first | (simp [edsE, edA, edE, hw, curE, byE]; done) | fail)) | exact Again.mk (c4, l ++ [e]) (hfin _ c4 he) (by simp; omega) (Sub.by [0, 11] (by first | (simp [edsE, edA, edE, hw, curE, byE]; done) | fail)) | exact Again.mk (c4, l ++ [e]) (hfin _ c4 he) (by simp; omega) (Sub.by [0, 12] (by first | (simp [edsE, edA, edE, hw, curE, byE]; done) | fail)) | exact Again.mk (c4, l ++ [e]) (hfin _ c4 he) (by simp; omega) (Sub.by [0, 13] (by first | (simp [edsE, edA, edE, hw, curE, byE]; done) | fail))
  · obtain rfl : l = [] := List.eq_nil_of_length_eq_zero (by omega)
    have h3 : ((([] : List Edt).length : Nat) : Int) < 3 := by simp
    have h3n : ¬ (2 : Int) < ([] : List Edt).length := by simp
    simp at hw
    simp
    refine CallA.rootsP [0] (l01Once_spec hZ c2 2 (by omega)) (by simp [curE, byE]) ?_
    rintro y r ⟨b, c3, rfl, rfl⟩ _
    simp [curE, byE, h3, h3n]
    refine Br.bool (fun hb => ?_) (fun hb => ?_)
    · simp [h3, h3n, hb]
      refine CallA.rootsP [0, 6] (l01Pick_spec hZ c3 [⟨#[47, 97]⟩, ⟨#[47, 98]⟩] (by simp)) (by simp [curE, byE, strsE]) ?_
      rintro y r ⟨s, c4, rfl, hs, rfl⟩ _
      simp [curE, byE, strsE, edE, h3, h3n]
      try simp [edA, edE]
      try refine Need.mk (by first | omega | (simp; done)) ?_
      try simp [hw]
      first | exact Again.mk (c4, [] ++ [⟨1, s, ⟨#[]⟩, 0, 0⟩]) (hfin _ c4 (hmake s hs)) (by simp; omega) (Sub.by [0, 7] (by first | (simp [edsE, edA, edE, hw, curE, byE]; done) | fail)) | exact Again.mk (c4, [] ++ [⟨1, s, ⟨#[]⟩, 0, 0⟩]) (hfin _ c4 (hmake s hs)) (by simp; omega) (Sub.by [0, 8] (by first | (simp [edsE, edA, edE, hw, curE, byE]; done) | fail)) | exact Again.mk (c4, [] ++ [⟨1, s, ⟨#[]⟩, 0, 0⟩]) (hfin _ c4 (hmake s hs)) (by simp; omega) (Sub.by [0, 9] (by first | (simp [edsE, edA, edE, hw, curE, byE]; done) | fail)) | exact Again.mk (c4, [] ++ [⟨1, s, ⟨#[]⟩, 0, 0⟩]) (hfin _ c4 (hmake s hs)) (by simp; omega) (Sub.by [0, 10] (by first | (simp [edsE, edA, edE, hw, curE, byE]; done) | fail)) | exact Again.mk (c4, [] ++ [⟨1, s, ⟨#[]⟩, 0, 0⟩]) (hfin _ c4 (hmake s hs)) (by simp; omega) (Sub.by [0, 11] (by first | (simp [edsE, edA, edE, hw, curE, byE]; done) | fail)) | exact Again.mk (c4, [] ++ [⟨1, s, ⟨#[]⟩, 0, 0⟩]) (hfin _ c4 (hmake s hs)) (by simp; omega) (Sub.by [0, 12] (by first | (simp [edsE, edA, edE, hw, curE, byE]; done) | fail)) | exact Again.mk (c4, [] ++ [⟨1, s, ⟨#[]⟩, 0, 0⟩]) (hfin _ c4 (hmake s hs)) (by simp; omega) (Sub.by [0, 13] (by first | (simp [edsE, edA, edE, hw, curE, byE]; done) | fail))
    · simp [h3, h3n, hb]
      try simp [edA, edE]
      try refine Need.mk (by first | omega | (simp; done)) ?_
      try simp [hw]
      first | exact Again.mk (c3, [] ++ [e]) (hfin _ c3 he) (by simp; omega) (Sub.by [0, 7] (by first | (simp [edsE, edA, edE, hw, curE, byE]; done) | fail)) | exact Again.mk (c3, [] ++ [e]) (hfin _ c3 he) (by simp; omega) (Sub.by [0, 8] (by first | (simp [edsE, edA, edE, hw, curE, byE]; done) | fail)) | exact Again.mk (c3, [] ++ [e]) (hfin _ c3 he) (by simp; omega) (Sub.by [0, 9] (by first | (simp [edsE, edA, edE, hw, curE, byE]; done) | fail)) | exact Again.mk (c3, [] ++ [e]) (hfin _ c3 he) (by simp; omega) (Sub.by [0, 10] (by first | (simp [edsE, edA, edE, hw, curE, byE]; done) | fail)) | exact Again.mk (c3, [] ++ [e]) (hfin _ c3 he) (by simp; omega) (Sub.by [0, 11] (by first | (simp [edsE, edA, edE, hw, curE, byE]; done) | fail)) | exact Again.mk (c3, [] ++ [e]) (hfin _ c3 he) (by simp; omega) (Sub.by [0, 12] (by first | (simp [edsE, edA, edE, hw, curE, byE]; done) | fail)) | exact Again.mk (c3, [] ++ [e]) (hfin _ c3 he) (by simp; omega) (Sub.by [0, 13] (by first | (simp [edsE, edA, edE, hw, curE, byE]; done) | fail))
end Go.Proofs.YtbhbkaonlillhaaGreatDoor
