/- Contracts of package lz. -/
import Derived.Test.YtfmbgnchedhneaaDoorVcOwn
import Derived.Test.YtfmbgnchedhneaaDoorCopyN
import Derived.Test.YtfmbgnchedhneaaDoorResLz
namespace Go.Proofs.YtfmbgnchedhneaaDoor
open Go Go.Vc Go.Proofs
set_option linter.unusedVariables false
set_option linter.unusedSimpArgs false
variable {H : Heap} {R : Value → Heap → Prop}
/-- a token -/
structure Tok where
  (b : UInt8) (n d : Int)
abbrev Tok.cells (t : Tok) : List Value := [byteV t.b, .int .i64 t.n, .int .i64 t.d]
abbrev Tok.v (t : Tok) : Value := .agg t.cells.toArray
def Tok.obj (t : Tok) : Obj := .cells t.cells.toArray 47 (0, 0)
def Tok.fits (t : Tok) : Prop := -9223372036854775808 ≤ t.n ∧ t.n ≤ 9223372036854775807 ∧ -9223372036854775808 ≤ t.d ∧ t.d ≤ 9223372036854775807
def toksL (l : List Tok) : List Value := l.flatMap Tok.cells
theorem toksL_len : ∀ l : List Tok, (toksL l).length = l.length * 3
  | [] => rfl
  | t :: r => by
    have := toksL_len r
    simp only [toksL, List.flatMap_cons, List.length_append, List.length_cons, List.length_nil] at this ⊢
    omega
theorem toksL_at : ∀ (l : List Tok) (i : Nat) (t : Tok), l[i]? = some t → ((toksL l).drop (i * 3)).take 3 = t.cells
  | [], i, t, h => by simp at h
  | u :: r, 0, t, h => by
    simp only [List.getElem?_cons_zero, Option.some.injEq] at h
    subst h
    simp [toksL, Tok.cells]
  | u :: r, i + 1, t, h => by
    simp only [List.getElem?_cons_succ] at h
    have := toksL_at r i t h
    rw [← this]
    show ((u.cells ++ toksL r).drop ((i + 1) * 3)).take 3 = _
    rw [show (i + 1) * 3 = u.cells.length + i * 3 by simp [Tok.cells]; omega, List.drop_append]
    simp only [List.drop_eq_nil_of_le (show [byteV u.b, Value.int IntKind.i64 u.n, Value.int IntKind.i64 u.d].length ≤ [byteV u.b, Value.int IntKind.i64 u.n, Value.int IntKind.i64 u.d].length + i * 3 by omega), List.nil_append]
    rw [show u.cells.length + i * 3 - u.cells.length = i * 3 by omega]
def goodK (t : Tok) : Bool := if t.n = 0 then decide (t.d = 0) else decide ((t.b.toNat : Int) = 0 ∧ 3 ≤ t.n ∧ t.n ≤ 258 ∧ 1 ≤ t.d ∧ t.d ≤ 32768)
theorem tokGood_spec {t : Tok} (h : ∀ H', Ext H H' → R (.bool (goodK t)) H') : CallsH Tryd.prog 32 #[t.v] H R := by
  refine lz_Token_Good.vc _ _ _ ?_
  unfold lz_Token_Good.res
  refine pBox_ext fun H1 s1 e1 b1 => ?_
  have b1 : H1[H.size]? = some t.obj := b1
  have h := h H1 e1
  simp only [pPick_v, pNil_v, pNil_f, pAdd_v, pSub_v, pMul_v, pAdd_s, pQuo_v, pRem_v, pBits_v, pShl_v, pShr_v, pLt_v, pLe_v, pGt_v, pGe_v, pEq_0, pNe_0, pEq_1, pNe_1, pEq_2, pNe_2, pEq_3n, pNe_3n, pEq_3s, pNe_3s, pEq_3t, pNe_3t, pEq_5n, pNe_5n, pEq_5s, pNe_5s, pEq_5t, pNe_5t, pEq_4n, pNe_4n, pEq_4s, pNe_4s, pNot_v, pNeg_v, pCom_v, pConv_v, pConvS_v, pMin_v, pMax_v, pFieldAddr_v, pField1_v, pFieldN_v, pExtract_v, pIdxArr_v, pIdxSl_v, pIdxStr_v, pBounds_00, pBounds_10, pBounds_01, pBounds_11, pSlStr_v, pSlSl_v, pSlArr_v, pLenS_v, pLen_v, pCap_v, pBuild_n, pBuild_c, cells_int, cells_str, cells_bool, cells_ptr, cells_slice, cells_map, cells_agg, oneCell_int, oneCell_str, oneCell_bool, oneCell_ptr, oneCell_slice, oneCell_map, putL_cons, putL_nil, pAnd_pure, pOr_pure, pAnd_pureE, pOr_pureE, pAnd_false, pOr_true, pCond_true, pCond_false, add_mk, bys_mk, bys_size, cond_true, cond_false, decide_true, decide_false, decide_not', dec_and, dec_or, dec_eqt, Bool.not_true, Bool.not_false, Option.isNone_none, Option.isNone_some, Option.map_some, Option.map_none, List.getElem?_toArray, List.getElem?_cons_zero, List.getElem?_cons_succ, List.size_toArray, List.length_cons, List.length_nil, List.length_replicate, List.set_cons_zero, List.set_cons_succ, Nat.reduceAdd, Nat.reduceMul, Nat.reduceSub, Nat.reduceLeDiff, Nat.zero_add, Nat.add_zero, Nat.zero_le, true_and, and_true, not_false_eq_true, ne_eq, Int.reduceNeg, Int.reduceEq, Int.reduceNe, Int.reduceLT, Int.reduceLE, le_refl', List.setIfInBounds_toArray, Nat.reduceLT, Array.size_setIfInBounds, if_true, if_false, reduceCtorEq, List.toArray_toList', List.drop_succ_cons, List.drop_zero, List.take_succ_cons, List.take_zero, List.nil_append, List.append_nil, List.cons_append, Bool.and_true, Bool.true_and, Bool.or_false, Bool.false_or, Bool.and_false, Bool.or_true, Bool.true_or, Bool.false_and, eq_self, pLoad_at b1]
  refine pCond_if (fun hc => ?_) (fun hc => ?_)
  · rw [goodK, if_pos hc] at h; exact h
  · rw [goodK, if_neg hc] at h
    intros
    refine bool_to ?_ h
    rw [Bool.eq_iff_iff]
    simp only [decide_eq_true_eq]
    omega
def expandF : List Tok → List UInt8 → Option (List UInt8)
  | [], b => some b
  | t :: r, b => if goodK t = true ∧ t.d ≤ (b.length : Int) then expandF r (copyN t.n.toNat (if t.n = 0 then b ++ [t.b] else b) t.d.toNat) else none
/-- what Expand answers -/
def expandV (ahead : List UInt8) (l : List Tok) : Value := match expandF l ahead with
  | some b => .tuple #[str (b.drop ahead.length), .bool true]
  | none => .tuple #[str [], .bool false]
theorem goodK_facts {t : Tok} (h : goodK t = true) : (t.n = 0 ∧ t.d = 0) ∨ (3 ≤ t.n ∧ t.n ≤ 258 ∧ 1 ≤ t.d ∧ t.d ≤ 32768) := by
  unfold goodK at h
  split at h
  · left; exact ⟨by assumption, by simpa using h⟩
  · right; simp only [decide_eq_true_eq] at h; omega
set_option maxHeartbeats 1000000 in
theorem expand_spec {ahead : List UInt8} {lv : Value} {l : List Tok} (hS : Sl H lv 3 (toksL l)) (hf : ∀ t ∈ l, t.fits) (hsz : ahead.length + 258 * l.length ≤ 1099511627776)
    (h : ∀ H', Ext H H' → R (expandV ahead l) H') : CallsH Tryd.prog 21 #[str ahead, lv] H R := by
  refine lz_Expand.vc _ _ _ _ ?_
  unfold lz_Expand.res
  refine own_bytes fun bv H1 o1 e1 k1 => ?_
  refine hS.len (toksL_len l) (by decide) ?_
  refine ⟨fun v u H' => ∃ (i : Nat) (bs : List UInt8), u = .int .i64 i ∧ i ≤ l.length ∧ Own H' v 1 (bs.map byteV) ∧ (∀ k, blkOf v = some k → H.size ≤ k) ∧ Ext H H' ∧ bs.length ≤ ahead.length + 258 * i ∧ ahead.length ≤ bs.length ∧ expandF (l.drop i) bs = expandF l ahead,
    fun _ u _ => match u with | .int _ i => (l.length - i).toNat | _ => 0, ⟨0, ahead, rfl, by omega, o1, fun k hk => by rw [k1] at hk; simp only [Option.some.injEq] at hk; omega, e1, by omega, by omega, rfl⟩, ?_⟩
  rintro _ bv _ H2 ⟨i, bs, rfl, hi, ob, hbk, e2, hb1, hb2, hex⟩
  simp only [pPick_v, pNil_v, pNil_f, pAdd_v, pSub_v, pMul_v, pAdd_s, pQuo_v, pRem_v, pBits_v, pShl_v, pShr_v, pLt_v, pLe_v, pGt_v, pGe_v, pEq_0, pNe_0, pEq_1, pNe_1, pEq_2, pNe_2, pEq_3n, pNe_3n, pEq_3s, pNe_3s, pEq_3t, pNe_3t, pEq_5n, pNe_5n, pEq_5s, pNe_5s, pEq_5t, pNe_5t, pEq_4n, pNe_4n, pEq_4s, pNe_4s, pNot_v, pNeg_v, pCom_v, pConv_v, pConvS_v, pMin_v, pMax_v, pFieldAddr_v, pField1_v, pFieldN_v, pExtract_v, pIdxArr_v, pIdxSl_v, pIdxStr_v, pBounds_00, pBounds_10, pBounds_01, pBounds_11, pSlStr_v, pSlSl_v, pSlArr_v, pLenS_v, pLen_v, pCap_v, pBuild_n, pBuild_c, cells_int, cells_str, cells_bool, cells_ptr, cells_slice, cells_map, cells_agg, oneCell_int, oneCell_str, oneCell_bool, oneCell_ptr, oneCell_slice, oneCell_map, putL_cons, putL_nil, pAnd_pure, pOr_pure, pAnd_pureE, pOr_pureE, pAnd_false, pOr_true, pCond_true, pCond_false, add_mk, bys_mk, bys_size, cond_true, cond_false, decide_true, decide_false, decide_not', dec_and, dec_or, dec_eqt, Bool.not_true, Bool.not_false, Option.isNone_none, Option.isNone_some, Option.map_some, Option.map_none, List.getElem?_toArray, List.getElem?_cons_zero, List.getElem?_cons_succ, List.size_toArray, List.length_cons, List.length_nil, List.length_replicate, List.set_cons_zero, List.set_cons_succ, Nat.reduceAdd, Nat.reduceMul, Nat.reduceSub, Nat.reduceLeDiff, Nat.zero_add, Nat.add_zero, Nat.zero_le, true_and, and_true, not_false_eq_true, ne_eq, Int.reduceNeg, Int.reduceEq, Int.reduceNe, Int.reduceLT, Int.reduceLE, le_refl', List.setIfInBounds_toArray, Nat.reduceLT, Array.size_setIfInBounds, if_true, if_false, reduceCtorEq, List.toArray_toList', List.drop_succ_cons, List.drop_zero, List.take_succ_cons, List.take_zero, List.nil_append, List.append_nil, List.cons_append, Bool.and_true, Bool.true_and, Bool.or_false, Bool.false_or, Bool.and_false, Bool.or_true, Bool.true_or, Bool.false_and, eq_self]
  refine pCond_if (fun hc => ?_) (fun hc => ?_)
  · have hil : i < l.length := by omega
    obtain ⟨t, ht⟩ : ∃ t, l[i]? = some t := ⟨l[i], List.getElem?_eq_getElem hil⟩
    have hft := hf t (List.mem_of_getElem? ht)
    have hdrop : l.drop i = t :: l.drop (i + 1) := by
      rw [List.drop_eq_getElem_cons hil]
      rw [List.getElem?_eq_getElem hil] at ht
      simp only [Option.some.injEq] at ht
      rw [ht]
    rw [hdrop] at hex
    refine (hS.ext e2).idx (toksL_len l) (by decide) (by omega) (by omega) fun a ha => ?_
    rw [Int.toNat_natCast, toksL_at l i t ht] at ha
    refine ha.loadN rfl ?_
    refine pBox_ext fun H3 s3 e3 c3 => ?_
    refine pStoreN_upd c3 (by rfl) (by rfl) (by rfl) fun H4 s4 u4 => ?_
    have c4 : H4[H2.size]? = some t.obj := u4.at_
    have e24 : Ext H2 H4 := u4.ext e3 (Nat.le_refl _)
    have o4 := ob.ext e24
    have e4 := e2.trans e24
    have hH2 : H.size ≤ H2.size := e2.size
    have hne : ∀ k, blkOf bv = some k → k ≠ H2.size := fun k hk => by have := ob.lt hk; omega
    refine ⟨fun v H' => ∃ bs1 : List UInt8, Own H' v 1 (bs1.map byteV) ∧ (∀ k, blkOf v = some k → H.size ≤ k ∧ k ≠ H2.size) ∧ Ext H H' ∧ H'[H2.size]? = some t.obj ∧ bs1 = (if t.n = 0 then bs ++ [t.b] else bs) ∧ goodK t = true ∧ t.d ≤ (bs.length : Int), ?_, ?_⟩
    · rintro _ bv1 H5 ⟨bs1, o5, hk5, e5, c5, hbs1, hg, hd⟩
      have hgf := goodK_facts hg
      have hlen1 : bs.length ≤ bs1.length ∧ bs1.length ≤ bs.length + 1 ∧ (t.n ≠ 0 → bs1 = bs) := by
        rw [hbs1]; split
        · exact ⟨by simp, by simp, fun h => by contradiction⟩
        · exact ⟨by simp, by simp, fun _ => rfl⟩
      simp only [pPick_v, pNil_v, pNil_f, pAdd_v, pSub_v, pMul_v, pAdd_s, pQuo_v, pRem_v, pBits_v, pShl_v, pShr_v, pLt_v, pLe_v, pGt_v, pGe_v, pEq_0, pNe_0, pEq_1, pNe_1, pEq_2, pNe_2, pEq_3n, pNe_3n, pEq_3s, pNe_3s, pEq_3t, pNe_3t, pEq_5n, pNe_5n, pEq_5s, pNe_5s, pEq_5t, pNe_5t, pEq_4n, pNe_4n, pEq_4s, pNe_4s, pNot_v, pNeg_v, pCom_v, pConv_v, pConvS_v, pMin_v, pMax_v, pFieldAddr_v, pField1_v, pFieldN_v, pExtract_v, pIdxArr_v, pIdxSl_v, pIdxStr_v, pBounds_00, pBounds_10, pBounds_01, pBounds_11, pSlStr_v, pSlSl_v, pSlArr_v, pLenS_v, pLen_v, pCap_v, pBuild_n, pBuild_c, cells_int, cells_str, cells_bool, cells_ptr, cells_slice, cells_map, cells_agg, oneCell_int, oneCell_str, oneCell_bool, oneCell_ptr, oneCell_slice, oneCell_map, putL_cons, putL_nil, pAnd_pure, pOr_pure, pAnd_pureE, pOr_pureE, pAnd_false, pOr_true, pCond_true, pCond_false, add_mk, bys_mk, bys_size, cond_true, cond_false, decide_true, decide_false, decide_not', dec_and, dec_or, dec_eqt, Bool.not_true, Bool.not_false, Option.isNone_none, Option.isNone_some, Option.map_some, Option.map_none, List.getElem?_toArray, List.getElem?_cons_zero, List.getElem?_cons_succ, List.size_toArray, List.length_cons, List.length_nil, List.length_replicate, List.set_cons_zero, List.set_cons_succ, Nat.reduceAdd, Nat.reduceMul, Nat.reduceSub, Nat.reduceLeDiff, Nat.zero_add, Nat.add_zero, Nat.zero_le, true_and, and_true, not_false_eq_true, ne_eq, Int.reduceNeg, Int.reduceEq, Int.reduceNe, Int.reduceLT, Int.reduceLE, le_refl', List.setIfInBounds_toArray, Nat.reduceLT, Array.size_setIfInBounds, if_true, if_false, reduceCtorEq, List.toArray_toList', List.drop_succ_cons, List.drop_zero, List.take_succ_cons, List.take_zero, List.nil_append, List.append_nil, List.cons_append, Bool.and_true, Bool.true_and, Bool.or_false, Bool.false_or, Bool.and_false, Bool.or_true, Bool.true_or, Bool.false_and, eq_self, pLoad_at c5]
      refine ⟨fun v u H' => ∃ j : Nat, u = .int .i64 j ∧ j ≤ t.n ∧ Own H' v 1 ((copyN j bs1 t.d.toNat).map byteV) ∧ (∀ k, blkOf v = some k → H.size ≤ k ∧ k ≠ H2.size) ∧ Ext H H' ∧ H'[H2.size]? = some t.obj,
        fun _ u _ => match u with | .int _ i => (t.n - i).toNat | _ => 0, ⟨0, rfl, by omega, o5, hk5, e5, c5⟩, ?_⟩
      rintro _ bv2 _ H6 ⟨j, rfl, hj, o6, hk6, e6, c6⟩
      have hl6 := copyN_len j bs1 t.d.toNat
      simp only [pPick_v, pNil_v, pNil_f, pAdd_v, pSub_v, pMul_v, pAdd_s, pQuo_v, pRem_v, pBits_v, pShl_v, pShr_v, pLt_v, pLe_v, pGt_v, pGe_v, pEq_0, pNe_0, pEq_1, pNe_1, pEq_2, pNe_2, pEq_3n, pNe_3n, pEq_3s, pNe_3s, pEq_3t, pNe_3t, pEq_5n, pNe_5n, pEq_5s, pNe_5s, pEq_5t, pNe_5t, pEq_4n, pNe_4n, pEq_4s, pNe_4s, pNot_v, pNeg_v, pCom_v, pConv_v, pConvS_v, pMin_v, pMax_v, pFieldAddr_v, pField1_v, pFieldN_v, pExtract_v, pIdxArr_v, pIdxSl_v, pIdxStr_v, pBounds_00, pBounds_10, pBounds_01, pBounds_11, pSlStr_v, pSlSl_v, pSlArr_v, pLenS_v, pLen_v, pCap_v, pBuild_n, pBuild_c, cells_int, cells_str, cells_bool, cells_ptr, cells_slice, cells_map, cells_agg, oneCell_int, oneCell_str, oneCell_bool, oneCell_ptr, oneCell_slice, oneCell_map, putL_cons, putL_nil, pAnd_pure, pOr_pure, pAnd_pureE, pOr_pureE, pAnd_false, pOr_true, pCond_true, pCond_false, add_mk, bys_mk, bys_size, cond_true, cond_false, decide_true, decide_false, decide_not', dec_and, dec_or, dec_eqt, Bool.not_true, Bool.not_false, Option.isNone_none, Option.isNone_some, Option.map_some, Option.map_none, List.getElem?_toArray, List.getElem?_cons_zero, List.getElem?_cons_succ, List.size_toArray, List.length_cons, List.length_nil, List.length_replicate, List.set_cons_zero, List.set_cons_succ, Nat.reduceAdd, Nat.reduceMul, Nat.reduceSub, Nat.reduceLeDiff, Nat.zero_add, Nat.add_zero, Nat.zero_le, true_and, and_true, not_false_eq_true, ne_eq, Int.reduceNeg, Int.reduceEq, Int.reduceNe, Int.reduceLT, Int.reduceLE, le_refl', List.setIfInBounds_toArray, Nat.reduceLT, Array.size_setIfInBounds, if_true, if_false, reduceCtorEq, List.toArray_toList', List.drop_succ_cons, List.drop_zero, List.take_succ_cons, List.take_zero, List.nil_append, List.append_nil, List.cons_append, Bool.and_true, Bool.true_and, Bool.or_false, Bool.false_or, Bool.and_false, Bool.or_true, Bool.true_or, Bool.false_and, eq_self, pLoad_at c6]
      refine pCond_if (fun hc2 => ?_) (fun hc2 => ?_)
      · have hS6 := o6.sl (by decide)
        refine hS6.len (n := bs1.length + j) (by simp [hl6]) (by decide) ?_
        simp only [pPick_v, pNil_v, pNil_f, pAdd_v, pSub_v, pMul_v, pAdd_s, pQuo_v, pRem_v, pBits_v, pShl_v, pShr_v, pLt_v, pLe_v, pGt_v, pGe_v, pEq_0, pNe_0, pEq_1, pNe_1, pEq_2, pNe_2, pEq_3n, pNe_3n, pEq_3s, pNe_3s, pEq_3t, pNe_3t, pEq_5n, pNe_5n, pEq_5s, pNe_5s, pEq_5t, pNe_5t, pEq_4n, pNe_4n, pEq_4s, pNe_4s, pNot_v, pNeg_v, pCom_v, pConv_v, pConvS_v, pMin_v, pMax_v, pFieldAddr_v, pField1_v, pFieldN_v, pExtract_v, pIdxArr_v, pIdxSl_v, pIdxStr_v, pBounds_00, pBounds_10, pBounds_01, pBounds_11, pSlStr_v, pSlSl_v, pSlArr_v, pLenS_v, pLen_v, pCap_v, pBuild_n, pBuild_c, cells_int, cells_str, cells_bool, cells_ptr, cells_slice, cells_map, cells_agg, oneCell_int, oneCell_str, oneCell_bool, oneCell_ptr, oneCell_slice, oneCell_map, putL_cons, putL_nil, pAnd_pure, pOr_pure, pAnd_pureE, pOr_pureE, pAnd_false, pOr_true, pCond_true, pCond_false, add_mk, bys_mk, bys_size, cond_true, cond_false, decide_true, decide_false, decide_not', dec_and, dec_or, dec_eqt, Bool.not_true, Bool.not_false, Option.isNone_none, Option.isNone_some, Option.map_some, Option.map_none, List.getElem?_toArray, List.getElem?_cons_zero, List.getElem?_cons_succ, List.size_toArray, List.length_cons, List.length_nil, List.length_replicate, List.set_cons_zero, List.set_cons_succ, Nat.reduceAdd, Nat.reduceMul, Nat.reduceSub, Nat.reduceLeDiff, Nat.zero_add, Nat.add_zero, Nat.zero_le, true_and, and_true, not_false_eq_true, ne_eq, Int.reduceNeg, Int.reduceEq, Int.reduceNe, Int.reduceLT, Int.reduceLE, le_refl', List.setIfInBounds_toArray, Nat.reduceLT, Array.size_setIfInBounds, if_true, if_false, reduceCtorEq, List.toArray_toList', List.drop_succ_cons, List.drop_zero, List.take_succ_cons, List.take_zero, List.nil_append, List.append_nil, List.cons_append, Bool.and_true, Bool.true_and, Bool.or_false, Bool.false_or, Bool.and_false, Bool.or_true, Bool.true_or, Bool.false_and, eq_self]
        rw [w64 (by omega) (by omega)]
        refine hS6.idx (n := bs1.length + j) (by simp [hl6]) (by decide) (by omega) (by omega) fun a2 ha2 => ?_
        have hnn := hlen1.2.2 (by omega)
        have hidx : (((bs1.length + j : Nat) : Int) - t.d).toNat = (copyN j bs1 t.d.toNat).length - t.d.toNat := by omega
        refine ha2.load (v := byteV ((copyN j bs1 t.d.toNat).getD ((copyN j bs1 t.d.toNat).length - t.d.toNat) 0)) ?_ ?_
        · rw [hidx, Nat.mul_one, List.getElem?_take, if_pos (by decide), List.getElem?_drop, Nat.add_zero]
          exact map_getD _ _ (by omega)
        refine o6.append1 (n := bs1.length + j) (by decide) rfl rfl rfl (by simp [hl6]) (by omega) fun v7 H7 o7 i7 s7 k7 => ?_
        rw [w64 (by omega) (by omega)]
        have e7 : Ext H H7 := ext_of_own e6 (fun k hk => (hk6 k hk).1) i7 s7
        have hs6 : H2.size < H6.size := lt_of_blk c6
        refine ⟨⟨j + 1, rfl, by omega, ?_, fun k hk => ?_, e7, ?_⟩, by show (_ : Int).toNat < (_ : Int).toNat; omega⟩
        · rw [copyN_end, List.map_append]; exact o7
        · rcases k7 k hk with h' | h'
          · exact hk6 k h'
          · have := e6.size; omega
        · rw [i7 _ hs6 (fun e => (hk6 _ e).2 rfl)]; exact c6
      · have hjn : j = t.n.toNat := by omega
        rw [w64 (by omega) (by omega)]
        rw [expandF, if_pos ⟨hg, hd⟩, ← hbs1, ← hjn] at hex
        have h258 : t.n ≤ 258 := by omega
        refine ⟨⟨i + 1, copyN j bs1 t.d.toNat, rfl, by omega, o6, fun k hk => (hk6 k hk).1, e6, ?_, ?_, hex⟩, by show (_ : Int).toNat < (_ : Int).toNat; omega⟩
        · rw [hl6]
          by_cases hn0 : t.n = 0
          · omega
          · have := hlen1.2.2 hn0; rw [this]; omega
        · rw [hl6]; omega
    · rw [pLoadN_blk c4 (by rfl)]
      refine tokGood_spec fun H5 e5 => ?_
      have c5 := e5.blk c4
      have o5 := o4.ext e5
      have e05 := e4.trans e5
      simp only [pPick_v, pNil_v, pNil_f, pAdd_v, pSub_v, pMul_v, pAdd_s, pQuo_v, pRem_v, pBits_v, pShl_v, pShr_v, pLt_v, pLe_v, pGt_v, pGe_v, pEq_0, pNe_0, pEq_1, pNe_1, pEq_2, pNe_2, pEq_3n, pNe_3n, pEq_3s, pNe_3s, pEq_3t, pNe_3t, pEq_5n, pNe_5n, pEq_5s, pNe_5s, pEq_5t, pNe_5t, pEq_4n, pNe_4n, pEq_4s, pNe_4s, pNot_v, pNeg_v, pCom_v, pConv_v, pConvS_v, pMin_v, pMax_v, pFieldAddr_v, pField1_v, pFieldN_v, pExtract_v, pIdxArr_v, pIdxSl_v, pIdxStr_v, pBounds_00, pBounds_10, pBounds_01, pBounds_11, pSlStr_v, pSlSl_v, pSlArr_v, pLenS_v, pLen_v, pCap_v, pBuild_n, pBuild_c, cells_int, cells_str, cells_bool, cells_ptr, cells_slice, cells_map, cells_agg, oneCell_int, oneCell_str, oneCell_bool, oneCell_ptr, oneCell_slice, oneCell_map, putL_cons, putL_nil, pAnd_pure, pOr_pure, pAnd_pureE, pOr_pureE, pAnd_false, pOr_true, pCond_true, pCond_false, add_mk, bys_mk, bys_size, cond_true, cond_false, decide_true, decide_false, decide_not', dec_and, dec_or, dec_eqt, Bool.not_true, Bool.not_false, Option.isNone_none, Option.isNone_some, Option.map_some, Option.map_none, List.getElem?_toArray, List.getElem?_cons_zero, List.getElem?_cons_succ, List.size_toArray, List.length_cons, List.length_nil, List.length_replicate, List.set_cons_zero, List.set_cons_succ, Nat.reduceAdd, Nat.reduceMul, Nat.reduceSub, Nat.reduceLeDiff, Nat.zero_add, Nat.add_zero, Nat.zero_le, true_and, and_true, not_false_eq_true, ne_eq, Int.reduceNeg, Int.reduceEq, Int.reduceNe, Int.reduceLT, Int.reduceLE, le_refl', List.setIfInBounds_toArray, Nat.reduceLT, Array.size_setIfInBounds, if_true, if_false, reduceCtorEq, List.toArray_toList', List.drop_succ_cons, List.drop_zero, List.take_succ_cons, List.take_zero, List.nil_append, List.append_nil, List.cons_append, Bool.and_true, Bool.true_and, Bool.or_false, Bool.false_or, Bool.and_false, Bool.or_true, Bool.true_or, Bool.false_and, eq_self, pLoad_at c5]
      have hb5 : ∀ k, blkOf bv = some k → H.size ≤ k ∧ k ≠ H2.size := fun k hk => ⟨hbk k hk, hne k hk⟩
      refine pOr_if (d := decide ((bs.length : Int) < t.d)) (fun _ => ?_) ?_
      · refine (o5.sl (by decide)).len (n := bs.length) (by simp) (by decide) ?_
        simp only [pPick_v, pNil_v, pNil_f, pAdd_v, pSub_v, pMul_v, pAdd_s, pQuo_v, pRem_v, pBits_v, pShl_v, pShr_v, pLt_v, pLe_v, pGt_v, pGe_v, pEq_0, pNe_0, pEq_1, pNe_1, pEq_2, pNe_2, pEq_3n, pNe_3n, pEq_3s, pNe_3s, pEq_3t, pNe_3t, pEq_5n, pNe_5n, pEq_5s, pNe_5s, pEq_5t, pNe_5t, pEq_4n, pNe_4n, pEq_4s, pNe_4s, pNot_v, pNeg_v, pCom_v, pConv_v, pConvS_v, pMin_v, pMax_v, pFieldAddr_v, pField1_v, pFieldN_v, pExtract_v, pIdxArr_v, pIdxSl_v, pIdxStr_v, pBounds_00, pBounds_10, pBounds_01, pBounds_11, pSlStr_v, pSlSl_v, pSlArr_v, pLenS_v, pLen_v, pCap_v, pBuild_n, pBuild_c, cells_int, cells_str, cells_bool, cells_ptr, cells_slice, cells_map, cells_agg, oneCell_int, oneCell_str, oneCell_bool, oneCell_ptr, oneCell_slice, oneCell_map, putL_cons, putL_nil, pAnd_pure, pOr_pure, pAnd_pureE, pOr_pureE, pAnd_false, pOr_true, pCond_true, pCond_false, add_mk, bys_mk, bys_size, cond_true, cond_false, decide_true, decide_false, decide_not', dec_and, dec_or, dec_eqt, Bool.not_true, Bool.not_false, Option.isNone_none, Option.isNone_some, Option.map_some, Option.map_none, List.getElem?_toArray, List.getElem?_cons_zero, List.getElem?_cons_succ, List.size_toArray, List.length_cons, List.length_nil, List.length_replicate, List.set_cons_zero, List.set_cons_succ, Nat.reduceAdd, Nat.reduceMul, Nat.reduceSub, Nat.reduceLeDiff, Nat.zero_add, Nat.add_zero, Nat.zero_le, true_and, and_true, not_false_eq_true, ne_eq, Int.reduceNeg, Int.reduceEq, Int.reduceNe, Int.reduceLT, Int.reduceLE, le_refl', List.setIfInBounds_toArray, Nat.reduceLT, Array.size_setIfInBounds, if_true, if_false, reduceCtorEq, List.toArray_toList', List.drop_succ_cons, List.drop_zero, List.take_succ_cons, List.take_zero, List.nil_append, List.append_nil, List.cons_append, Bool.and_true, Bool.true_and, Bool.or_false, Bool.false_or, Bool.and_false, Bool.or_true, Bool.true_or, Bool.false_and, eq_self]
      refine fun _ => pCond_b (fun hg => ?_) (fun hg => ?_)
      · have hno : ¬ (goodK t = true ∧ t.d ≤ (bs.length : Int)) := by
          rintro ⟨h1, h2⟩
          rw [h1] at hg
          simp only [Bool.not_true, Bool.false_or, decide_eq_true_eq] at hg
          omega
        rw [expandF, if_neg hno] at hex
        have h := h _ e05
        rw [expandV, ← hex] at h
        exact h
      · have hg : goodK t = true ∧ t.d ≤ (bs.length : Int) := by
          simp only [Bool.or_eq_false_iff, Bool.not_eq_false', decide_eq_false_iff_not] at hg
          exact ⟨hg.1, by omega⟩
        simp only [pPick_v, pNil_v, pNil_f, pAdd_v, pSub_v, pMul_v, pAdd_s, pQuo_v, pRem_v, pBits_v, pShl_v, pShr_v, pLt_v, pLe_v, pGt_v, pGe_v, pEq_0, pNe_0, pEq_1, pNe_1, pEq_2, pNe_2, pEq_3n, pNe_3n, pEq_3s, pNe_3s, pEq_3t, pNe_3t, pEq_5n, pNe_5n, pEq_5s, pNe_5s, pEq_5t, pNe_5t, pEq_4n, pNe_4n, pEq_4s, pNe_4s, pNot_v, pNeg_v, pCom_v, pConv_v, pConvS_v, pMin_v, pMax_v, pFieldAddr_v, pField1_v, pFieldN_v, pExtract_v, pIdxArr_v, pIdxSl_v, pIdxStr_v, pBounds_00, pBounds_10, pBounds_01, pBounds_11, pSlStr_v, pSlSl_v, pSlArr_v, pLenS_v, pLen_v, pCap_v, pBuild_n, pBuild_c, cells_int, cells_str, cells_bool, cells_ptr, cells_slice, cells_map, cells_agg, oneCell_int, oneCell_str, oneCell_bool, oneCell_ptr, oneCell_slice, oneCell_map, putL_cons, putL_nil, pAnd_pure, pOr_pure, pAnd_pureE, pOr_pureE, pAnd_false, pOr_true, pCond_true, pCond_false, add_mk, bys_mk, bys_size, cond_true, cond_false, decide_true, decide_false, decide_not', dec_and, dec_or, dec_eqt, Bool.not_true, Bool.not_false, Option.isNone_none, Option.isNone_some, Option.map_some, Option.map_none, List.getElem?_toArray, List.getElem?_cons_zero, List.getElem?_cons_succ, List.size_toArray, List.length_cons, List.length_nil, List.length_replicate, List.set_cons_zero, List.set_cons_succ, Nat.reduceAdd, Nat.reduceMul, Nat.reduceSub, Nat.reduceLeDiff, Nat.zero_add, Nat.add_zero, Nat.zero_le, true_and, and_true, not_false_eq_true, ne_eq, Int.reduceNeg, Int.reduceEq, Int.reduceNe, Int.reduceLT, Int.reduceLE, le_refl', List.setIfInBounds_toArray, Nat.reduceLT, Array.size_setIfInBounds, if_true, if_false, reduceCtorEq, List.toArray_toList', List.drop_succ_cons, List.drop_zero, List.take_succ_cons, List.take_zero, List.nil_append, List.append_nil, List.cons_append, Bool.and_true, Bool.true_and, Bool.or_false, Bool.false_or, Bool.and_false, Bool.or_true, Bool.true_or, Bool.false_and, eq_self, pLoad_at c5]
        refine pCond_if (fun hc2 => ?_) (fun hc2 => ?_)
        · refine o5.append1 (n := bs.length) (by decide) rfl rfl rfl (by simp) (by omega) fun v7 H7 o7 i7 s7 k7 => ?_
          refine ⟨bs ++ [t.b], ?_, fun k hk => ?_, ext_of_own e05 hbk i7 s7, ?_, by rw [if_pos hc2], hg.1, hg.2⟩
          · rw [List.map_append]; exact o7
          · rcases k7 k hk with h' | h'
            · exact hb5 k h'
            · have := lt_of_blk c5; have := e05.size; omega
          · rw [i7 _ (lt_of_blk c5) (fun e => (hb5 _ e).2 rfl)]; exact c5
        · exact ⟨bs, o5, hb5, e05, c5, by rw [if_neg hc2], hg.1, hg.2⟩
  · have hil : i = l.length := by omega
    subst hil
    rw [List.drop_length, expandF] at hex
    have h := h _ e2
    rw [expandV, ← hex] at h
    refine (ob.sl (by decide)).cut (by decide) (n := bs.length) (lo := ahead.length) (hi := bs.length) (by simp) hb2 (Nat.le_refl _) (fun v' hv' => ?_) (.inl rfl) (.inr ⟨rfl, rfl⟩)
    refine Sl.str (l := bs.drop ahead.length) ?_ h
    have e : ((List.map byteV bs).drop (ahead.length * 1)).take ((bs.length - ahead.length) * 1) = (bs.drop ahead.length).map byteV := by
      rw [Nat.mul_one, Nat.mul_one, List.map_drop]
      rw [List.take_of_length_le (by simp)]
    rw [e] at hv'
    exact hv'
end Go.Proofs.YtfmbgnchedhneaaDoor
