/- The law LzExpands over heaps. -/
import Derived.Test.YtpnkoniomalcpaaDoorSpeaks05
import Derived.Test.YtpnkoniomalcpaaDoorResB
import Derived.Test.YtpnkoniomalcpaaDoorVcLib
namespace Go.Proofs.YtpnkoniomalcpaaDoor
-- only what is there
open Go Go.Vc Go.Proofs
set_option linter.unusedVariables false
set_option linter.unusedSimpArgs false
variable {H : Heap} {R : Value → Heap → Prop}
def Tok.robj (t : Tok) : Obj := .cells t.cells.toArray 44 (0, 0)
theorem refTokGood_spec {t : Tok} (h : ∀ H', Ext H H' → R (.bool (goodK t)) H') : CallsH Tryd.prog 17 #[t.v] H R := by
  refine lighterref05_Good.vc _ _ _ ?_
  unfold lighterref05_Good.res
  refine pBox_ext fun H1 s1 e1 b1 => ?_
  have b1 : H1[H.size]? = some t.robj := b1
  have h := h H1 e1
  simp only [pPick_v, pNil_v, pNil_f, pAdd_v, pSub_v, pMul_v, pAdd_s, pQuo_v, pRem_v, pBits_v, pShl_v, pShr_v, pLt_v, pLe_v, pGt_v, pGe_v, pEq_0, pNe_0, pEq_1, pNe_1, pEq_2, pNe_2, pEq_3n, pNe_3n, pEq_3s, pNe_3s, pEq_3t, pNe_3t, pEq_5n, pNe_5n, pEq_5s, pNe_5s, pEq_5t, pNe_5t, pEq_4n, pNe_4n, pEq_4s, pNe_4s, pNot_v, pNeg_v, pCom_v, pConv_v, pConvS_v, pMin_v, pMax_v, pFieldAddr_v, pField1_v, pFieldN_v, pExtract_v, pIdxArr_v, pIdxSl_v, pIdxStr_v, pBounds_00, pBounds_10, pBounds_01, pBounds_11, pSlStr_v, pSlSl_v, pSlArr_v, pLenS_v, pLen_v, pCap_v, pBuild_n, pBuild_c, cells_int, cells_str, cells_bool, cells_ptr, cells_slice, cells_map, cells_agg, oneCell_int, oneCell_str, oneCell_bool, oneCell_ptr, oneCell_slice, oneCell_map, putL_cons, putL_nil, pAnd_pure, pOr_pure, pAnd_pureE, pOr_pureE, pAnd_false, pOr_true, pCond_true, pCond_false, add_mk, bys_mk, bys_size, cond_true, cond_false, decide_true, decide_false, decide_not', dec_and, dec_or, dec_eqt, Bool.not_true, Bool.not_false, Option.isNone_none, Option.isNone_some, Option.map_some, Option.map_none, List.getElem?_toArray, List.getElem?_cons_zero, List.getElem?_cons_succ, List.size_toArray, List.length_cons, List.length_nil, List.length_replicate, List.set_cons_zero, List.set_cons_succ, Nat.reduceAdd, Nat.reduceMul, Nat.reduceSub, Nat.reduceLeDiff, Nat.zero_add, Nat.add_zero, Nat.zero_le, true_and, and_true, not_false_eq_true, ne_eq, Int.reduceNeg, Int.reduceEq, Int.reduceNe, Int.reduceLT, Int.reduceLE, le_refl', List.setIfInBounds_toArray, Nat.reduceLT, Array.size_setIfInBounds, if_true, if_false, reduceCtorEq, List.toArray_toList', List.drop_succ_cons, List.drop_zero, List.take_succ_cons, List.take_zero, List.nil_append, List.append_nil, List.cons_append, Bool.and_true, Bool.true_and, Bool.or_false, Bool.false_or, Bool.and_false, Bool.or_true, Bool.true_or, Bool.false_and, eq_self, pLoad_at b1]
  refine pCond_if (fun hc => ?_) (fun hc => ?_)
  · rw [goodK, if_pos hc] at h; exact h
  · rw [goodK, if_neg hc] at h
    intros
    refine bool_to ?_ h
    rw [Bool.eq_iff_iff]
    simp only [decide_eq_true_eq]
    omega
set_option maxHeartbeats 1000000 in
theorem refExpand_spec {ahead : List UInt8} {lv : Value} {l : List Tok} (hS : Sl H lv 3 (toksL l)) (hf : ∀ t ∈ l, t.fits) (hsz : ahead.length + 258 * l.length ≤ 1099511627776)
    (h : ∀ H', Ext H H' → R (expandV ahead l) H') : CallsH Tryd.prog 25 #[str ahead, lv] H R := by
  refine lighterref05_Expand.vc _ _ _ _ ?_
  unfold lighterref05_Expand.res
  refine ⟨fun v u H' => ∃ (i : Nat) (bs : List UInt8), v = str bs ∧ u = .int .i64 i ∧ i ≤ l.length ∧ Ext H H' ∧ bs.length ≤ ahead.length + 258 * i ∧ ahead.length ≤ bs.length ∧ expandF (l.drop i) bs = expandF l ahead,
    fun _ u _ => match u with | .int _ i => (l.length - i).toNat | _ => 0, ⟨0, ahead, rfl, rfl, by omega, Ext.refl _, by omega, by omega, rfl⟩, ?_⟩
  rintro _ _ _ H2 ⟨i, bs, rfl, rfl, hi, e2, hb1, hb2, hex⟩
  refine (hS.ext e2).len (toksL_len l) (by decide) ?_
  simp only [pPick_v, pNil_v, pNil_f, pAdd_v, pSub_v, pMul_v, pAdd_s, pQuo_v, pRem_v, pBits_v, pShl_v, pShr_v, pLt_v, pLe_v, pGt_v, pGe_v, pEq_0, pNe_0, pEq_1, pNe_1, pEq_2, pNe_2, pEq_3n, pNe_3n, pEq_3s, pNe_3s, pEq_3t, pNe_3t, pEq_5n, pNe_5n, pEq_5s, pNe_5s, pEq_5t, pNe_5t, pEq_4n, pNe_4n, pEq_4s, pNe_4s, pNot_v, pNeg_v, pCom_v, pConv_v, pConvS_v, pMin_v, pMax_v, pFieldAddr_v, pField1_v, pFieldN_v, pExtract_v, pIdxArr_v, pIdxSl_v, pIdxStr_v, pBounds_00, pBounds_10, pBounds_01, pBounds_11, pSlStr_v, pSlSl_v, pSlArr_v, pLenS_v, pLen_v, pCap_v, pBuild_n, pBuild_c, cells_int, cells_str, cells_bool, cells_ptr, cells_slice, cells_map, cells_agg, oneCell_int, oneCell_str, oneCell_bool, oneCell_ptr, oneCell_slice, oneCell_map, putL_cons, putL_nil, pAnd_pure, pOr_pure, pAnd_pureE, pOr_pureE, pAnd_false, pOr_true, pCond_true, pCond_false, add_mk, bys_mk, bys_size, cond_true, cond_false, decide_true, decide_false, decide_not', dec_and, dec_or, dec_eqt, Bool.not_true, Bool.not_false, Option.isNone_none, Option.isNone_some, Option.map_some, Option.map_none, List.getElem?_toArray, List.getElem?_cons_zero, List.getElem?_cons_succ, List.size_toArray, List.length_cons, List.length_nil, List.length_replicate, List.set_cons_zero, List.set_cons_succ, Nat.reduceAdd, Nat.reduceMul, Nat.reduceSub, Nat.reduceLeDiff, Nat.zero_add, Nat.add_zero, Nat.zero_le, true_and, and_true, not_false_eq_true, ne_eq, Int.reduceNeg, Int.reduceEq, Int.reduceNe, Int.reduceLT, Int.reduceLE, le_refl', List.setIfInBounds_toArray, Nat.reduceLT, Array.size_setIfInBounds, if_true, if_false, reduceCtorEq, List.toArray_toList', List.drop_succ_cons, List.drop_zero, List.take_succ_cons, List.take_zero, List.nil_append, List.append_nil, List.cons_append, Bool.and_true, Bool.true_and, Bool.or_false, Bool.false_or, Bool.and_false, Bool.or_true, Bool.true_or, Bool.false_and, eq_self]
  refine pCond_if (fun hc => ?_) (fun hc => ?_)
  · have hil : i < l.length := by omega
    obtain ⟨t, ht⟩ : ∃ t, l[i]? = some t := ⟨l[i], List.getElem?_eq_getElem hil⟩
    have hft := hf t (List.mem_of_getElem? ht)
    have hdrop : l.drop i = t :: l.drop (i + 1) := by
      rw [List.drop_eq_getElem_cons hil]
      rw [List.getElem?_eq_getElem hil] at ht
      simp only [Option.some.injEq] at ht
      rw [ht]
    rw [hdrop] at hex
    refine (hS.ext e2).idx (toksL_len l) (by decide) (by omega) (by omega) fun a ha => ?_
    rw [Int.toNat_natCast, toksL_at l i t ht] at ha
    refine ha.loadN rfl ?_
    refine pBox_ext fun H3 s3 e3 c3 => ?_
    refine pStoreN_upd c3 (by rfl) (by rfl) (by rfl) fun H4 s4 u4 => ?_
    have c4 : H4[H2.size]? = some t.robj := u4.at_
    have e4 : Ext H H4 := e2.trans (u4.ext e3 (Nat.le_refl _))
    rw [pLoadN_blk c4 (by rfl)]
    refine refTokGood_spec fun H5 e5 => ?_
    have c5 := e5.blk c4
    have e05 := e4.trans e5
    simp only [pPick_v, pNil_v, pNil_f, pAdd_v, pSub_v, pMul_v, pAdd_s, pQuo_v, pRem_v, pBits_v, pShl_v, pShr_v, pLt_v, pLe_v, pGt_v, pGe_v, pEq_0, pNe_0, pEq_1, pNe_1, pEq_2, pNe_2, pEq_3n, pNe_3n, pEq_3s, pNe_3s, pEq_3t, pNe_3t, pEq_5n, pNe_5n, pEq_5s, pNe_5s, pEq_5t, pNe_5t, pEq_4n, pNe_4n, pEq_4s, pNe_4s, pNot_v, pNeg_v, pCom_v, pConv_v, pConvS_v, pMin_v, pMax_v, pFieldAddr_v, pField1_v, pFieldN_v, pExtract_v, pIdxArr_v, pIdxSl_v, pIdxStr_v, pBounds_00, pBounds_10, pBounds_01, pBounds_11, pSlStr_v, pSlSl_v, pSlArr_v, pLenS_v, pLen_v, pCap_v, pBuild_n, pBuild_c, cells_int, cells_str, cells_bool, cells_ptr, cells_slice, cells_map, cells_agg, oneCell_int, oneCell_str, oneCell_bool, oneCell_ptr, oneCell_slice, oneCell_map, putL_cons, putL_nil, pAnd_pure, pOr_pure, pAnd_pureE, pOr_pureE, pAnd_false, pOr_true, pCond_true, pCond_false, add_mk, bys_mk, bys_size, cond_true, cond_false, decide_true, decide_false, decide_not', dec_and, dec_or, dec_eqt, Bool.not_true, Bool.not_false, Option.isNone_none, Option.isNone_some, Option.map_some, Option.map_none, List.getElem?_toArray, List.getElem?_cons_zero, List.getElem?_cons_succ, List.size_toArray, List.length_cons, List.length_nil, List.length_replicate, List.set_cons_zero, List.set_cons_succ, Nat.reduceAdd, Nat.reduceMul, Nat.reduceSub, Nat.reduceLeDiff, Nat.zero_add, Nat.add_zero, Nat.zero_le, true_and, and_true, not_false_eq_true, ne_eq, Int.reduceNeg, Int.reduceEq, Int.reduceNe, Int.reduceLT, Int.reduceLE, le_refl', List.setIfInBounds_toArray, Nat.reduceLT, Array.size_setIfInBounds, if_true, if_false, reduceCtorEq, List.toArray_toList', List.drop_succ_cons, List.drop_zero, List.take_succ_cons, List.take_zero, List.nil_append, List.append_nil, List.cons_append, Bool.and_true, Bool.true_and, Bool.or_false, Bool.false_or, Bool.and_false, Bool.or_true, Bool.true_or, Bool.false_and, eq_self, pLoad_at c5]
    refine fun _ => pCond_b (fun hg => ?_) (fun hg => ?_)
    · have hno : ¬ (goodK t = true ∧ t.d ≤ (bs.length : Int)) := by
        rintro ⟨h1, h2⟩
        rw [h1] at hg
        simp only [Bool.not_true, Bool.false_or, decide_eq_true_eq] at hg
        omega
      rw [expandF, if_neg hno] at hex
      have h := h _ e05
      rw [expandV, ← hex] at h
      exact h
    · have hg : goodK t = true ∧ t.d ≤ (bs.length : Int) := by
        simp only [Bool.or_eq_false_iff, Bool.not_eq_false', decide_eq_false_iff_not] at hg
        exact ⟨hg.1, by omega⟩
      refine ⟨fun v H' => ∃ bs1 : List UInt8, v = str bs1 ∧ Ext H H' ∧ H'[H2.size]? = some t.robj ∧ bs1 = (if t.n = 0 then bs ++ [t.b] else bs), ?_, ?_⟩
      · rintro _ _ H6 ⟨bs1, rfl, e6, c6, hbs1⟩
        have hgf := goodK_facts hg.1
        have hlen1 : bs.length ≤ bs1.length ∧ bs1.length ≤ bs.length + 1 ∧ (t.n ≠ 0 → bs1 = bs) := by
          rw [hbs1]; split
          · exact ⟨by simp, by simp, fun h => by contradiction⟩
          · exact ⟨by simp, by simp, fun _ => rfl⟩
        refine ⟨fun v u H' => ∃ j : Nat, v = str (copyN j bs1 t.d.toNat) ∧ u = .int .i64 j ∧ j ≤ t.n ∧ H6 = H',
          fun _ u _ => match u with | .int _ i => (t.n - i).toNat | _ => 0, ⟨0, rfl, rfl, by omega, rfl⟩, ?_⟩
        rintro _ _ _ _ ⟨j, rfl, rfl, hj, rfl⟩
        have hl6 := copyN_len j bs1 t.d.toNat
        have hend := copyN_end j bs1 t.d.toNat
        simp only [pPick_v, pNil_v, pNil_f, pAdd_v, pSub_v, pMul_v, pAdd_s, pQuo_v, pRem_v, pBits_v, pShl_v, pShr_v, pLt_v, pLe_v, pGt_v, pGe_v, pEq_0, pNe_0, pEq_1, pNe_1, pEq_2, pNe_2, pEq_3n, pNe_3n, pEq_3s, pNe_3s, pEq_3t, pNe_3t, pEq_5n, pNe_5n, pEq_5s, pNe_5s, pEq_5t, pNe_5t, pEq_4n, pNe_4n, pEq_4s, pNe_4s, pNot_v, pNeg_v, pCom_v, pConv_v, pConvS_v, pMin_v, pMax_v, pFieldAddr_v, pField1_v, pFieldN_v, pExtract_v, pIdxArr_v, pIdxSl_v, pIdxStr_v, pBounds_00, pBounds_10, pBounds_01, pBounds_11, pSlStr_v, pSlSl_v, pSlArr_v, pLenS_v, pLen_v, pCap_v, pBuild_n, pBuild_c, cells_int, cells_str, cells_bool, cells_ptr, cells_slice, cells_map, cells_agg, oneCell_int, oneCell_str, oneCell_bool, oneCell_ptr, oneCell_slice, oneCell_map, putL_cons, putL_nil, pAnd_pure, pOr_pure, pAnd_pureE, pOr_pureE, pAnd_false, pOr_true, pCond_true, pCond_false, add_mk, bys_mk, bys_size, cond_true, cond_false, decide_true, decide_false, decide_not', dec_and, dec_or, dec_eqt, Bool.not_true, Bool.not_false, Option.isNone_none, Option.isNone_some, Option.map_some, Option.map_none, List.getElem?_toArray, List.getElem?_cons_zero, List.getElem?_cons_succ, List.size_toArray, List.length_cons, List.length_nil, List.length_replicate, List.set_cons_zero, List.set_cons_succ, Nat.reduceAdd, Nat.reduceMul, Nat.reduceSub, Nat.reduceLeDiff, Nat.zero_add, Nat.add_zero, Nat.zero_le, true_and, and_true, not_false_eq_true, ne_eq, Int.reduceNeg, Int.reduceEq, Int.reduceNe, Int.reduceLT, Int.reduceLE, le_refl', List.setIfInBounds_toArray, Nat.reduceLT, Array.size_setIfInBounds, if_true, if_false, reduceCtorEq, List.toArray_toList', List.drop_succ_cons, List.drop_zero, List.take_succ_cons, List.take_zero, List.nil_append, List.append_nil, List.cons_append, Bool.and_true, Bool.true_and, Bool.or_false, Bool.false_or, Bool.and_false, Bool.or_true, Bool.true_or, Bool.false_and, eq_self, pLoad_at c6]
        refine pCond_if (fun hc2 => ?_) (fun hc2 => ?_)
        · have hnn := hlen1.2.2 (by omega)
          rw [w64 (n := ((copyN j bs1 t.d.toNat).length : Int) - t.d) (by omega) (by omega), w64 (n := ((copyN j bs1 t.d.toNat).length : Int) - t.d + 1) (by omega) (by omega), w64 (n := (j : Int) + 1) (by omega) (by omega)]
          generalize hC : copyN j bs1 t.d.toNat = C at *
          refine ⟨by omega, by omega, by omega, by omega, ?_⟩
          have hw : (List.drop ((C.length : Int) - t.d).toNat C).take (((C.length : Int) - t.d + 1).toNat - ((C.length : Int) - t.d).toNat) = [C.getD (C.length - t.d.toNat) 0] := by
            have hlt : ((C.length : Int) - t.d).toNat < C.length := by omega
            rw [show ((C.length : Int) - t.d + 1).toNat - ((C.length : Int) - t.d).toNat = 1 by omega, List.drop_eq_getElem_cons hlt, List.take_succ_cons, List.take_zero,
              List.getD_eq_getElem?_getD, show C.length - t.d.toNat = ((C.length : Int) - t.d).toNat by omega, List.getElem?_eq_getElem hlt, Option.getD_some]
          rw [hw]
          refine ⟨by rw [List.length_singleton]; omega, ?_⟩
          exact ⟨⟨j + 1, by rw [hend], rfl, by omega⟩, by show (_ : Int).toNat < (_ : Int).toNat; omega⟩
        · have hjn : j = t.n.toNat := by omega
          rw [w64 (by omega) (by omega)]
          rw [expandF, if_pos hg, ← hbs1, ← hjn] at hex
          refine ⟨⟨i + 1, copyN j bs1 t.d.toNat, rfl, rfl, by omega, e6, ?_, ?_, hex⟩, by show (_ : Int).toNat < (_ : Int).toNat; omega⟩
          · rw [hl6]
            by_cases hn0 : t.n = 0
            · omega
            · have := hlen1.2.2 hn0; rw [this]; omega
          · rw [hl6]; omega
      · simp only [pPick_v, pNil_v, pNil_f, pAdd_v, pSub_v, pMul_v, pAdd_s, pQuo_v, pRem_v, pBits_v, pShl_v, pShr_v, pLt_v, pLe_v, pGt_v, pGe_v, pEq_0, pNe_0, pEq_1, pNe_1, pEq_2, pNe_2, pEq_3n, pNe_3n, pEq_3s, pNe_3s, pEq_3t, pNe_3t, pEq_5n, pNe_5n, pEq_5s, pNe_5s, pEq_5t, pNe_5t, pEq_4n, pNe_4n, pEq_4s, pNe_4s, pNot_v, pNeg_v, pCom_v, pConv_v, pConvS_v, pMin_v, pMax_v, pFieldAddr_v, pField1_v, pFieldN_v, pExtract_v, pIdxArr_v, pIdxSl_v, pIdxStr_v, pBounds_00, pBounds_10, pBounds_01, pBounds_11, pSlStr_v, pSlSl_v, pSlArr_v, pLenS_v, pLen_v, pCap_v, pBuild_n, pBuild_c, cells_int, cells_str, cells_bool, cells_ptr, cells_slice, cells_map, cells_agg, oneCell_int, oneCell_str, oneCell_bool, oneCell_ptr, oneCell_slice, oneCell_map, putL_cons, putL_nil, pAnd_pure, pOr_pure, pAnd_pureE, pOr_pureE, pAnd_false, pOr_true, pCond_true, pCond_false, add_mk, bys_mk, bys_size, cond_true, cond_false, decide_true, decide_false, decide_not', dec_and, dec_or, dec_eqt, Bool.not_true, Bool.not_false, Option.isNone_none, Option.isNone_some, Option.map_some, Option.map_none, List.getElem?_toArray, List.getElem?_cons_zero, List.getElem?_cons_succ, List.size_toArray, List.length_cons, List.length_nil, List.length_replicate, List.set_cons_zero, List.set_cons_succ, Nat.reduceAdd, Nat.reduceMul, Nat.reduceSub, Nat.reduceLeDiff, Nat.zero_add, Nat.add_zero, Nat.zero_le, true_and, and_true, not_false_eq_true, ne_eq, Int.reduceNeg, Int.reduceEq, Int.reduceNe, Int.reduceLT, Int.reduceLE, le_refl', List.setIfInBounds_toArray, Nat.reduceLT, Array.size_setIfInBounds, if_true, if_false, reduceCtorEq, List.toArray_toList', List.drop_succ_cons, List.drop_zero, List.take_succ_cons, List.take_zero, List.nil_append, List.append_nil, List.cons_append, Bool.and_true, Bool.true_and, Bool.or_false, Bool.false_or, Bool.and_false, Bool.or_true, Bool.true_or, Bool.false_and, eq_self, pLoad_at c5]
        refine pCond_if (fun hc2 => ?_) (fun hc2 => ?_)
        · refine own_build1 rfl rfl fun y H6 hy e6 _ => ?_
          refine Sl.str (l := [t.b]) hy ?_
          simp only [pPick_v, pNil_v, pNil_f, pAdd_v, pSub_v, pMul_v, pAdd_s, pQuo_v, pRem_v, pBits_v, pShl_v, pShr_v, pLt_v, pLe_v, pGt_v, pGe_v, pEq_0, pNe_0, pEq_1, pNe_1, pEq_2, pNe_2, pEq_3n, pNe_3n, pEq_3s, pNe_3s, pEq_3t, pNe_3t, pEq_5n, pNe_5n, pEq_5s, pNe_5s, pEq_5t, pNe_5t, pEq_4n, pNe_4n, pEq_4s, pNe_4s, pNot_v, pNeg_v, pCom_v, pConv_v, pConvS_v, pMin_v, pMax_v, pFieldAddr_v, pField1_v, pFieldN_v, pExtract_v, pIdxArr_v, pIdxSl_v, pIdxStr_v, pBounds_00, pBounds_10, pBounds_01, pBounds_11, pSlStr_v, pSlSl_v, pSlArr_v, pLenS_v, pLen_v, pCap_v, pBuild_n, pBuild_c, cells_int, cells_str, cells_bool, cells_ptr, cells_slice, cells_map, cells_agg, oneCell_int, oneCell_str, oneCell_bool, oneCell_ptr, oneCell_slice, oneCell_map, putL_cons, putL_nil, pAnd_pure, pOr_pure, pAnd_pureE, pOr_pureE, pAnd_false, pOr_true, pCond_true, pCond_false, add_mk, bys_mk, bys_size, cond_true, cond_false, decide_true, decide_false, decide_not', dec_and, dec_or, dec_eqt, Bool.not_true, Bool.not_false, Option.isNone_none, Option.isNone_some, Option.map_some, Option.map_none, List.getElem?_toArray, List.getElem?_cons_zero, List.getElem?_cons_succ, List.size_toArray, List.length_cons, List.length_nil, List.length_replicate, List.set_cons_zero, List.set_cons_succ, Nat.reduceAdd, Nat.reduceMul, Nat.reduceSub, Nat.reduceLeDiff, Nat.zero_add, Nat.add_zero, Nat.zero_le, true_and, and_true, not_false_eq_true, ne_eq, Int.reduceNeg, Int.reduceEq, Int.reduceNe, Int.reduceLT, Int.reduceLE, le_refl', List.setIfInBounds_toArray, Nat.reduceLT, Array.size_setIfInBounds, if_true, if_false, reduceCtorEq, List.toArray_toList', List.drop_succ_cons, List.drop_zero, List.take_succ_cons, List.take_zero, List.nil_append, List.append_nil, List.cons_append, Bool.and_true, Bool.true_and, Bool.or_false, Bool.false_or, Bool.and_false, Bool.or_true, Bool.true_or, Bool.false_and, eq_self]
          refine ⟨by omega, ?_⟩
          exact ⟨bs ++ [t.b], rfl, e05.trans e6, e6.blk c5, by rw [if_pos hc2]⟩
        · exact ⟨bs, rfl, e05, c5, by rw [if_neg hc2]⟩
  · have hil : i = l.length := by omega
    subst hil
    rw [List.drop_length, expandF] at hex
    have h := h _ e2
    rw [expandV, ← hex] at h
    refine ⟨by omega, by omega, ?_⟩
    rw [Int.toNat_natCast, List.take_of_length_le (by rw [List.length_drop]; omega)]
    exact h
theorem toks_of : ∀ L : List (List Value), (∀ r ∈ L, r.length = 3) → (∀ r ∈ L, FitAll [.int .u8, .int .i64, .int .i64] fun j => r[j]?) → ∃ T : List Tok, T.length = L.length ∧ toksL T = L.flatten ∧ ∀ t ∈ T, t.fits
  | [], _, _ => ⟨[], rfl, rfl, by simp⟩
  | r :: L, h1, h2 => by
    obtain ⟨T, h3, h4, h5⟩ := toks_of L (fun r hr => h1 r (by simp [hr])) (fun r hr => h2 r (by simp [hr]))
    have hl := h1 r (by simp)
    have hf := h2 r (by simp)
    match r, hl with
    | [a, b, c], _ =>
      obtain ⟨_, g0, x0, rfl, k0⟩ := hf 0 _ rfl
      obtain ⟨_, g1, x1, rfl, k1⟩ := hf 1 _ rfl
      obtain ⟨_, g2, x2, rfl, k2⟩ := hf 2 _ rfl
      simp at g0 g1 g2
      subst g0 g1 g2
      have hx := wfu8 k0
      have hb := wf64 k1
      have hc := wf64 k2
      refine ⟨⟨UInt8.ofNat x0.toNat, x1, x2⟩ :: T, by simp [h3], ?_, ?_⟩
      · rw [List.flatten_cons, ← h4]
        show _ ++ toksL T = _
        congr 1
        simp only [Tok.cells, List.cons.injEq, Value.int.injEq, true_and, and_true]
        rw [UInt8.toNat_ofNat_of_lt' (by show x0.toNat < 256; omega)]
        omega
      · intro t ht
        rcases List.mem_cons.1 ht with rfl | ht
        · exact ⟨hb.1, hb.2, hc.1, hc.2⟩
        · exact h5 t ht
theorem toksL_take (T : List Tok) (i : Nat) (t : Tok) (h : T[i]? = some t) : toksL (T.take (i + 1)) = toksL (T.take i) ++ t.cells := by
  rw [List.take_add_one, h]
  simp [toksL]
end Go.Proofs.YtpnkoniomalcpaaDoor
