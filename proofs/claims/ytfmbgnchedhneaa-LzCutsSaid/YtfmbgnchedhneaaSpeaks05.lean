/- The laws' own first test, layer 5. -/
import Derived.Test.YtfmbgnchedhneaaLzNum
namespace Go.Proofs.Ytfmbgnchedhneaa
open Go Go.Vc Go.Proofs
set_option linter.unusedVariables false
set_option linter.unusedSimpArgs false
variable {H : Heap} {R : Value → Heap → Prop}
theorem pEqA_ex {a b c a' b' c' : Int} {K : Value → Prop} : pEqA [0, 0, 0] (exv a b c) (exv a' b' c') K = K (.bool (decide (a = a' ∧ b = b' ∧ c = c'))) := by
  have e : decide (a = a' ∧ b = b' ∧ c = c') = (decide (a = a') && (decide (b = b') && (decide (c = c') && true))) := by
    rw [Bool.eq_iff_iff]
    simp
  simp only [pEqA, eqCells, eqK, if_true, e]
theorem pNeA_ex {a b c a' b' c' : Int} {K : Value → Prop} : pNeA [0, 0, 0] (exv a b c) (exv a' b' c') K = K (.bool (!decide (a = a' ∧ b = b' ∧ c = c'))) := by
  have e : decide (a = a' ∧ b = b' ∧ c = c') = (decide (a = a') && (decide (b = b') && (decide (c = c') && true))) := by
    rw [Bool.eq_iff_iff]
    simp
  simp only [pNeA, eqCells, eqK, if_true, e]
theorem sl_new {H : Heap} {t : TypeId} {sz : Nat} {l : List Value} {n : Nat} (hl : l.length = n * sz) : Sl (H.push (.cells l.toArray t)) (.slice (some ⟨H.size, 0, none⟩) n n) sz l :=
  .inr ⟨_, n, n, rfl, hl, Nat.le_refl _, fun i v hv => by rw [add_mk, Nat.zero_add, cellAt_blk get_push_self, List.getElem?_toArray]; exact hv⟩
theorem lenX_258 : lenX 258 = exv 285 0 0 := by
  rw [lenX, if_neg (by decide), show symL 258 = 285 by decide +kernel, show lenOf 285 = (258, 0) by decide +kernel]
  rfl
theorem distX_6 : distX 6 = exv 4 1 1 := by
  rw [distX, if_neg (by decide), show symD 6 = 4 by decide +kernel, show distOf 4 = (5, 1) by decide +kernel]
  rfl
theorem speaks05_spec (h : ∀ H', Ext H H' → R (.bool true) H') : CallsH Try.prog 4 #[] H R := by
  refine lighterlaw05_speaks.vc _ _ ?_
  unfold lighterlaw05_speaks.res pBuildSl
  simp only [pPick_v, pNil_v, pNil_f, pAdd_v, pSub_v, pMul_v, pAdd_s, pQuo_v, pRem_v, pBits_v, pShl_v, pShr_v, pLt_v, pLe_v, pGt_v, pGe_v, pEq_0, pNe_0, pEq_1, pNe_1, pEq_2, pNe_2, pEq_3n, pNe_3n, pEq_3s, pNe_3s, pEq_3t, pNe_3t, pEq_5n, pNe_5n, pEq_5s, pNe_5s, pEq_5t, pNe_5t, pEq_4n, pNe_4n, pEq_4s, pNe_4s, pNot_v, pNeg_v, pCom_v, pConv_v, pConvS_v, pMin_v, pMax_v, pFieldAddr_v, pField1_v, pFieldN_v, pExtract_v, pIdxArr_v, pIdxSl_v, pIdxStr_v, pBounds_00, pBounds_10, pBounds_01, pBounds_11, pSlStr_v, pSlSl_v, pSlArr_v, pLenS_v, pLen_v, pCap_v, pBuild_n, pBuild_c, cells_int, cells_str, cells_bool, cells_ptr, cells_slice, cells_map, cells_agg, oneCell_int, oneCell_str, oneCell_bool, oneCell_ptr, oneCell_slice, oneCell_map, putL_cons, putL_nil, pAnd_pure, pOr_pure, pAnd_pureE, pOr_pureE, pAnd_false, pOr_true, pCond_true, pCond_false, add_mk, bys_mk, bys_size, cond_true, cond_false, decide_true, decide_false, decide_not', dec_and, dec_or, dec_eqt, Bool.not_true, Bool.not_false, Option.isNone_none, Option.isNone_some, Option.map_some, Option.map_none, List.getElem?_toArray, List.getElem?_cons_zero, List.getElem?_cons_succ, List.size_toArray, List.length_cons, List.length_nil, List.length_replicate, List.set_cons_zero, List.set_cons_succ, Nat.reduceAdd, Nat.reduceMul, Nat.reduceSub, Nat.reduceLeDiff, Nat.zero_add, Nat.add_zero, Nat.zero_le, true_and, and_true, not_false_eq_true, ne_eq, Int.reduceNeg, Int.reduceEq, Int.reduceNe, Int.reduceLT, Int.reduceLE, le_refl', List.setIfInBounds_toArray, Nat.reduceLT, Array.size_setIfInBounds, if_true, if_false, reduceCtorEq, List.toArray_toList', List.drop_succ_cons, List.drop_zero, List.take_succ_cons, List.take_zero, List.nil_append, List.append_nil, List.cons_append, Bool.and_true, Bool.true_and, Bool.or_false, Bool.false_or, Bool.and_false, Bool.or_true, Bool.true_or, Bool.false_and, eq_self]
  refine expand_spec (l := [⟨0, 3, 2⟩]) (sl_new (by rfl)) (by intro t ht; simp at ht; subst ht; unfold Tok.fits; decide) (by decide) fun H1 e1 => ?_
  rw [show expandV [97, 98] [⟨0, 3, 2⟩] = .tuple #[str [97, 98, 97], .bool true] from rfl]
  simp only [pPick_v, pNil_v, pNil_f, pAdd_v, pSub_v, pMul_v, pAdd_s, pQuo_v, pRem_v, pBits_v, pShl_v, pShr_v, pLt_v, pLe_v, pGt_v, pGe_v, pEq_0, pNe_0, pEq_1, pNe_1, pEq_2, pNe_2, pEq_3n, pNe_3n, pEq_3s, pNe_3s, pEq_3t, pNe_3t, pEq_5n, pNe_5n, pEq_5s, pNe_5s, pEq_5t, pNe_5t, pEq_4n, pNe_4n, pEq_4s, pNe_4s, pNot_v, pNeg_v, pCom_v, pConv_v, pConvS_v, pMin_v, pMax_v, pFieldAddr_v, pField1_v, pFieldN_v, pExtract_v, pIdxArr_v, pIdxSl_v, pIdxStr_v, pBounds_00, pBounds_10, pBounds_01, pBounds_11, pSlStr_v, pSlSl_v, pSlArr_v, pLenS_v, pLen_v, pCap_v, pBuild_n, pBuild_c, cells_int, cells_str, cells_bool, cells_ptr, cells_slice, cells_map, cells_agg, oneCell_int, oneCell_str, oneCell_bool, oneCell_ptr, oneCell_slice, oneCell_map, putL_cons, putL_nil, pAnd_pure, pOr_pure, pAnd_pureE, pOr_pureE, pAnd_false, pOr_true, pCond_true, pCond_false, add_mk, bys_mk, bys_size, cond_true, cond_false, decide_true, decide_false, decide_not', dec_and, dec_or, dec_eqt, Bool.not_true, Bool.not_false, Option.isNone_none, Option.isNone_some, Option.map_some, Option.map_none, List.getElem?_toArray, List.getElem?_cons_zero, List.getElem?_cons_succ, List.size_toArray, List.length_cons, List.length_nil, List.length_replicate, List.set_cons_zero, List.set_cons_succ, Nat.reduceAdd, Nat.reduceMul, Nat.reduceSub, Nat.reduceLeDiff, Nat.zero_add, Nat.add_zero, Nat.zero_le, true_and, and_true, not_false_eq_true, ne_eq, Int.reduceNeg, Int.reduceEq, Int.reduceNe, Int.reduceLT, Int.reduceLE, le_refl', List.setIfInBounds_toArray, Nat.reduceLT, Array.size_setIfInBounds, if_true, if_false, reduceCtorEq, List.toArray_toList', List.drop_succ_cons, List.drop_zero, List.take_succ_cons, List.take_zero, List.nil_append, List.append_nil, List.cons_append, Bool.and_true, Bool.true_and, Bool.or_false, Bool.false_or, Bool.and_false, Bool.or_true, Bool.true_or, Bool.false_and, eq_self]
  have x1 := (Ext.refl H).push.trans e1
  refine fun _ => pAnd_true ?_
  refine length_spec fun H2 e2 => ?_
  rw [lenX_258]
  refine (pEqA_ex (a := 285) (b := 0) (c := 0) (a' := 285) (b' := 0) (c' := 0)).mpr ?_
  rw [decide_eq_true (by decide)]
  refine fun _ => pAnd_true ?_
  refine dist_spec fun H3 e3 => ?_
  rw [distX_6]
  refine (pEqA_ex (a := 4) (b := 1) (c := 1) (a' := 4) (b' := 1) (c' := 1)).mpr ?_
  rw [decide_eq_true (by decide)]
  exact fun _ => h _ (x1.trans (e2.trans e3))
end Go.Proofs.Ytfmbgnchedhneaa
