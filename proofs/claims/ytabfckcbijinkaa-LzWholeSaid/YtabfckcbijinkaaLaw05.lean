/- The law LzWhole over heaps. -/
import Derived.Test.YtabfckcbijinkaaLzNum
namespace Go.Proofs.Ytabfckcbijinkaa
open Go Go.Vc Go.Proofs
set_option linter.unusedVariables false
set_option linter.unusedSimpArgs false
variable {H : Heap} {R : Value → Heap → Prop}
theorem pEqA_ex {a b c a' b' c' : Int} {K : Value → Prop} : pEqA [0, 0, 0] (exv a b c) (exv a' b' c') K = K (.bool (decide (a = a' ∧ b = b' ∧ c = c'))) := by
  have e : decide (a = a' ∧ b = b' ∧ c = c') = (decide (a = a') && (decide (b = b') && (decide (c = c') && true))) := by
    rw [Bool.eq_iff_iff]
    simp
  simp only [pEqA, eqCells, eqK, if_true, e]
theorem pNeA_ex {a b c a' b' c' : Int} {K : Value → Prop} : pNeA [0, 0, 0] (exv a b c) (exv a' b' c') K = K (.bool (!decide (a = a' ∧ b = b' ∧ c = c'))) := by
  have e : decide (a = a' ∧ b = b' ∧ c = c') = (decide (a = a') && (decide (b = b') && (decide (c = c') && true))) := by
    rw [Bool.eq_iff_iff]
    simp
  simp only [pNeA, eqCells, eqK, if_true, e]
theorem sl_new {H : Heap} {t : TypeId} {sz : Nat} {l : List Value} {n : Nat} (hl : l.length = n * sz) : Sl (H.push (.cells l.toArray t)) (.slice (some ⟨H.size, 0, none⟩) n n) sz l :=
  .inr ⟨_, n, n, rfl, hl, Nat.le_refl _, fun i v hv => by rw [add_mk, Nat.zero_add, cellAt_blk get_push_self, List.getElem?_toArray]; exact hv⟩
theorem lenX_258 : lenX 258 = exv 285 0 0 := by
  rw [lenX, if_neg (by decide), show symL 258 = 285 by decide +kernel, show lenOf 285 = (258, 0) by decide +kernel]
  rfl
theorem distX_6 : distX 6 = exv 4 1 1 := by
  rw [distX, if_neg (by decide), show symD 6 = 4 by decide +kernel, show distOf 4 = (5, 1) by decide +kernel]
  rfl
theorem speaks05_spec (h : ∀ H', Ext H H' → R (.bool true) H') : CallsH Try.prog 15 #[] H R := by
  refine lighterlaw05_speaks.vc _ _ ?_
  unfold lighterlaw05_speaks.res pBuildSl
  simp only [pPick_v, pNil_v, pNil_f, pAdd_v, pSub_v, pMul_v, pAdd_s, pQuo_v, pRem_v, pBits_v, pShl_v, pShr_v, pLt_v, pLe_v, pGt_v, pGe_v, pEq_0, pNe_0, pEq_1, pNe_1, pEq_2, pNe_2, pEq_3n, pNe_3n, pEq_3s, pNe_3s, pEq_3t, pNe_3t, pEq_5n, pNe_5n, pEq_5s, pNe_5s, pEq_5t, pNe_5t, pEq_4n, pNe_4n, pEq_4s, pNe_4s, pNot_v, pNeg_v, pCom_v, pConv_v, pConvS_v, pMin_v, pMax_v, pFieldAddr_v, pField1_v, pFieldN_v, pExtract_v, pIdxArr_v, pIdxSl_v, pIdxStr_v, pBounds_00, pBounds_10, pBounds_01, pBounds_11, pSlStr_v, pSlSl_v, pSlArr_v, pLenS_v, pLen_v, pCap_v, pBuild_n, pBuild_c, cells_int, cells_str, cells_bool, cells_ptr, cells_slice, cells_map, cells_agg, oneCell_int, oneCell_str, oneCell_bool, oneCell_ptr, oneCell_slice, oneCell_map, putL_cons, putL_nil, pAnd_pure, pOr_pure, pAnd_pureE, pOr_pureE, pAnd_false, pOr_true, pCond_true, pCond_false, add_mk, bys_mk, bys_size, cond_true, cond_false, decide_true, decide_false, decide_not', dec_and, dec_or, dec_eqt, Bool.not_true, Bool.not_false, Option.isNone_none, Option.isNone_some, Option.map_some, Option.map_none, List.getElem?_toArray, List.getElem?_cons_zero, List.getElem?_cons_succ, List.size_toArray, List.length_cons, List.length_nil, List.length_replicate, List.set_cons_zero, List.set_cons_succ, Nat.reduceAdd, Nat.reduceMul, Nat.reduceSub, Nat.reduceLeDiff, Nat.zero_add, Nat.add_zero, Nat.zero_le, true_and, and_true, not_false_eq_true, ne_eq, Int.reduceNeg, Int.reduceEq, Int.reduceNe, Int.reduceLT, Int.reduceLE, le_refl', List.setIfInBounds_toArray, Nat.reduceLT, Array.size_setIfInBounds, if_true, if_false, reduceCtorEq, List.toArray_toList', List.drop_succ_cons, List.drop_zero, List.take_succ_cons, List.take_zero, List.nil_append, List.append_nil, List.cons_append, Bool.and_true, Bool.true_and, Bool.or_false, Bool.false_or, Bool.and_false, Bool.or_true, Bool.true_or, Bool.false_and, eq_self]
  refine expand_spec (l := [⟨0, 3, 2⟩]) (sl_new (by rfl)) (by intro t ht; simp at ht; subst ht; unfold Tok.fits; decide) (by decide) fun H1 e1 => ?_
  rw [show expandV [97, 98] [⟨0, 3, 2⟩] = .tuple #[str [97, 98, 97], .bool true] from rfl]
  simp only [pPick_v, pNil_v, pNil_f, pAdd_v, pSub_v, pMul_v, pAdd_s, pQuo_v, pRem_v, pBits_v, pShl_v, pShr_v, pLt_v, pLe_v, pGt_v, pGe_v, pEq_0, pNe_0, pEq_1, pNe_1, pEq_2, pNe_2, pEq_3n, pNe_3n, pEq_3s, pNe_3s, pEq_3t, pNe_3t, pEq_5n, pNe_5n, pEq_5s, pNe_5s, pEq_5t, pNe_5t, pEq_4n, pNe_4n, pEq_4s, pNe_4s, pNot_v, pNeg_v, pCom_v, pConv_v, pConvS_v, pMin_v, pMax_v, pFieldAddr_v, pField1_v, pFieldN_v, pExtract_v, pIdxArr_v, pIdxSl_v, pIdxStr_v, pBounds_00, pBounds_10, pBounds_01, pBounds_11, pSlStr_v, pSlSl_v, pSlArr_v, pLenS_v, pLen_v, pCap_v, pBuild_n, pBuild_c, cells_int, cells_str, cells_bool, cells_ptr, cells_slice, cells_map, cells_agg, oneCell_int, oneCell_str, oneCell_bool, oneCell_ptr, oneCell_slice, oneCell_map, putL_cons, putL_nil, pAnd_pure, pOr_pure, pAnd_pureE, pOr_pureE, pAnd_false, pOr_true, pCond_true, pCond_false, add_mk, bys_mk, bys_size, cond_true, cond_false, decide_true, decide_false, decide_not', dec_and, dec_or, dec_eqt, Bool.not_true, Bool.not_false, Option.isNone_none, Option.isNone_some, Option.map_some, Option.map_none, List.getElem?_toArray, List.getElem?_cons_zero, List.getElem?_cons_succ, List.size_toArray, List.length_cons, List.length_nil, List.length_replicate, List.set_cons_zero, List.set_cons_succ, Nat.reduceAdd, Nat.reduceMul, Nat.reduceSub, Nat.reduceLeDiff, Nat.zero_add, Nat.add_zero, Nat.zero_le, true_and, and_true, not_false_eq_true, ne_eq, Int.reduceNeg, Int.reduceEq, Int.reduceNe, Int.reduceLT, Int.reduceLE, le_refl', List.setIfInBounds_toArray, Nat.reduceLT, Array.size_setIfInBounds, if_true, if_false, reduceCtorEq, List.toArray_toList', List.drop_succ_cons, List.drop_zero, List.take_succ_cons, List.take_zero, List.nil_append, List.append_nil, List.cons_append, Bool.and_true, Bool.true_and, Bool.or_false, Bool.false_or, Bool.and_false, Bool.or_true, Bool.true_or, Bool.false_and, eq_self]
  have x1 := (Ext.refl H).push.trans e1
  refine fun _ => pAnd_true ?_
  refine length_spec fun H2 e2 => ?_
  rw [lenX_258]
  refine (pEqA_ex (a := 285) (b := 0) (c := 0) (a' := 285) (b' := 0) (c' := 0)).mpr ?_
  rw [decide_eq_true (by decide)]
  refine fun _ => pAnd_true ?_
  refine dist_spec fun H3 e3 => ?_
  rw [distX_6]
  refine (pEqA_ex (a := 4) (b := 1) (c := 1) (a' := 4) (b' := 1) (c' := 1)).mpr ?_
  rw [decide_eq_true (by decide)]
  exact fun _ => h _ (x1.trans (e2.trans e3))
theorem pow_le {b : Int} {k : Nat} (h : b ≤ k) (hb : 0 ≤ b) : (1 : Int) ≤ 2 ^ b.toNat ∧ (2 : Int) ^ b.toNat ≤ 2 ^ k := by
  have h0 : (0 : Int) < 2 ^ b.toNat := Int.pow_pos (by decide)
  have : (2 : Nat) ^ b.toNat ≤ 2 ^ k := Nat.pow_le_pow_right (by decide) (by omega)
  exact ⟨by omega, by exact_mod_cast this⟩
theorem fdiv_small {v p : Int} (h0 : 0 ≤ v) (h1 : v < p) : v.fdiv p = 0 := by
  rw [Int.fdiv_eq_ediv_of_nonneg _ (by omega)]
  exact Int.ediv_eq_zero_of_lt h0 h1
theorem LzWhole_law (n : Int) (w0 : (Lit.int .i64 n).wf = true) : CallsH Try.prog 6 #[.int .i64 n] H (LawOk H) := by
  refine lighterlaw05_LzWhole.vc _ _ _ ?_
  unfold lighterlaw05_LzWhole.res
  refine speaks05_spec fun H1 e1 => ?_
  simp only [pPick_v, pNil_v, pNil_f, pAdd_v, pSub_v, pMul_v, pAdd_s, pQuo_v, pRem_v, pBits_v, pShl_v, pShr_v, pLt_v, pLe_v, pGt_v, pGe_v, pEq_0, pNe_0, pEq_1, pNe_1, pEq_2, pNe_2, pEq_3n, pNe_3n, pEq_3s, pNe_3s, pEq_3t, pNe_3t, pEq_5n, pNe_5n, pEq_5s, pNe_5s, pEq_5t, pNe_5t, pEq_4n, pNe_4n, pEq_4s, pNe_4s, pNot_v, pNeg_v, pCom_v, pConv_v, pConvS_v, pMin_v, pMax_v, pFieldAddr_v, pField1_v, pFieldN_v, pExtract_v, pIdxArr_v, pIdxSl_v, pIdxStr_v, pBounds_00, pBounds_10, pBounds_01, pBounds_11, pSlStr_v, pSlSl_v, pSlArr_v, pLenS_v, pLen_v, pCap_v, pBuild_n, pBuild_c, cells_int, cells_str, cells_bool, cells_ptr, cells_slice, cells_map, cells_agg, oneCell_int, oneCell_str, oneCell_bool, oneCell_ptr, oneCell_slice, oneCell_map, putL_cons, putL_nil, pAnd_pure, pOr_pure, pAnd_pureE, pOr_pureE, pAnd_false, pOr_true, pCond_true, pCond_false, add_mk, bys_mk, bys_size, cond_true, cond_false, decide_true, decide_false, decide_not', dec_and, dec_or, dec_eqt, Bool.not_true, Bool.not_false, Option.isNone_none, Option.isNone_some, Option.map_some, Option.map_none, List.getElem?_toArray, List.getElem?_cons_zero, List.getElem?_cons_succ, List.size_toArray, List.length_cons, List.length_nil, List.length_replicate, List.set_cons_zero, List.set_cons_succ, Nat.reduceAdd, Nat.reduceMul, Nat.reduceSub, Nat.reduceLeDiff, Nat.zero_add, Nat.add_zero, Nat.zero_le, true_and, and_true, not_false_eq_true, ne_eq, Int.reduceNeg, Int.reduceEq, Int.reduceNe, Int.reduceLT, Int.reduceLE, le_refl', List.setIfInBounds_toArray, Nat.reduceLT, Array.size_setIfInBounds, if_true, if_false, reduceCtorEq, List.toArray_toList', List.drop_succ_cons, List.drop_zero, List.take_succ_cons, List.take_zero, List.nil_append, List.append_nil, List.cons_append, Bool.and_true, Bool.true_and, Bool.or_false, Bool.false_or, Bool.and_false, Bool.or_true, Bool.true_or, Bool.false_and, eq_self, and_low (k := 8) (m := 255) (n := n) (by decide) rfl]
  have hn := Int.emod_lt_of_pos n (show (0 : Int) < 2 ^ 8 by decide)
  have hn0 := Int.emod_nonneg n (show (2 : Int) ^ 8 ≠ 0 by decide)
  generalize n % 2 ^ 8 = q at *
  rw [w64 (by omega) (by omega)]
  refine length_spec fun H2 e2 => ?_
  rw [lenX, if_neg (by omega)]
  obtain ⟨f1, f2, f3, f4, f5, f6⟩ := symL_facts (n := 3 + q) (by omega) (by omega)
  generalize hs : symL (3 + q) = s at *
  have hp := pow_le (k := 5) f6 f5
  have hlow : -9223372036854775808 ≤ (lenOf s).1 := by omega
  have hg0 : 0 ≤ 3 + q - (lenOf s).1 := by omega
  have hg1 : 3 + q - (lenOf s).1 < 2 ^ (lenOf s).2.toNat := by omega
  rw [w64 (n := 3 + q - (lenOf s).1) (by omega) (by omega), wu64 (by omega) (by omega)]
  have hback : (lenOf s).1 + (3 + q - (lenOf s).1) = 3 + q := by omega
  generalize hv : 3 + q - (lenOf s).1 = v at *
  refine pBox_ext fun H3 s3 e3 b3 => ?_
  refine pStoreN_upd b3 (by rfl) (by rfl) (by rfl) fun H4 _ u4 => ?_
  have b4 : H4[H2.size]? = some (.cells #[.int .i64 s, .int .i64 (lenOf s).2, .int .u64 v] 39 (0, 0)) := u4.at_
  have x4 : Ext H H4 := u4.ext (e1.trans (e2.trans e3)) (e1.trans e2).size
  simp only [pPick_v, pNil_v, pNil_f, pAdd_v, pSub_v, pMul_v, pAdd_s, pQuo_v, pRem_v, pBits_v, pShl_v, pShr_v, pLt_v, pLe_v, pGt_v, pGe_v, pEq_0, pNe_0, pEq_1, pNe_1, pEq_2, pNe_2, pEq_3n, pNe_3n, pEq_3s, pNe_3s, pEq_3t, pNe_3t, pEq_5n, pNe_5n, pEq_5s, pNe_5s, pEq_5t, pNe_5t, pEq_4n, pNe_4n, pEq_4s, pNe_4s, pNot_v, pNeg_v, pCom_v, pConv_v, pConvS_v, pMin_v, pMax_v, pFieldAddr_v, pField1_v, pFieldN_v, pExtract_v, pIdxArr_v, pIdxSl_v, pIdxStr_v, pBounds_00, pBounds_10, pBounds_01, pBounds_11, pSlStr_v, pSlSl_v, pSlArr_v, pLenS_v, pLen_v, pCap_v, pBuild_n, pBuild_c, cells_int, cells_str, cells_bool, cells_ptr, cells_slice, cells_map, cells_agg, oneCell_int, oneCell_str, oneCell_bool, oneCell_ptr, oneCell_slice, oneCell_map, putL_cons, putL_nil, pAnd_pure, pOr_pure, pAnd_pureE, pOr_pureE, pAnd_false, pOr_true, pCond_true, pCond_false, add_mk, bys_mk, bys_size, cond_true, cond_false, decide_true, decide_false, decide_not', dec_and, dec_or, dec_eqt, Bool.not_true, Bool.not_false, Option.isNone_none, Option.isNone_some, Option.map_some, Option.map_none, List.getElem?_toArray, List.getElem?_cons_zero, List.getElem?_cons_succ, List.size_toArray, List.length_cons, List.length_nil, List.length_replicate, List.set_cons_zero, List.set_cons_succ, Nat.reduceAdd, Nat.reduceMul, Nat.reduceSub, Nat.reduceLeDiff, Nat.zero_add, Nat.add_zero, Nat.zero_le, true_and, and_true, not_false_eq_true, ne_eq, Int.reduceNeg, Int.reduceEq, Int.reduceNe, Int.reduceLT, Int.reduceLE, le_refl', List.setIfInBounds_toArray, Nat.reduceLT, Array.size_setIfInBounds, if_true, if_false, reduceCtorEq, List.toArray_toList', List.drop_succ_cons, List.drop_zero, List.take_succ_cons, List.take_zero, List.nil_append, List.append_nil, List.cons_append, Bool.and_true, Bool.true_and, Bool.or_false, Bool.false_or, Bool.and_false, Bool.or_true, Bool.true_or, Bool.false_and, eq_self, pLoad_at b4]
  refine lengthOf_spec ?_
  rw [if_neg (by omega)]
  simp only [pPick_v, pNil_v, pNil_f, pAdd_v, pSub_v, pMul_v, pAdd_s, pQuo_v, pRem_v, pBits_v, pShl_v, pShr_v, pLt_v, pLe_v, pGt_v, pGe_v, pEq_0, pNe_0, pEq_1, pNe_1, pEq_2, pNe_2, pEq_3n, pNe_3n, pEq_3s, pNe_3s, pEq_3t, pNe_3t, pEq_5n, pNe_5n, pEq_5s, pNe_5s, pEq_5t, pNe_5t, pEq_4n, pNe_4n, pEq_4s, pNe_4s, pNot_v, pNeg_v, pCom_v, pConv_v, pConvS_v, pMin_v, pMax_v, pFieldAddr_v, pField1_v, pFieldN_v, pExtract_v, pIdxArr_v, pIdxSl_v, pIdxStr_v, pBounds_00, pBounds_10, pBounds_01, pBounds_11, pSlStr_v, pSlSl_v, pSlArr_v, pLenS_v, pLen_v, pCap_v, pBuild_n, pBuild_c, cells_int, cells_str, cells_bool, cells_ptr, cells_slice, cells_map, cells_agg, oneCell_int, oneCell_str, oneCell_bool, oneCell_ptr, oneCell_slice, oneCell_map, putL_cons, putL_nil, pAnd_pure, pOr_pure, pAnd_pureE, pOr_pureE, pAnd_false, pOr_true, pCond_true, pCond_false, add_mk, bys_mk, bys_size, cond_true, cond_false, decide_true, decide_false, decide_not', dec_and, dec_or, dec_eqt, Bool.not_true, Bool.not_false, Option.isNone_none, Option.isNone_some, Option.map_some, Option.map_none, List.getElem?_toArray, List.getElem?_cons_zero, List.getElem?_cons_succ, List.size_toArray, List.length_cons, List.length_nil, List.length_replicate, List.set_cons_zero, List.set_cons_succ, Nat.reduceAdd, Nat.reduceMul, Nat.reduceSub, Nat.reduceLeDiff, Nat.zero_add, Nat.add_zero, Nat.zero_le, true_and, and_true, not_false_eq_true, ne_eq, Int.reduceNeg, Int.reduceEq, Int.reduceNe, Int.reduceLT, Int.reduceLE, le_refl', List.setIfInBounds_toArray, Nat.reduceLT, Array.size_setIfInBounds, if_true, if_false, reduceCtorEq, List.toArray_toList', List.drop_succ_cons, List.drop_zero, List.take_succ_cons, List.take_zero, List.nil_append, List.append_nil, List.cons_append, Bool.and_true, Bool.true_and, Bool.or_false, Bool.false_or, Bool.and_false, Bool.or_true, Bool.true_or, Bool.false_and, eq_self, pLoad_at b4]
  have hmin : min ((lenOf s).2).toNat IntKind.u64.bits = (lenOf s).2.toNat := by
    show min ((lenOf s).2).toNat 64 = _
    omega
  rw [w64 (n := v) (by omega) (by omega), hback, w64 (n := 3 + q) (by omega) (by omega), hmin, fdiv_small hg0 hg1]
  intros
  rw [decide_eq_false (by simp)]
  refine pOr_false ?_
  refine ⟨f5, ?_⟩
  rw [decide_eq_false (by simp)]
  refine fun _ => ?_
  rw [pCond_false, and_low (k := 15) (m := 32767) (n := n) (by decide) rfl]
  have hn := Int.emod_lt_of_pos n (show (0 : Int) < 2 ^ 15 by decide)
  have hn0 := Int.emod_nonneg n (show (2 : Int) ^ 15 ≠ 0 by decide)
  generalize n % 2 ^ 15 = q at *
  rw [w64 (n := 1 + q) (by omega) (by omega)]
  refine dist_spec fun H5 e5 => ?_
  rw [distX, if_neg (by omega)]
  obtain ⟨f1, f2, f3, f4, f5, f6⟩ := symD_facts (n := 1 + q) (by omega) (by omega)
  generalize hs : symD (1 + q) = s at *
  have hp := pow_le (k := 13) f6 f5
  have hg0 : 0 ≤ 1 + q - (distOf s).1 := by omega
  have hg1 : 1 + q - (distOf s).1 < 2 ^ (distOf s).2.toNat := by omega
  rw [w64 (n := 1 + q - (distOf s).1) (by omega) (by omega), wu64 (by omega) (by omega)]
  have hback : (distOf s).1 + (1 + q - (distOf s).1) = 1 + q := by omega
  generalize hv : 1 + q - (distOf s).1 = v at *
  refine pBox_ext fun H6 s6 e6 b6 => ?_
  refine pStoreN_upd b6 (by rfl) (by rfl) (by rfl) fun H7 _ u7 => ?_
  have b7 : H7[H5.size]? = some (.cells #[.int .i64 s, .int .i64 (distOf s).2, .int .u64 v] 39 (0, 0)) := u7.at_
  have x7 : Ext H H7 := u7.ext (x4.trans (e5.trans e6)) (x4.trans e5).size
  simp only [pPick_v, pNil_v, pNil_f, pAdd_v, pSub_v, pMul_v, pAdd_s, pQuo_v, pRem_v, pBits_v, pShl_v, pShr_v, pLt_v, pLe_v, pGt_v, pGe_v, pEq_0, pNe_0, pEq_1, pNe_1, pEq_2, pNe_2, pEq_3n, pNe_3n, pEq_3s, pNe_3s, pEq_3t, pNe_3t, pEq_5n, pNe_5n, pEq_5s, pNe_5s, pEq_5t, pNe_5t, pEq_4n, pNe_4n, pEq_4s, pNe_4s, pNot_v, pNeg_v, pCom_v, pConv_v, pConvS_v, pMin_v, pMax_v, pFieldAddr_v, pField1_v, pFieldN_v, pExtract_v, pIdxArr_v, pIdxSl_v, pIdxStr_v, pBounds_00, pBounds_10, pBounds_01, pBounds_11, pSlStr_v, pSlSl_v, pSlArr_v, pLenS_v, pLen_v, pCap_v, pBuild_n, pBuild_c, cells_int, cells_str, cells_bool, cells_ptr, cells_slice, cells_map, cells_agg, oneCell_int, oneCell_str, oneCell_bool, oneCell_ptr, oneCell_slice, oneCell_map, putL_cons, putL_nil, pAnd_pure, pOr_pure, pAnd_pureE, pOr_pureE, pAnd_false, pOr_true, pCond_true, pCond_false, add_mk, bys_mk, bys_size, cond_true, cond_false, decide_true, decide_false, decide_not', dec_and, dec_or, dec_eqt, Bool.not_true, Bool.not_false, Option.isNone_none, Option.isNone_some, Option.map_some, Option.map_none, List.getElem?_toArray, List.getElem?_cons_zero, List.getElem?_cons_succ, List.size_toArray, List.length_cons, List.length_nil, List.length_replicate, List.set_cons_zero, List.set_cons_succ, Nat.reduceAdd, Nat.reduceMul, Nat.reduceSub, Nat.reduceLeDiff, Nat.zero_add, Nat.add_zero, Nat.zero_le, true_and, and_true, not_false_eq_true, ne_eq, Int.reduceNeg, Int.reduceEq, Int.reduceNe, Int.reduceLT, Int.reduceLE, le_refl', List.setIfInBounds_toArray, Nat.reduceLT, Array.size_setIfInBounds, if_true, if_false, reduceCtorEq, List.toArray_toList', List.drop_succ_cons, List.drop_zero, List.take_succ_cons, List.take_zero, List.nil_append, List.append_nil, List.cons_append, Bool.and_true, Bool.true_and, Bool.or_false, Bool.false_or, Bool.and_false, Bool.or_true, Bool.true_or, Bool.false_and, eq_self, pLoad_at b7]
  refine distOf_spec ?_
  rw [if_neg (by omega)]
  simp only [pPick_v, pNil_v, pNil_f, pAdd_v, pSub_v, pMul_v, pAdd_s, pQuo_v, pRem_v, pBits_v, pShl_v, pShr_v, pLt_v, pLe_v, pGt_v, pGe_v, pEq_0, pNe_0, pEq_1, pNe_1, pEq_2, pNe_2, pEq_3n, pNe_3n, pEq_3s, pNe_3s, pEq_3t, pNe_3t, pEq_5n, pNe_5n, pEq_5s, pNe_5s, pEq_5t, pNe_5t, pEq_4n, pNe_4n, pEq_4s, pNe_4s, pNot_v, pNeg_v, pCom_v, pConv_v, pConvS_v, pMin_v, pMax_v, pFieldAddr_v, pField1_v, pFieldN_v, pExtract_v, pIdxArr_v, pIdxSl_v, pIdxStr_v, pBounds_00, pBounds_10, pBounds_01, pBounds_11, pSlStr_v, pSlSl_v, pSlArr_v, pLenS_v, pLen_v, pCap_v, pBuild_n, pBuild_c, cells_int, cells_str, cells_bool, cells_ptr, cells_slice, cells_map, cells_agg, oneCell_int, oneCell_str, oneCell_bool, oneCell_ptr, oneCell_slice, oneCell_map, putL_cons, putL_nil, pAnd_pure, pOr_pure, pAnd_pureE, pOr_pureE, pAnd_false, pOr_true, pCond_true, pCond_false, add_mk, bys_mk, bys_size, cond_true, cond_false, decide_true, decide_false, decide_not', dec_and, dec_or, dec_eqt, Bool.not_true, Bool.not_false, Option.isNone_none, Option.isNone_some, Option.map_some, Option.map_none, List.getElem?_toArray, List.getElem?_cons_zero, List.getElem?_cons_succ, List.size_toArray, List.length_cons, List.length_nil, List.length_replicate, List.set_cons_zero, List.set_cons_succ, Nat.reduceAdd, Nat.reduceMul, Nat.reduceSub, Nat.reduceLeDiff, Nat.zero_add, Nat.add_zero, Nat.zero_le, true_and, and_true, not_false_eq_true, ne_eq, Int.reduceNeg, Int.reduceEq, Int.reduceNe, Int.reduceLT, Int.reduceLE, le_refl', List.setIfInBounds_toArray, Nat.reduceLT, Array.size_setIfInBounds, if_true, if_false, reduceCtorEq, List.toArray_toList', List.drop_succ_cons, List.drop_zero, List.take_succ_cons, List.take_zero, List.nil_append, List.append_nil, List.cons_append, Bool.and_true, Bool.true_and, Bool.or_false, Bool.false_or, Bool.and_false, Bool.or_true, Bool.true_or, Bool.false_and, eq_self, pLoad_at b7]
  have hmin : min ((distOf s).2).toNat IntKind.u64.bits = (distOf s).2.toNat := by
    show min ((distOf s).2).toNat 64 = _
    omega
  rw [w64 (n := v) (by omega) (by omega), hback, w64 (n := 1 + q) (by omega) (by omega), hmin, fdiv_small hg0 hg1]
  intros
  refine pAnd_if (d := true) (fun _ => ⟨f5, by simp⟩) ?_
  exact fun _ => ⟨by simp, x7⟩
end Go.Proofs.Ytabfckcbijinkaa
