/- lz: symbols of lengths and distances; the laws LzWhole. -/
import Derived.Test.YtpnkoniomalcpaaDoorLz
namespace Go.Proofs.YtpnkoniomalcpaaDoor
-- only what is there
open Go Go.Vc Go.Proofs
set_option linter.unusedVariables false
set_option linter.unusedSimpArgs false
variable {H : Heap} {R : Value → Heap → Prop}
def stepsL : Nat → Int → Int → Nat → Int → Int × Int
  | 0, k, a, e, _ => (a + k * 2 ^ e, e)
  | f + 1, k, a, e, st => if st ≤ k then stepsL f (k - st) (a + st * 2 ^ e) (e + 1) st else (a + k * 2 ^ e, e)
def stepsF (k least free st : Int) : Int × Int := if k < free then (least + k, 0) else stepsL 40 (k - free) (least + free) 1 st
theorem steps_spec {k least free st : Int} (hk : 0 ≤ k) (hk2 : k ≤ 31) (hl : 0 ≤ least) (hl2 : least ≤ 3) (hf : 0 ≤ free) (hf2 : free ≤ 8) (hs : 2 ≤ st) (hs2 : st ≤ 4)
    (h : R (.tuple #[.int .i64 (stepsF k least free st).1, .int .i64 (stepsF k least free st).2]) H) : CallsH Tryd.prog 90 #[.int .i64 k, .int .i64 least, .int .i64 free, .int .i64 st] H R := by
  refine lz_steps.vc _ _ _ _ _ _ ?_
  unfold lz_steps.res
  simp only [pPick_v, pNil_v, pNil_f, pAdd_v, pSub_v, pMul_v, pAdd_s, pQuo_v, pRem_v, pBits_v, pShl_v, pShr_v, pLt_v, pLe_v, pGt_v, pGe_v, pEq_0, pNe_0, pEq_1, pNe_1, pEq_2, pNe_2, pEq_3n, pNe_3n, pEq_3s, pNe_3s, pEq_3t, pNe_3t, pEq_5n, pNe_5n, pEq_5s, pNe_5s, pEq_5t, pNe_5t, pEq_4n, pNe_4n, pEq_4s, pNe_4s, pNot_v, pNeg_v, pCom_v, pConv_v, pConvS_v, pMin_v, pMax_v, pFieldAddr_v, pField1_v, pFieldN_v, pExtract_v, pIdxArr_v, pIdxSl_v, pIdxStr_v, pBounds_00, pBounds_10, pBounds_01, pBounds_11, pSlStr_v, pSlSl_v, pSlArr_v, pLenS_v, pLen_v, pCap_v, pBuild_n, pBuild_c, cells_int, cells_str, cells_bool, cells_ptr, cells_slice, cells_map, cells_agg, oneCell_int, oneCell_str, oneCell_bool, oneCell_ptr, oneCell_slice, oneCell_map, putL_cons, putL_nil, pAnd_pure, pOr_pure, pAnd_pureE, pOr_pureE, pAnd_false, pOr_true, pCond_true, pCond_false, add_mk, bys_mk, bys_size, cond_true, cond_false, decide_true, decide_false, decide_not', dec_and, dec_or, dec_eqt, Bool.not_true, Bool.not_false, Option.isNone_none, Option.isNone_some, Option.map_some, Option.map_none, List.getElem?_toArray, List.getElem?_cons_zero, List.getElem?_cons_succ, List.size_toArray, List.length_cons, List.length_nil, List.length_replicate, List.set_cons_zero, List.set_cons_succ, Nat.reduceAdd, Nat.reduceMul, Nat.reduceSub, Nat.reduceLeDiff, Nat.zero_add, Nat.add_zero, Nat.zero_le, true_and, and_true, not_false_eq_true, ne_eq, Int.reduceNeg, Int.reduceEq, Int.reduceNe, Int.reduceLT, Int.reduceLE, le_refl', List.setIfInBounds_toArray, Nat.reduceLT, Array.size_setIfInBounds, if_true, if_false, reduceCtorEq, List.toArray_toList', List.drop_succ_cons, List.drop_zero, List.take_succ_cons, List.take_zero, List.nil_append, List.append_nil, List.cons_append, Bool.and_true, Bool.true_and, Bool.or_false, Bool.false_or, Bool.and_false, Bool.or_true, Bool.true_or, Bool.false_and, eq_self]
  unfold stepsF at h
  refine pCond_if (fun hc => ?_) (fun hc => ?_)
  · rw [if_pos hc] at h
    rw [w64 (by omega) (by omega)]
    exact h
  rw [if_neg hc] at h
  rw [w64 (by omega) (by omega), w64 (by omega) (by omega)]
  refine ⟨fun v a e H' => ∃ (k' a' : Int) (e' f : Nat), v = .int .i64 k' ∧ a = .int .i64 a' ∧ e = .int .i64 e' ∧ H = H' ∧ 0 ≤ k' ∧ k' + e' ≤ 32 ∧ 1 ≤ e' ∧ e' + f = 41 ∧ 0 ≤ a' ∧ a' ≤ 300 + 32 * 2 ^ e' ∧ stepsL f k' a' e' st = stepsL 40 (k - free) (least + free) 1 st,
    fun v _ _ _ => match v with | .int _ i => i.toNat | _ => 0, ⟨k - free, least + free, 1, 40, rfl, rfl, rfl, rfl, by omega, by omega, by omega, by omega, by omega, by omega, rfl⟩, ?_⟩
  rintro _ _ _ _ _ ⟨k', a', e', f, rfl, rfl, rfl, rfl, h1, h2, h3, h4, h5, h6, h7⟩
  have hP : (1 : Int) ≤ 2 ^ e' := by
    have : (0 : Int) < 2 ^ e' := Int.pow_pos (by decide)
    omega
  have hP2 : (2 : Int) ^ e' ≤ 2 ^ 32 := by
    have : (2 : Nat) ^ e' ≤ 2 ^ 32 := Nat.pow_le_pow_right (by decide) (by omega)
    exact_mod_cast this
  have hmin : min ((e' : Int)).toNat IntKind.i64.bits = e' := by
    show min ((e' : Int)).toNat 64 = e'
    omega
  have hkP : k' * 2 ^ e' ≤ 32 * 2 ^ e' := Int.mul_le_mul_of_nonneg_right (by omega) (by omega)
  have hkP0 : 0 ≤ k' * 2 ^ e' := Int.mul_nonneg h1 (by omega)
  have hsP : st * 2 ^ e' ≤ 4 * 2 ^ e' := Int.mul_le_mul_of_nonneg_right (by omega) (by omega)
  have hsP0 : 0 ≤ st * 2 ^ e' := Int.mul_nonneg (by omega) (by omega)
  simp only [pPick_v, pNil_v, pNil_f, pAdd_v, pSub_v, pMul_v, pAdd_s, pQuo_v, pRem_v, pBits_v, pShl_v, pShr_v, pLt_v, pLe_v, pGt_v, pGe_v, pEq_0, pNe_0, pEq_1, pNe_1, pEq_2, pNe_2, pEq_3n, pNe_3n, pEq_3s, pNe_3s, pEq_3t, pNe_3t, pEq_5n, pNe_5n, pEq_5s, pNe_5s, pEq_5t, pNe_5t, pEq_4n, pNe_4n, pEq_4s, pNe_4s, pNot_v, pNeg_v, pCom_v, pConv_v, pConvS_v, pMin_v, pMax_v, pFieldAddr_v, pField1_v, pFieldN_v, pExtract_v, pIdxArr_v, pIdxSl_v, pIdxStr_v, pBounds_00, pBounds_10, pBounds_01, pBounds_11, pSlStr_v, pSlSl_v, pSlArr_v, pLenS_v, pLen_v, pCap_v, pBuild_n, pBuild_c, cells_int, cells_str, cells_bool, cells_ptr, cells_slice, cells_map, cells_agg, oneCell_int, oneCell_str, oneCell_bool, oneCell_ptr, oneCell_slice, oneCell_map, putL_cons, putL_nil, pAnd_pure, pOr_pure, pAnd_pureE, pOr_pureE, pAnd_false, pOr_true, pCond_true, pCond_false, add_mk, bys_mk, bys_size, cond_true, cond_false, decide_true, decide_false, decide_not', dec_and, dec_or, dec_eqt, Bool.not_true, Bool.not_false, Option.isNone_none, Option.isNone_some, Option.map_some, Option.map_none, List.getElem?_toArray, List.getElem?_cons_zero, List.getElem?_cons_succ, List.size_toArray, List.length_cons, List.length_nil, List.length_replicate, List.set_cons_zero, List.set_cons_succ, Nat.reduceAdd, Nat.reduceMul, Nat.reduceSub, Nat.reduceLeDiff, Nat.zero_add, Nat.add_zero, Nat.zero_le, true_and, and_true, not_false_eq_true, ne_eq, Int.reduceNeg, Int.reduceEq, Int.reduceNe, Int.reduceLT, Int.reduceLE, le_refl', List.setIfInBounds_toArray, Nat.reduceLT, Array.size_setIfInBounds, if_true, if_false, reduceCtorEq, List.toArray_toList', List.drop_succ_cons, List.drop_zero, List.take_succ_cons, List.take_zero, List.nil_append, List.append_nil, List.cons_append, Bool.and_true, Bool.true_and, Bool.or_false, Bool.false_or, Bool.and_false, Bool.or_true, Bool.true_or, Bool.false_and, eq_self, hmin]
  match f, h4, h7 with
  | 0, h4, h7 => omega
  | f + 1, h4, h7 =>
    have h7 : (if st ≤ k' then stepsL f (k' - st) (a' + st * 2 ^ e') (e' + 1) st else (a' + k' * 2 ^ e', (e' : Int))) = stepsL 40 (k - free) (least + free) 1 st := h7
    refine pCond_if (fun hc2 => ?_) (fun hc2 => ?_)
    · rw [if_pos hc2] at h7
      refine ⟨by omega, ?_⟩
      rw [w64 (n := st * 2 ^ e') (by omega) (by omega), w64 (n := a' + st * 2 ^ e') (by omega) (by omega), w64 (n := (e' : Int) + 1) (by omega) (by omega), w64 (n := k' - st) (by omega) (by omega)]
      refine ⟨⟨k' - st, a' + st * 2 ^ e', e' + 1, f, rfl, rfl, rfl, by omega, by omega, by omega, by omega, by omega, ?_, h7⟩, by show (_ : Int).toNat < (_ : Int).toNat; omega⟩
      have hpe : (2 : Int) ^ (e' + 1) = 2 ^ e' * 2 := Int.pow_succ _ _
      rw [hpe]; omega
    · rw [if_neg hc2] at h7
      rw [← h7] at h
      refine ⟨by omega, ?_⟩
      rw [w64 (n := k' * 2 ^ e') (by omega) (by omega), w64 (by omega) (by omega)]
      exact h
/-- a length's symbol: least length, extra bits -/
def lenOf (s : Int) : Int × Int := if s = 285 then (258, 0) else stepsF (s - 257) 3 8 4
def distOf (s : Int) : Int × Int := stepsF s 1 4 2
theorem lengthOf_spec {s : Int} (h : R (if s < 257 ∨ 285 < s then .tuple #[.int .i64 0, .int .i64 0, .bool false] else .tuple #[.int .i64 (lenOf s).1, .int .i64 (lenOf s).2, .bool true]) H) : CallsH Tryd.prog 71 #[.int .i64 s] H R := by
  refine lz_LengthOf.vc _ _ _ ?_
  unfold lz_LengthOf.res
  simp only [pPick_v, pNil_v, pNil_f, pAdd_v, pSub_v, pMul_v, pAdd_s, pQuo_v, pRem_v, pBits_v, pShl_v, pShr_v, pLt_v, pLe_v, pGt_v, pGe_v, pEq_0, pNe_0, pEq_1, pNe_1, pEq_2, pNe_2, pEq_3n, pNe_3n, pEq_3s, pNe_3s, pEq_3t, pNe_3t, pEq_5n, pNe_5n, pEq_5s, pNe_5s, pEq_5t, pNe_5t, pEq_4n, pNe_4n, pEq_4s, pNe_4s, pNot_v, pNeg_v, pCom_v, pConv_v, pConvS_v, pMin_v, pMax_v, pFieldAddr_v, pField1_v, pFieldN_v, pExtract_v, pIdxArr_v, pIdxSl_v, pIdxStr_v, pBounds_00, pBounds_10, pBounds_01, pBounds_11, pSlStr_v, pSlSl_v, pSlArr_v, pLenS_v, pLen_v, pCap_v, pBuild_n, pBuild_c, cells_int, cells_str, cells_bool, cells_ptr, cells_slice, cells_map, cells_agg, oneCell_int, oneCell_str, oneCell_bool, oneCell_ptr, oneCell_slice, oneCell_map, putL_cons, putL_nil, pAnd_pure, pOr_pure, pAnd_pureE, pOr_pureE, pAnd_false, pOr_true, pCond_true, pCond_false, add_mk, bys_mk, bys_size, cond_true, cond_false, decide_true, decide_false, decide_not', dec_and, dec_or, dec_eqt, Bool.not_true, Bool.not_false, Option.isNone_none, Option.isNone_some, Option.map_some, Option.map_none, List.getElem?_toArray, List.getElem?_cons_zero, List.getElem?_cons_succ, List.size_toArray, List.length_cons, List.length_nil, List.length_replicate, List.set_cons_zero, List.set_cons_succ, Nat.reduceAdd, Nat.reduceMul, Nat.reduceSub, Nat.reduceLeDiff, Nat.zero_add, Nat.add_zero, Nat.zero_le, true_and, and_true, not_false_eq_true, ne_eq, Int.reduceNeg, Int.reduceEq, Int.reduceNe, Int.reduceLT, Int.reduceLE, le_refl', List.setIfInBounds_toArray, Nat.reduceLT, Array.size_setIfInBounds, if_true, if_false, reduceCtorEq, List.toArray_toList', List.drop_succ_cons, List.drop_zero, List.take_succ_cons, List.take_zero, List.nil_append, List.append_nil, List.cons_append, Bool.and_true, Bool.true_and, Bool.or_false, Bool.false_or, Bool.and_false, Bool.or_true, Bool.true_or, Bool.false_and, eq_self]
  refine fun _ => pCond_if (fun hc => ?_) (fun hc => ?_)
  · rw [if_pos hc] at h; exact h
  rw [if_neg hc] at h
  refine pCond_if (fun hc2 => ?_) (fun hc2 => ?_)
  · rw [lenOf, if_pos hc2] at h; exact h
  · rw [lenOf, if_neg hc2] at h
    rw [w64 (by omega) (by omega)]
    refine steps_spec (by omega) (by omega) (by decide) (by decide) (by decide) (by decide) (by decide) (by decide) ?_
    simp only [pPick_v, pNil_v, pNil_f, pAdd_v, pSub_v, pMul_v, pAdd_s, pQuo_v, pRem_v, pBits_v, pShl_v, pShr_v, pLt_v, pLe_v, pGt_v, pGe_v, pEq_0, pNe_0, pEq_1, pNe_1, pEq_2, pNe_2, pEq_3n, pNe_3n, pEq_3s, pNe_3s, pEq_3t, pNe_3t, pEq_5n, pNe_5n, pEq_5s, pNe_5s, pEq_5t, pNe_5t, pEq_4n, pNe_4n, pEq_4s, pNe_4s, pNot_v, pNeg_v, pCom_v, pConv_v, pConvS_v, pMin_v, pMax_v, pFieldAddr_v, pField1_v, pFieldN_v, pExtract_v, pIdxArr_v, pIdxSl_v, pIdxStr_v, pBounds_00, pBounds_10, pBounds_01, pBounds_11, pSlStr_v, pSlSl_v, pSlArr_v, pLenS_v, pLen_v, pCap_v, pBuild_n, pBuild_c, cells_int, cells_str, cells_bool, cells_ptr, cells_slice, cells_map, cells_agg, oneCell_int, oneCell_str, oneCell_bool, oneCell_ptr, oneCell_slice, oneCell_map, putL_cons, putL_nil, pAnd_pure, pOr_pure, pAnd_pureE, pOr_pureE, pAnd_false, pOr_true, pCond_true, pCond_false, add_mk, bys_mk, bys_size, cond_true, cond_false, decide_true, decide_false, decide_not', dec_and, dec_or, dec_eqt, Bool.not_true, Bool.not_false, Option.isNone_none, Option.isNone_some, Option.map_some, Option.map_none, List.getElem?_toArray, List.getElem?_cons_zero, List.getElem?_cons_succ, List.size_toArray, List.length_cons, List.length_nil, List.length_replicate, List.set_cons_zero, List.set_cons_succ, Nat.reduceAdd, Nat.reduceMul, Nat.reduceSub, Nat.reduceLeDiff, Nat.zero_add, Nat.add_zero, Nat.zero_le, true_and, and_true, not_false_eq_true, ne_eq, Int.reduceNeg, Int.reduceEq, Int.reduceNe, Int.reduceLT, Int.reduceLE, le_refl', List.setIfInBounds_toArray, Nat.reduceLT, Array.size_setIfInBounds, if_true, if_false, reduceCtorEq, List.toArray_toList', List.drop_succ_cons, List.drop_zero, List.take_succ_cons, List.take_zero, List.nil_append, List.append_nil, List.cons_append, Bool.and_true, Bool.true_and, Bool.or_false, Bool.false_or, Bool.and_false, Bool.or_true, Bool.true_or, Bool.false_and, eq_self]
    exact h
theorem distOf_spec {s : Int} (h : R (if s < 0 ∨ 29 < s then .tuple #[.int .i64 0, .int .i64 0, .bool false] else .tuple #[.int .i64 (distOf s).1, .int .i64 (distOf s).2, .bool true]) H) : CallsH Tryd.prog 72 #[.int .i64 s] H R := by
  refine lz_DistOf.vc _ _ _ ?_
  unfold lz_DistOf.res
  simp only [pPick_v, pNil_v, pNil_f, pAdd_v, pSub_v, pMul_v, pAdd_s, pQuo_v, pRem_v, pBits_v, pShl_v, pShr_v, pLt_v, pLe_v, pGt_v, pGe_v, pEq_0, pNe_0, pEq_1, pNe_1, pEq_2, pNe_2, pEq_3n, pNe_3n, pEq_3s, pNe_3s, pEq_3t, pNe_3t, pEq_5n, pNe_5n, pEq_5s, pNe_5s, pEq_5t, pNe_5t, pEq_4n, pNe_4n, pEq_4s, pNe_4s, pNot_v, pNeg_v, pCom_v, pConv_v, pConvS_v, pMin_v, pMax_v, pFieldAddr_v, pField1_v, pFieldN_v, pExtract_v, pIdxArr_v, pIdxSl_v, pIdxStr_v, pBounds_00, pBounds_10, pBounds_01, pBounds_11, pSlStr_v, pSlSl_v, pSlArr_v, pLenS_v, pLen_v, pCap_v, pBuild_n, pBuild_c, cells_int, cells_str, cells_bool, cells_ptr, cells_slice, cells_map, cells_agg, oneCell_int, oneCell_str, oneCell_bool, oneCell_ptr, oneCell_slice, oneCell_map, putL_cons, putL_nil, pAnd_pure, pOr_pure, pAnd_pureE, pOr_pureE, pAnd_false, pOr_true, pCond_true, pCond_false, add_mk, bys_mk, bys_size, cond_true, cond_false, decide_true, decide_false, decide_not', dec_and, dec_or, dec_eqt, Bool.not_true, Bool.not_false, Option.isNone_none, Option.isNone_some, Option.map_some, Option.map_none, List.getElem?_toArray, List.getElem?_cons_zero, List.getElem?_cons_succ, List.size_toArray, List.length_cons, List.length_nil, List.length_replicate, List.set_cons_zero, List.set_cons_succ, Nat.reduceAdd, Nat.reduceMul, Nat.reduceSub, Nat.reduceLeDiff, Nat.zero_add, Nat.add_zero, Nat.zero_le, true_and, and_true, not_false_eq_true, ne_eq, Int.reduceNeg, Int.reduceEq, Int.reduceNe, Int.reduceLT, Int.reduceLE, le_refl', List.setIfInBounds_toArray, Nat.reduceLT, Array.size_setIfInBounds, if_true, if_false, reduceCtorEq, List.toArray_toList', List.drop_succ_cons, List.drop_zero, List.take_succ_cons, List.take_zero, List.nil_append, List.append_nil, List.cons_append, Bool.and_true, Bool.true_and, Bool.or_false, Bool.false_or, Bool.and_false, Bool.or_true, Bool.true_or, Bool.false_and, eq_self]
  refine fun _ => pCond_if (fun hc => ?_) (fun hc => ?_)
  · rw [if_pos hc] at h; exact h
  rw [if_neg hc] at h
  refine steps_spec (by omega) (by omega) (by decide) (by decide) (by decide) (by decide) (by decide) (by decide) ?_
  simp only [pPick_v, pNil_v, pNil_f, pAdd_v, pSub_v, pMul_v, pAdd_s, pQuo_v, pRem_v, pBits_v, pShl_v, pShr_v, pLt_v, pLe_v, pGt_v, pGe_v, pEq_0, pNe_0, pEq_1, pNe_1, pEq_2, pNe_2, pEq_3n, pNe_3n, pEq_3s, pNe_3s, pEq_3t, pNe_3t, pEq_5n, pNe_5n, pEq_5s, pNe_5s, pEq_5t, pNe_5t, pEq_4n, pNe_4n, pEq_4s, pNe_4s, pNot_v, pNeg_v, pCom_v, pConv_v, pConvS_v, pMin_v, pMax_v, pFieldAddr_v, pField1_v, pFieldN_v, pExtract_v, pIdxArr_v, pIdxSl_v, pIdxStr_v, pBounds_00, pBounds_10, pBounds_01, pBounds_11, pSlStr_v, pSlSl_v, pSlArr_v, pLenS_v, pLen_v, pCap_v, pBuild_n, pBuild_c, cells_int, cells_str, cells_bool, cells_ptr, cells_slice, cells_map, cells_agg, oneCell_int, oneCell_str, oneCell_bool, oneCell_ptr, oneCell_slice, oneCell_map, putL_cons, putL_nil, pAnd_pure, pOr_pure, pAnd_pureE, pOr_pureE, pAnd_false, pOr_true, pCond_true, pCond_false, add_mk, bys_mk, bys_size, cond_true, cond_false, decide_true, decide_false, decide_not', dec_and, dec_or, dec_eqt, Bool.not_true, Bool.not_false, Option.isNone_none, Option.isNone_some, Option.map_some, Option.map_none, List.getElem?_toArray, List.getElem?_cons_zero, List.getElem?_cons_succ, List.size_toArray, List.length_cons, List.length_nil, List.length_replicate, List.set_cons_zero, List.set_cons_succ, Nat.reduceAdd, Nat.reduceMul, Nat.reduceSub, Nat.reduceLeDiff, Nat.zero_add, Nat.add_zero, Nat.zero_le, true_and, and_true, not_false_eq_true, ne_eq, Int.reduceNeg, Int.reduceEq, Int.reduceNe, Int.reduceLT, Int.reduceLE, le_refl', List.setIfInBounds_toArray, Nat.reduceLT, Array.size_setIfInBounds, if_true, if_false, reduceCtorEq, List.toArray_toList', List.drop_succ_cons, List.drop_zero, List.take_succ_cons, List.take_zero, List.nil_append, List.append_nil, List.cons_append, Bool.and_true, Bool.true_and, Bool.or_false, Bool.false_or, Bool.and_false, Bool.or_true, Bool.true_or, Bool.false_and, eq_self]
  exact h
/-- the largest symbol in reach -/
def findF (g : Int → Int × Int) (n : Int) : Nat → Int → Int
  | 0, s => s
  | k + 1, s => if (g s).1 ≤ n then s else findF g n k (s - 1)
abbrev exv (s b v : Int) : Value := .agg #[.int .i64 s, .int .i64 b, .int .u64 v]
def symL (n : Int) : Int := findF lenOf n 28 285
def symD (n : Int) : Int := findF distOf n 29 29
def lenX (n : Int) : Value := if n < 3 ∨ 258 < n then exv 0 0 0 else exv (symL n) (lenOf (symL n)).2 (IntKind.u64.wrap (IntKind.i64.wrap (n - (lenOf (symL n)).1)))
def distX (n : Int) : Value := if n < 1 ∨ 32768 < n then exv 0 0 0 else exv (symD n) (distOf (symD n)).2 (IntKind.u64.wrap (IntKind.i64.wrap (n - (distOf (symD n)).1)))
/-! ### what is found -/
theorem find_facts (g : Int → Int × Int) (n : Int) : ∀ (k : Nat) (s first : Int), s = first + k → (g first).1 ≤ n → (∀ s', s < s' → s' ≤ s + 1 → True) →
    first ≤ findF g n k s ∧ findF g n k s ≤ s ∧ (g (findF g n k s)).1 ≤ n ∧ (findF g n k s = s ∨ n < (g (findF g n k s + 1)).1)
  | 0, s, first, hs, hf, _ => by
    have : s = first := by omega
    subst this
    exact ⟨Int.le_refl _, Int.le_refl _, hf, .inl rfl⟩
  | k + 1, s, first, hs, hf, _ => by
    rw [findF]
    by_cases hc : (g s).1 ≤ n
    · rw [if_pos hc]; exact ⟨by omega, Int.le_refl _, hc, .inl rfl⟩
    · rw [if_neg hc]
      obtain ⟨h1, h2, h3, h4⟩ := find_facts g n k (s - 1) first (by omega) hf (fun _ _ _ => trivial)
      refine ⟨h1, by omega, h3, .inr ?_⟩
      rcases h4 with h4 | h4
      · rw [h4, show s - 1 + 1 = s by omega]; omega
      · exact h4
theorem lens_step : ∀ k : Fin 28, (lenOf (257 + ((k.val : Nat) : Int) + 1)).1 ≤ (lenOf (257 + ((k.val : Nat) : Int))).1 + 2 ^ (lenOf (257 + ((k.val : Nat) : Int))).2.toNat ∧ 0 ≤ (lenOf (257 + ((k.val : Nat) : Int))).2 ∧ (lenOf (257 + ((k.val : Nat) : Int))).2 ≤ 5 := by decide +kernel
theorem dists_step : ∀ k : Fin 30, (k.val < 29 → (distOf (((k.val : Nat) : Int) + 1)).1 ≤ (distOf ((k.val : Nat) : Int)).1 + 2 ^ (distOf ((k.val : Nat) : Int)).2.toNat) ∧ 0 ≤ (distOf ((k.val : Nat) : Int)).2 ∧ (distOf ((k.val : Nat) : Int)).2 ≤ 13 := by decide +kernel
theorem symL_facts {n : Int} (h0 : 3 ≤ n) (h1 : n ≤ 258) : 257 ≤ symL n ∧ symL n ≤ 285 ∧ (lenOf (symL n)).1 ≤ n ∧ n < (lenOf (symL n)).1 + 2 ^ (lenOf (symL n)).2.toNat ∧ 0 ≤ (lenOf (symL n)).2 ∧ (lenOf (symL n)).2 ≤ 5 := by
  obtain ⟨f1, f2, f3, f4⟩ := find_facts lenOf n 28 285 257 (by decide) (by rw [show (lenOf 257).1 = 3 by decide +kernel]; omega) (fun _ _ _ => trivial)
  refine ⟨f1, f2, f3, ?_⟩
  change 257 ≤ symL n at f1
  change symL n ≤ 285 at f2
  change (lenOf (symL n)).1 ≤ n at f3
  change symL n = 285 ∨ n < (lenOf (symL n + 1)).1 at f4
  generalize symL n = s at *
  by_cases hs : s = 285
  · subst hs
    have e1 : (lenOf 285).1 = 258 := by decide +kernel
    have e2 : (lenOf 285).2 = 0 := by decide +kernel
    rw [e1, e2]
    exact ⟨by simp; omega, by decide, by decide⟩
  · have hk := lens_step ⟨(s - 257).toNat, by omega⟩
    dsimp only at hk
    rw [show (257 : Int) + (((s - 257).toNat : Nat) : Int) = s by omega] at hk
    refine ⟨?_, hk.2⟩
    rcases f4 with f4 | f4 <;> omega
theorem symD_facts {n : Int} (h0 : 1 ≤ n) (h1 : n ≤ 32768) : 0 ≤ symD n ∧ symD n ≤ 29 ∧ (distOf (symD n)).1 ≤ n ∧ n < (distOf (symD n)).1 + 2 ^ (distOf (symD n)).2.toNat ∧ 0 ≤ (distOf (symD n)).2 ∧ (distOf (symD n)).2 ≤ 13 := by
  obtain ⟨f1, f2, f3, f4⟩ := find_facts distOf n 29 29 0 (by decide) (by rw [show (distOf 0).1 = 1 by decide +kernel]; omega) (fun _ _ _ => trivial)
  refine ⟨f1, f2, f3, ?_⟩
  change 0 ≤ symD n at f1
  change symD n ≤ 29 at f2
  change (distOf (symD n)).1 ≤ n at f3
  change symD n = 29 ∨ n < (distOf (symD n + 1)).1 at f4
  generalize symD n = s at *
  have hk := dists_step ⟨s.toNat, by omega⟩
  dsimp only at hk
  rw [show ((s.toNat : Nat) : Int) = s by omega] at hk
  refine ⟨?_, hk.2⟩
  by_cases hs : s = 29
  · subst hs
    have e1 : (distOf 29).1 = 24577 := by decide +kernel
    have e2 : (distOf 29).2 = 13 := by decide +kernel
    rw [e1, e2]
    show n < 24577 + 8192
    omega
  · have := hk.1 (by omega)
    rcases f4 with f4 | f4 <;> omega
end Go.Proofs.YtpnkoniomalcpaaDoor
