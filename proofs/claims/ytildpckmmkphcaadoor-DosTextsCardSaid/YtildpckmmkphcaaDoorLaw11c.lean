/- The law DosCounts over heaps. -/
import Derived.Test.YtildpckmmkphcaaDoorDosNum
import Derived.Test.YtildpckmmkphcaaDoorLaw11
import Derived.Test.YtildpckmmkphcaaDoorVcLib
namespace Go.Proofs.YtildpckmmkphcaaDoor
-- only what is there
open Go Go.Vc Go.Proofs
set_option linter.unusedVariables false
set_option linter.unusedSimpArgs false
variable {H : Heap} {R : Value → Heap → Prop}
theorem years_inv : ∀ (fuel : Nat) (y d : Int), 0 ≤ d → ∃ (k : Nat) (e : Int), k ≤ fuel ∧ yearsF fuel y d = (y + k, e) ∧ d = sumY k y + e ∧ 0 ≤ e ∧ (k < fuel → e < inYear (y + k))
  | 0, y, d, h => ⟨0, d, by omega, by simp [yearsF], by simp [sumY], h, by omega⟩
  | fuel + 1, y, d, h => by
    by_cases hc : d < inYear y
    · refine ⟨0, d, by omega, ?_, by simp [sumY], h, fun _ => by simpa using hc⟩
      rw [yearsF, if_pos hc]; simp
    · obtain ⟨k, e, h1, h2, h3, h4, h5⟩ := years_inv fuel (y + 1) (d - inYear y) (by omega)
      refine ⟨k + 1, e, by omega, ?_, ?_, h4, fun hk => ?_⟩
      · rw [yearsF, if_neg hc, h2, show y + 1 + (k : Int) = y + ((k + 1 : Nat) : Int) by omega]
      · rw [sumY]; omega
      · have := h5 (by omega)
        rw [show y + 1 + (k : Int) = y + ((k + 1 : Nat) : Int) by omega] at this
        exact this
theorem mons_inv : ∀ (fuel : Nat) (y m d : Int), 0 ≤ d → ∃ (k : Nat) (e : Int), k ≤ fuel ∧ monsF fuel y m d = (m + k, e) ∧ d = sumM k y m + e ∧ 0 ≤ e ∧ (k < fuel → e < daysI y (m + k))
  | 0, y, m, d, h => ⟨0, d, by omega, by simp [monsF], by simp [sumM], h, by omega⟩
  | fuel + 1, y, m, d, h => by
    by_cases hc : daysI y m ≤ d
    · obtain ⟨k, e, h1, h2, h3, h4, h5⟩ := mons_inv fuel y (m + 1) (d - daysI y m) (by omega)
      refine ⟨k + 1, e, by omega, ?_, ?_, h4, fun hk => ?_⟩
      · rw [monsF, if_pos hc, h2, show m + 1 + (k : Int) = m + ((k + 1 : Nat) : Int) by omega]
      · rw [sumM]; omega
      · have := h5 (by omega)
        rw [show m + 1 + (k : Int) = m + ((k + 1 : Nat) : Int) by omega] at this
        exact this
    · refine ⟨0, d, by omega, ?_, by simp [sumM], h, fun _ => by simpa using hc⟩
      rw [monsF, if_neg hc]; simp
theorem sumY_128 : sumY 128 1980 = 46751 := by decide +kernel
theorem sumY_le {k : Nat} (hk : k ≤ 128) : sumY k 1980 ≤ 46751 := by
  have key : ∀ j : Nat, j ≤ 128 → sumY (128 - j) 1980 + 365 * j ≤ 46751 := by
    intro j
    induction j with
    | zero => intro _; rw [show 128 - 0 = 128 by omega, sumY_128]; decide
    | succ j ih =>
      intro hj
      have ih := ih (by omega)
      have := sumY_end (128 - (j + 1)) 1980
      rw [show 128 - (j + 1) + 1 = 128 - j by omega] at this
      have := inYear_two (1980 + ((128 - (j + 1) : Nat) : Int))
      omega
  have := key (128 - k) (by omega)
  rw [show 128 - (128 - k) = k by omega] at this
  omega
theorem good_mk {t : T6} (h : 1980 ≤ t.y ∧ t.y ≤ 2107 ∧ 1 ≤ t.d ∧ t.d ≤ daysI t.y t.m ∧ 0 ≤ t.h ∧ t.h < 24 ∧ 0 ≤ t.n ∧ t.n < 60 ∧ 0 ≤ t.s ∧ t.s < 60 ∧ t.s % 2 = 0) : goodB t = true := by
  simp only [goodB, decide_eq_true_eq]
  rw [Int.tmod_eq_emod_of_nonneg h.2.2.2.2.2.2.2.2.1]
  exact h
theorem of_inv {n : Int} (h0 : 0 ≤ n) : (n < 2019643200 ∧ ∃ t, ofT n = some t ∧ goodB t = true ∧ numI t = n ∧ t.s = n % 43200 % 30 * 2) ∨ (2019643200 ≤ n ∧ ofT n = none) := by
  obtain ⟨k, e, hk, hy, hd, he0, he1⟩ := years_inv 128 1980 (n / 43200) (by omega)
  rw [ofT, if_neg (by omega), hy]
  dsimp only
  by_cases hk2 : k = 128
  · right
    subst hk2
    rw [if_pos (by omega)]
    rw [sumY_128] at hd
    exact ⟨by omega, rfl⟩
  · left
    have he1 := he1 (by omega)
    have hle := sumY_le (k := k + 1) (by omega)
    rw [sumY_end] at hle
    rw [if_neg (by omega)]
    obtain ⟨j, f, hj, hm, hd2, hf0, hf1⟩ := mons_inv 11 (1980 + k) 1 e he0
    rw [hm]
    dsimp only
    have hf : f < daysI (1980 + k) (1 + j) := by
      by_cases hj2 : j = 11
      · subst hj2
        have := sumM_rest 11 0 (1980 + k) 1
        rw [show 0 + 11 = 11 by omega, rest_all] at this
        simp only [restF] at this
        omega
      · exact hf1 (by omega)
    refine ⟨by omega, _, rfl, good_mk ?_, ?_, rfl⟩
    · dsimp only; exact ⟨by omega, by omega, by omega, by omega, by omega, by omega, by omega, by omega, by omega, by omega, by omega⟩
    · simp only [numI]
      rw [show (1980 + (k : Int) - 1980).toNat = k by omega, show (1 + (j : Int) - 1).toNat = j by omega]
      omega
/-- a day on -/
def nextT (t : T6) : T6 :=
  if daysI t.y t.m < t.d + 1 then (if 12 < t.m + 1 then ⟨t.y + 1, 1, 1, t.h, t.n, t.s⟩ else ⟨t.y, t.m + 1, 1, t.h, t.n, t.s⟩) else ⟨t.y, t.m, t.d + 1, t.h, t.n, t.s⟩
theorem next_num {t : T6} (h : goodB t = true) : ((nextT t).y ≤ 2107 ∧ goodB (nextT t) = true ∧ numI (nextT t) = numI t + 43200) ∨ (2107 < (nextT t).y ∧ 2019643200 ≤ numI t + 43200) := by
  obtain ⟨hy0, hy1, hm0, hm1, hd0, hd1, hh0, hh1, hn0, hn1, hs0, hs1, hs2⟩ := good_facts h
  obtain ⟨y, m, d, hr, n, s⟩ := t
  dsimp only at *
  unfold nextT
  dsimp only
  by_cases hc : daysI y m < d + 1
  · rw [if_pos hc]
    by_cases hc2 : 12 < m + 1
    · rw [if_pos hc2]
      have hm : m = 12 := by omega
      subst hm
      have e1 := sumM_rest 11 0 y 1
      rw [show 0 + 11 = 11 by omega, rest_all] at e1
      simp only [restF] at e1
      have e1 : sumM 11 y 1 + daysI y 12 = inYear y := e1
      have e2 := sumY_end (y - 1980).toNat 1980
      rw [show (1980 : Int) + ((y - 1980).toNat : Int) = y by omega] at e2
      by_cases hy : y + 1 ≤ 2107
      · left
        refine ⟨hy, good_mk ?_, ?_⟩
        · dsimp only
          have := days_mon (y := y + 1) (m := 1) (by omega) (by omega)
          exact ⟨by omega, by omega, by omega, by omega, by omega, by omega, by omega, by omega, by omega, by omega, by omega⟩
        · simp only [numI]
          rw [show (y + 1 - 1980).toNat = (y - 1980).toNat + 1 by omega, e2, show ((1 : Int) - 1).toNat = 0 by decide, show ((12 : Int) - 1).toNat = 11 by decide]
          rw [show sumM 0 (y + 1) 1 = 0 from rfl]
          generalize sumM 11 y 1 = z at *
          omega
      · right
        refine ⟨by dsimp only; omega, ?_⟩
        simp only [numI]
        have hy : y = 2107 := by omega
        subst hy
        rw [show ((12 : Int) - 1).toNat = 11 by decide]
        rw [show ((2107 : Int) - 1980).toNat = 127 by decide] at e2 ⊢
        rw [show 127 + 1 = 128 by omega, sumY_128] at e2
        omega
    · rw [if_neg hc2]
      left
      refine ⟨hy1, good_mk ?_, ?_⟩
      · dsimp only
        have := days_mon (y := y) (m := m + 1) (by omega) (by omega)
        exact ⟨by omega, by omega, by omega, by omega, by omega, by omega, by omega, by omega, by omega, by omega, by omega⟩
      · simp only [numI]
        have e2 := sumM_end (m - 1).toNat y 1
        rw [show (1 : Int) + ((m - 1).toNat : Int) = m by omega] at e2
        rw [show (m + 1 - 1).toNat = (m - 1).toNat + 1 by omega, e2]
        omega
  · rw [if_neg hc]
    left
    refine ⟨hy1, good_mk ?_, ?_⟩
    · dsimp only; exact ⟨by omega, by omega, by omega, by omega, by omega, by omega, by omega, by omega, by omega, by omega, by omega⟩
    · simp only [numI]; omega
theorem refNext_spec {t : T6} (hg : goodB t = true) (h : ∀ H', Ext H H' → R (nextT t).v H') : CallsH Tryd.prog 9 #[t.v] H R := by
  obtain ⟨hy0, hy1, hm0, hm1, hd0, hd1, hh0, hh1, hn0, hn1, hs0, hs1, hs2⟩ := good_facts hg
  have hb := days_bounds t.y t.m
  refine lighterref11_Next.vc _ _ _ ?_
  unfold lighterref11_Next.res
  refine pBox_ext fun H1 s1 e1 b1 => ?_
  have b1 : H1[H.size]? = some t.robj := b1
  refine pBox_ext fun H2 s2 e2 c2 => ?_
  have c2 : H2[H1.size]? = some T6.zero.robj := c2
  have b2 := e2.blk b1
  simp only [pPick_v, pNil_v, pNil_f, pAdd_v, pSub_v, pMul_v, pAdd_s, pQuo_v, pRem_v, pBits_v, pShl_v, pShr_v, pLt_v, pLe_v, pGt_v, pGe_v, pEq_0, pNe_0, pEq_1, pNe_1, pEq_2, pNe_2, pEq_3n, pNe_3n, pEq_3s, pNe_3s, pEq_3t, pNe_3t, pEq_5n, pNe_5n, pEq_5s, pNe_5s, pEq_5t, pNe_5t, pEq_4n, pNe_4n, pEq_4s, pNe_4s, pNot_v, pNeg_v, pCom_v, pConv_v, pConvS_v, pMin_v, pMax_v, pFieldAddr_v, pField1_v, pFieldN_v, pExtract_v, pIdxArr_v, pIdxSl_v, pIdxStr_v, pBounds_00, pBounds_10, pBounds_01, pBounds_11, pSlStr_v, pSlSl_v, pSlArr_v, pLenS_v, pLen_v, pCap_v, pBuild_n, pBuild_c, cells_int, cells_str, cells_bool, cells_ptr, cells_slice, cells_map, cells_agg, oneCell_int, oneCell_str, oneCell_bool, oneCell_ptr, oneCell_slice, oneCell_map, putL_cons, putL_nil, pAnd_pure, pOr_pure, pAnd_pureE, pOr_pureE, pAnd_false, pOr_true, pCond_true, pCond_false, add_mk, bys_mk, bys_size, cond_true, cond_false, decide_true, decide_false, decide_not', dec_and, dec_or, dec_eqt, Bool.not_true, Bool.not_false, Option.isNone_none, Option.isNone_some, Option.map_some, Option.map_none, List.getElem?_toArray, List.getElem?_cons_zero, List.getElem?_cons_succ, List.size_toArray, List.length_cons, List.length_nil, List.length_replicate, List.set_cons_zero, List.set_cons_succ, Nat.reduceAdd, Nat.reduceMul, Nat.reduceSub, Nat.reduceLeDiff, Nat.zero_add, Nat.add_zero, Nat.zero_le, true_and, and_true, not_false_eq_true, ne_eq, Int.reduceNeg, Int.reduceEq, Int.reduceNe, Int.reduceLT, Int.reduceLE, le_refl', List.setIfInBounds_toArray, Nat.reduceLT, Array.size_setIfInBounds, if_true, if_false, reduceCtorEq, List.toArray_toList', List.drop_succ_cons, List.drop_zero, List.take_succ_cons, List.take_zero, List.nil_append, List.append_nil, List.cons_append, Bool.and_true, Bool.true_and, Bool.or_false, Bool.false_or, Bool.and_false, Bool.or_true, Bool.true_or, Bool.false_and, eq_self, pLoad_at b2]
  rw [w64 (by omega) (by omega)]
  refine pStore_upd b2 (by simp [T6.cells]) rfl fun H3 _ u3 => ?_
  have b3 : H3[H.size]? = some (T6.robj ⟨t.y, t.m, t.d + 1, t.h, t.n, t.s⟩) := u3.at_
  have c3 := u3.keep c2 (by omega)
  have x3 : Ext H H3 := u3.ext (e1.trans e2) (by omega)
  have hlt : H.size < H1.size := by omega
  generalize H1.size = c at *
  generalize hb : H.size = b at *
  refine ⟨fun H' => H'[b]? = some (T6.robj (if daysI t.y t.m < t.d + 1 then ⟨t.y, t.m + 1, 1, t.h, t.n, t.s⟩ else ⟨t.y, t.m, t.d + 1, t.h, t.n, t.s⟩)) ∧ H'[c]? = some T6.zero.robj ∧ Ext H H', ?_, ?_⟩
  · rintro _ H4 ⟨b4, c4, x4⟩
    by_cases hc : daysI t.y t.m < t.d + 1
    · rw [if_pos hc] at b4
      simp only [nextT, if_pos hc] at h
      refine pLoad_l b4 rfl ?_
      simp only [pPick_v, pNil_v, pNil_f, pAdd_v, pSub_v, pMul_v, pAdd_s, pQuo_v, pRem_v, pBits_v, pShl_v, pShr_v, pLt_v, pLe_v, pGt_v, pGe_v, pEq_0, pNe_0, pEq_1, pNe_1, pEq_2, pNe_2, pEq_3n, pNe_3n, pEq_3s, pNe_3s, pEq_3t, pNe_3t, pEq_5n, pNe_5n, pEq_5s, pNe_5s, pEq_5t, pNe_5t, pEq_4n, pNe_4n, pEq_4s, pNe_4s, pNot_v, pNeg_v, pCom_v, pConv_v, pConvS_v, pMin_v, pMax_v, pFieldAddr_v, pField1_v, pFieldN_v, pExtract_v, pIdxArr_v, pIdxSl_v, pIdxStr_v, pBounds_00, pBounds_10, pBounds_01, pBounds_11, pSlStr_v, pSlSl_v, pSlArr_v, pLenS_v, pLen_v, pCap_v, pBuild_n, pBuild_c, cells_int, cells_str, cells_bool, cells_ptr, cells_slice, cells_map, cells_agg, oneCell_int, oneCell_str, oneCell_bool, oneCell_ptr, oneCell_slice, oneCell_map, putL_cons, putL_nil, pAnd_pure, pOr_pure, pAnd_pureE, pOr_pureE, pAnd_false, pOr_true, pCond_true, pCond_false, add_mk, bys_mk, bys_size, cond_true, cond_false, decide_true, decide_false, decide_not', dec_and, dec_or, dec_eqt, Bool.not_true, Bool.not_false, Option.isNone_none, Option.isNone_some, Option.map_some, Option.map_none, List.getElem?_toArray, List.getElem?_cons_zero, List.getElem?_cons_succ, List.size_toArray, List.length_cons, List.length_nil, List.length_replicate, List.set_cons_zero, List.set_cons_succ, Nat.reduceAdd, Nat.reduceMul, Nat.reduceSub, Nat.reduceLeDiff, Nat.zero_add, Nat.add_zero, Nat.zero_le, true_and, and_true, not_false_eq_true, ne_eq, Int.reduceNeg, Int.reduceEq, Int.reduceNe, Int.reduceLT, Int.reduceLE, le_refl', List.setIfInBounds_toArray, Nat.reduceLT, Array.size_setIfInBounds, if_true, if_false, reduceCtorEq, List.toArray_toList', List.drop_succ_cons, List.drop_zero, List.take_succ_cons, List.take_zero, List.nil_append, List.append_nil, List.cons_append, Bool.and_true, Bool.true_and, Bool.or_false, Bool.false_or, Bool.and_false, Bool.or_true, Bool.true_or, Bool.false_and, eq_self]
      refine pCond_if (fun hc2 => ?_) (fun hc2 => ?_)
      · rw [if_pos hc2] at h
        refine pStore_upd b4 (by simp [T6.cells]) rfl fun H5 _ u5 => ?_
        have b5 : H5[b]? = some (T6.robj ⟨t.y, 1, 1, t.h, t.n, t.s⟩) := u5.at_
        refine pLoad_l b5 rfl ?_
        simp only [pPick_v, pNil_v, pNil_f, pAdd_v, pSub_v, pMul_v, pAdd_s, pQuo_v, pRem_v, pBits_v, pShl_v, pShr_v, pLt_v, pLe_v, pGt_v, pGe_v, pEq_0, pNe_0, pEq_1, pNe_1, pEq_2, pNe_2, pEq_3n, pNe_3n, pEq_3s, pNe_3s, pEq_3t, pNe_3t, pEq_5n, pNe_5n, pEq_5s, pNe_5s, pEq_5t, pNe_5t, pEq_4n, pNe_4n, pEq_4s, pNe_4s, pNot_v, pNeg_v, pCom_v, pConv_v, pConvS_v, pMin_v, pMax_v, pFieldAddr_v, pField1_v, pFieldN_v, pExtract_v, pIdxArr_v, pIdxSl_v, pIdxStr_v, pBounds_00, pBounds_10, pBounds_01, pBounds_11, pSlStr_v, pSlSl_v, pSlArr_v, pLenS_v, pLen_v, pCap_v, pBuild_n, pBuild_c, cells_int, cells_str, cells_bool, cells_ptr, cells_slice, cells_map, cells_agg, oneCell_int, oneCell_str, oneCell_bool, oneCell_ptr, oneCell_slice, oneCell_map, putL_cons, putL_nil, pAnd_pure, pOr_pure, pAnd_pureE, pOr_pureE, pAnd_false, pOr_true, pCond_true, pCond_false, add_mk, bys_mk, bys_size, cond_true, cond_false, decide_true, decide_false, decide_not', dec_and, dec_or, dec_eqt, Bool.not_true, Bool.not_false, Option.isNone_none, Option.isNone_some, Option.map_some, Option.map_none, List.getElem?_toArray, List.getElem?_cons_zero, List.getElem?_cons_succ, List.size_toArray, List.length_cons, List.length_nil, List.length_replicate, List.set_cons_zero, List.set_cons_succ, Nat.reduceAdd, Nat.reduceMul, Nat.reduceSub, Nat.reduceLeDiff, Nat.zero_add, Nat.add_zero, Nat.zero_le, true_and, and_true, not_false_eq_true, ne_eq, Int.reduceNeg, Int.reduceEq, Int.reduceNe, Int.reduceLT, Int.reduceLE, le_refl', List.setIfInBounds_toArray, Nat.reduceLT, Array.size_setIfInBounds, if_true, if_false, reduceCtorEq, List.toArray_toList', List.drop_succ_cons, List.drop_zero, List.take_succ_cons, List.take_zero, List.nil_append, List.append_nil, List.cons_append, Bool.and_true, Bool.true_and, Bool.or_false, Bool.false_or, Bool.and_false, Bool.or_true, Bool.true_or, Bool.false_and, eq_self]
        rw [w64 (by omega) (by omega)]
        refine pStore_upd b5 (by simp [T6.cells]) rfl fun H6 _ u6 => ?_
        have b6 : H6[b]? = some (T6.robj ⟨t.y + 1, 1, 1, t.h, t.n, t.s⟩) := u6.at_
        rw [pLoadN_blk b6 (by rfl)]
        refine pStoreN_upd (u6.keep (u5.keep c4 (by omega)) (by omega)) (by rfl) (by rfl) (by rfl) fun H7 _ u7 => ?_
        rw [pLoadN_blk u7.at_ (by rfl)]
        exact h H7 (u7.ext (u6.ext (u5.ext x4 (by omega)) (by omega)) (by omega))
      · rw [if_neg hc2] at h
        rw [pLoadN_blk b4 (by rfl)]
        refine pStoreN_upd c4 (by rfl) (by rfl) (by rfl) fun H7 _ u7 => ?_
        rw [pLoadN_blk u7.at_ (by rfl)]
        exact h H7 (u7.ext x4 (by omega))
    · rw [if_neg hc] at b4
      simp only [nextT, if_neg hc] at h
      refine pLoad_l b4 rfl ?_
      simp only [pPick_v, pNil_v, pNil_f, pAdd_v, pSub_v, pMul_v, pAdd_s, pQuo_v, pRem_v, pBits_v, pShl_v, pShr_v, pLt_v, pLe_v, pGt_v, pGe_v, pEq_0, pNe_0, pEq_1, pNe_1, pEq_2, pNe_2, pEq_3n, pNe_3n, pEq_3s, pNe_3s, pEq_3t, pNe_3t, pEq_5n, pNe_5n, pEq_5s, pNe_5s, pEq_5t, pNe_5t, pEq_4n, pNe_4n, pEq_4s, pNe_4s, pNot_v, pNeg_v, pCom_v, pConv_v, pConvS_v, pMin_v, pMax_v, pFieldAddr_v, pField1_v, pFieldN_v, pExtract_v, pIdxArr_v, pIdxSl_v, pIdxStr_v, pBounds_00, pBounds_10, pBounds_01, pBounds_11, pSlStr_v, pSlSl_v, pSlArr_v, pLenS_v, pLen_v, pCap_v, pBuild_n, pBuild_c, cells_int, cells_str, cells_bool, cells_ptr, cells_slice, cells_map, cells_agg, oneCell_int, oneCell_str, oneCell_bool, oneCell_ptr, oneCell_slice, oneCell_map, putL_cons, putL_nil, pAnd_pure, pOr_pure, pAnd_pureE, pOr_pureE, pAnd_false, pOr_true, pCond_true, pCond_false, add_mk, bys_mk, bys_size, cond_true, cond_false, decide_true, decide_false, decide_not', dec_and, dec_or, dec_eqt, Bool.not_true, Bool.not_false, Option.isNone_none, Option.isNone_some, Option.map_some, Option.map_none, List.getElem?_toArray, List.getElem?_cons_zero, List.getElem?_cons_succ, List.size_toArray, List.length_cons, List.length_nil, List.length_replicate, List.set_cons_zero, List.set_cons_succ, Nat.reduceAdd, Nat.reduceMul, Nat.reduceSub, Nat.reduceLeDiff, Nat.zero_add, Nat.add_zero, Nat.zero_le, true_and, and_true, not_false_eq_true, ne_eq, Int.reduceNeg, Int.reduceEq, Int.reduceNe, Int.reduceLT, Int.reduceLE, le_refl', List.setIfInBounds_toArray, Nat.reduceLT, Array.size_setIfInBounds, if_true, if_false, reduceCtorEq, List.toArray_toList', List.drop_succ_cons, List.drop_zero, List.take_succ_cons, List.take_zero, List.nil_append, List.append_nil, List.cons_append, Bool.and_true, Bool.true_and, Bool.or_false, Bool.false_or, Bool.and_false, Bool.or_true, Bool.true_or, Bool.false_and, eq_self]
      rw [decide_eq_false (by omega), pCond_false]
      rw [pLoadN_blk b4 (by rfl)]
      refine pStoreN_upd c4 (by rfl) (by rfl) (by rfl) fun H7 _ u7 => ?_
      rw [pLoadN_blk u7.at_ (by rfl)]
      exact h H7 (u7.ext x4 (by omega))
  · refine pLoad_l b3 rfl (pLoad_l b3 rfl (pLoad_l b3 rfl ?_))
    refine refDays_spec fun H4 e4 => ?_
    have b4 := e4.blk b3
    have c4 := e4.blk c3
    refine ⟨pLoad_l b4 rfl rfl, ?_⟩
    simp only [pPick_v, pNil_v, pNil_f, pAdd_v, pSub_v, pMul_v, pAdd_s, pQuo_v, pRem_v, pBits_v, pShl_v, pShr_v, pLt_v, pLe_v, pGt_v, pGe_v, pEq_0, pNe_0, pEq_1, pNe_1, pEq_2, pNe_2, pEq_3n, pNe_3n, pEq_3s, pNe_3s, pEq_3t, pNe_3t, pEq_5n, pNe_5n, pEq_5s, pNe_5s, pEq_5t, pNe_5t, pEq_4n, pNe_4n, pEq_4s, pNe_4s, pNot_v, pNeg_v, pCom_v, pConv_v, pConvS_v, pMin_v, pMax_v, pFieldAddr_v, pField1_v, pFieldN_v, pExtract_v, pIdxArr_v, pIdxSl_v, pIdxStr_v, pBounds_00, pBounds_10, pBounds_01, pBounds_11, pSlStr_v, pSlSl_v, pSlArr_v, pLenS_v, pLen_v, pCap_v, pBuild_n, pBuild_c, cells_int, cells_str, cells_bool, cells_ptr, cells_slice, cells_map, cells_agg, oneCell_int, oneCell_str, oneCell_bool, oneCell_ptr, oneCell_slice, oneCell_map, putL_cons, putL_nil, pAnd_pure, pOr_pure, pAnd_pureE, pOr_pureE, pAnd_false, pOr_true, pCond_true, pCond_false, add_mk, bys_mk, bys_size, cond_true, cond_false, decide_true, decide_false, decide_not', dec_and, dec_or, dec_eqt, Bool.not_true, Bool.not_false, Option.isNone_none, Option.isNone_some, Option.map_some, Option.map_none, List.getElem?_toArray, List.getElem?_cons_zero, List.getElem?_cons_succ, List.size_toArray, List.length_cons, List.length_nil, List.length_replicate, List.set_cons_zero, List.set_cons_succ, Nat.reduceAdd, Nat.reduceMul, Nat.reduceSub, Nat.reduceLeDiff, Nat.zero_add, Nat.add_zero, Nat.zero_le, true_and, and_true, not_false_eq_true, ne_eq, Int.reduceNeg, Int.reduceEq, Int.reduceNe, Int.reduceLT, Int.reduceLE, le_refl', List.setIfInBounds_toArray, Nat.reduceLT, Array.size_setIfInBounds, if_true, if_false, reduceCtorEq, List.toArray_toList', List.drop_succ_cons, List.drop_zero, List.take_succ_cons, List.take_zero, List.nil_append, List.append_nil, List.cons_append, Bool.and_true, Bool.true_and, Bool.or_false, Bool.false_or, Bool.and_false, Bool.or_true, Bool.true_or, Bool.false_and, eq_self]
    refine pCond_if (fun hc => ?_) (fun hc => ?_)
    · refine pStore_upd b4 (by simp [T6.cells]) rfl fun H5 _ u5 => ?_
      have b5 : H5[b]? = some (T6.robj ⟨t.y, t.m, 1, t.h, t.n, t.s⟩) := u5.at_
      refine pLoad_l b5 rfl ?_
      simp only [pPick_v, pNil_v, pNil_f, pAdd_v, pSub_v, pMul_v, pAdd_s, pQuo_v, pRem_v, pBits_v, pShl_v, pShr_v, pLt_v, pLe_v, pGt_v, pGe_v, pEq_0, pNe_0, pEq_1, pNe_1, pEq_2, pNe_2, pEq_3n, pNe_3n, pEq_3s, pNe_3s, pEq_3t, pNe_3t, pEq_5n, pNe_5n, pEq_5s, pNe_5s, pEq_5t, pNe_5t, pEq_4n, pNe_4n, pEq_4s, pNe_4s, pNot_v, pNeg_v, pCom_v, pConv_v, pConvS_v, pMin_v, pMax_v, pFieldAddr_v, pField1_v, pFieldN_v, pExtract_v, pIdxArr_v, pIdxSl_v, pIdxStr_v, pBounds_00, pBounds_10, pBounds_01, pBounds_11, pSlStr_v, pSlSl_v, pSlArr_v, pLenS_v, pLen_v, pCap_v, pBuild_n, pBuild_c, cells_int, cells_str, cells_bool, cells_ptr, cells_slice, cells_map, cells_agg, oneCell_int, oneCell_str, oneCell_bool, oneCell_ptr, oneCell_slice, oneCell_map, putL_cons, putL_nil, pAnd_pure, pOr_pure, pAnd_pureE, pOr_pureE, pAnd_false, pOr_true, pCond_true, pCond_false, add_mk, bys_mk, bys_size, cond_true, cond_false, decide_true, decide_false, decide_not', dec_and, dec_or, dec_eqt, Bool.not_true, Bool.not_false, Option.isNone_none, Option.isNone_some, Option.map_some, Option.map_none, List.getElem?_toArray, List.getElem?_cons_zero, List.getElem?_cons_succ, List.size_toArray, List.length_cons, List.length_nil, List.length_replicate, List.set_cons_zero, List.set_cons_succ, Nat.reduceAdd, Nat.reduceMul, Nat.reduceSub, Nat.reduceLeDiff, Nat.zero_add, Nat.add_zero, Nat.zero_le, true_and, and_true, not_false_eq_true, ne_eq, Int.reduceNeg, Int.reduceEq, Int.reduceNe, Int.reduceLT, Int.reduceLE, le_refl', List.setIfInBounds_toArray, Nat.reduceLT, Array.size_setIfInBounds, if_true, if_false, reduceCtorEq, List.toArray_toList', List.drop_succ_cons, List.drop_zero, List.take_succ_cons, List.take_zero, List.nil_append, List.append_nil, List.cons_append, Bool.and_true, Bool.true_and, Bool.or_false, Bool.false_or, Bool.and_false, Bool.or_true, Bool.true_or, Bool.false_and, eq_self]
      rw [w64 (by omega) (by omega)]
      refine pStore_upd b5 (by simp [T6.cells]) rfl fun H6 _ u6 => ?_
      refine ⟨?_, u6.keep (u5.keep c4 (by omega)) (by omega), u6.ext (u5.ext (x3.trans e4) (by omega)) (by omega)⟩
      rw [if_pos hc]
      exact u6.at_
    · rw [if_neg hc]
      exact ⟨b4, c4, x3.trans e4⟩
theorem pNeA_T6 {t u : T6} {K : Value → Prop} : pNeA [0, 0, 0, 0, 0, 0] t.v u.v K = K (.bool (!decide (t = u))) := by
  have e : decide (t = u) = (decide (t.y = u.y) && (decide (t.m = u.m) && (decide (t.d = u.d) && (decide (t.h = u.h) && (decide (t.n = u.n) && (decide (t.s = u.s) && true)))))) := by
    cases t; cases u
    rw [Bool.eq_iff_iff]
    simp [and_assoc]
  simp only [pNeA, eqCells, eqK, if_true, e]
end Go.Proofs.YtildpckmmkphcaaDoor
