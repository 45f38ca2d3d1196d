/- dos.Number, its way back, and package lighterref11. -/
import Derived.Test.YtildpckmmkphcaaDoorDos
import Derived.Test.YtildpckmmkphcaaDoorResA
namespace Go.Proofs.YtildpckmmkphcaaDoor
-- only what is there
open Go Go.Vc Go.Proofs
set_option linter.unusedVariables false
set_option linter.unusedSimpArgs false
variable {H : Heap} {R : Value → Heap → Prop}
/-- the days of k years from y on, of k months from m on -/
def sumY : Nat → Int → Int
  | 0, _ => 0
  | k + 1, y => inYear y + sumY k (y + 1)
def sumM : Nat → Int → Int → Int
  | 0, _, _ => 0
  | k + 1, y, m => daysI y m + sumM k y (m + 1)
theorem sumY_end : ∀ (k : Nat) (y : Int), sumY (k + 1) y = sumY k y + inYear (y + k)
  | 0, y => by simp [sumY]
  | k + 1, y => by
    have := sumY_end k (y + 1)
    rw [sumY, this, sumY, show y + 1 + (k : Int) = y + ((k + 1 : Nat) : Int) by omega]
    omega
theorem sumM_end : ∀ (k : Nat) (y m : Int), sumM (k + 1) y m = sumM k y m + daysI y (m + k)
  | 0, y, m => by simp [sumM]
  | k + 1, y, m => by
    have := sumM_end k y (m + 1)
    rw [sumM, this, sumM, show m + 1 + (k : Int) = m + ((k + 1 : Nat) : Int) by omega]
    omega
def numI (t : T6) : Int := (t.d - 1 + sumY (t.y - 1980).toNat 1980 + sumM (t.m - 1).toNat t.y 1) * 43200 + (t.h * 60 + t.n) * 30 + t.s / 2
theorem inYear_two (y : Int) : 365 ≤ inYear y ∧ inYear y ≤ 366 := by have := days_two y; unfold inYear; omega
theorem sumY_bounds : ∀ (k : Nat) (y : Int), 0 ≤ sumY k y ∧ sumY k y ≤ 366 * k
  | 0, y => by simp [sumY]
  | k + 1, y => by
    have := sumY_bounds k (y + 1)
    have := inYear_two y
    simp only [sumY]
    omega
theorem days_bounds (y m : Int) : 0 ≤ daysI y m ∧ daysI y m ≤ 31 := by
  unfold daysI
  split
  · decide
  · split
    · split <;> decide
    · split <;> decide
theorem sumM_bounds : ∀ (k : Nat) (y m : Int), 0 ≤ sumM k y m ∧ sumM k y m ≤ 31 * k
  | 0, y, m => by simp [sumM]
  | k + 1, y, m => by
    have := sumM_bounds k y (m + 1)
    have := days_bounds y m
    simp only [sumM]
    omega
theorem good_facts {t : T6} (h : goodB t = true) : 1980 ≤ t.y ∧ t.y ≤ 2107 ∧ 1 ≤ t.m ∧ t.m ≤ 12 ∧ 1 ≤ t.d ∧ t.d ≤ daysI t.y t.m ∧ 0 ≤ t.h ∧ t.h < 24 ∧ 0 ≤ t.n ∧ t.n < 60 ∧ 0 ≤ t.s ∧ t.s < 60 ∧ t.s % 2 = 0 := by
  simp only [goodB, decide_eq_true_eq] at h
  obtain ⟨h1, h2, h3, h4, h5, h6, h7, h8, h9, h10, h11⟩ := h
  have hm : 1 ≤ t.m ∧ t.m ≤ 12 := by
    rcases Int.lt_or_le t.m 1 with hl | hl
    · rw [daysI, if_neg (by omega), if_neg (by omega), if_pos (by omega)] at h4; omega
    · rcases Int.lt_or_le 12 t.m with hl | hl
      · rw [daysI, if_neg (by omega), if_neg (by omega), if_pos (by omega)] at h4; omega
      · omega
  rw [Int.tmod_eq_emod_of_nonneg h9] at h11
  exact ⟨h1, h2, hm.1, hm.2, h3, h4, h5, h6, h7, h8, h9, h10, h11⟩
theorem years_sum : ∀ (k fuel : Nat) (y e : Int), k < fuel → 0 ≤ e → e < inYear (y + k) → yearsF fuel y (sumY k y + e) = (y + k, e)
  | 0, fuel + 1, y, e, _, h0, h1 => by
    rw [sumY, yearsF, Int.zero_add, if_pos (by simpa using h1)]; simp
  | k + 1, fuel + 1, y, e, hk, h0, h1 => by
    have := sumY_bounds k (y + 1)
    rw [sumY, yearsF, if_neg (by omega), show inYear y + sumY k (y + 1) + e - inYear y = sumY k (y + 1) + e by omega,
      years_sum k fuel (y + 1) e (by omega) h0 (by rw [show y + 1 + (k : Int) = y + ((k + 1 : Nat) : Int) by omega]; exact h1), show y + 1 + (k : Int) = y + ((k + 1 : Nat) : Int) by omega]
theorem mons_sum : ∀ (k fuel : Nat) (y m e : Int), k ≤ fuel → 0 ≤ e → e < daysI y (m + k) → monsF fuel y m (sumM k y m + e) = (m + k, e)
  | 0, 0, y, m, e, _, h0, h1 => by simp [sumM, monsF]
  | 0, fuel + 1, y, m, e, _, h0, h1 => by
    rw [sumM, monsF, Int.zero_add, if_neg (by have h1 : e < daysI y m := by simpa using h1
                                              omega)]; simp
  | k + 1, fuel + 1, y, m, e, hk, h0, h1 => by
    have := sumM_bounds k y (m + 1)
    rw [sumM, monsF, if_pos (by omega), show daysI y m + sumM k y (m + 1) + e - daysI y m = sumM k y (m + 1) + e by omega,
      mons_sum k fuel y (m + 1) e (by omega) h0 (by rw [show m + 1 + (k : Int) = m + ((k + 1 : Nat) : Int) by omega]; exact h1), show m + 1 + (k : Int) = m + ((k + 1 : Nat) : Int) by omega]
theorem sumM_rest : ∀ (k j : Nat) (y m : Int), sumM k y m + restF j y (m + k) = restF (j + k) y m
  | 0, j, y, m => by simp [sumM]
  | k + 1, j, y, m => by
    have := sumM_rest k j y (m + 1)
    rw [sumM, show j + (k + 1) = (j + k) + 1 by omega, restF, ← this, show m + 1 + (k : Int) = m + ((k + 1 : Nat) : Int) by omega]
    omega
theorem rest_ge : ∀ (j : Nat) (y m : Int), daysI y m ≤ restF j y m
  | 0, y, m => by simp [restF]
  | j + 1, y, m => by
    have := rest_ge j y (m + 1)
    have := days_bounds y (m + 1)
    simp only [restF]; omega
theorem of_num {t : T6} (h : goodB t = true) : ofT (numI t) = some t ∧ 0 ≤ numI t ∧ numI t < 43200 * 46751 := by
  obtain ⟨hy0, hy1, hm0, hm1, hd0, hd1, hh0, hh1, hn0, hn1, hs0, hs1, hs2⟩ := good_facts h
  obtain ⟨y, m, d, hr, n, s⟩ := t
  dsimp only at *
  have b1 := sumY_bounds (y - 1980).toNat 1980
  have b2 := sumM_bounds (m - 1).toNat y 1
  have hin : sumM (m - 1).toNat y 1 + (d - 1) < inYear y := by
    have e1 := sumM_rest (m - 1).toNat (12 - m).toNat y 1
    rw [show (12 - m).toNat + (m - 1).toNat = 11 by omega, rest_all, show (1 : Int) + ((m - 1).toNat : Int) = m by omega] at e1
    have := rest_ge (12 - m).toNat y m
    omega
  have hY := years_sum (y - 1980).toNat 128 1980 (sumM (m - 1).toNat y 1 + (d - 1)) (by omega) (by omega) (by rw [show (1980 : Int) + ((y - 1980).toNat : Int) = y by omega]; exact hin)
  have hM := mons_sum (m - 1).toNat 11 y 1 (d - 1) (by omega) (by omega) (by rw [show (1 : Int) + ((m - 1).toNat : Int) = m by omega]; omega)
  rw [show (1980 : Int) + ((y - 1980).toNat : Int) = y by omega] at hY
  rw [show (1 : Int) + ((m - 1).toNat : Int) = m by omega] at hM
  have hall : sumY 128 1980 = 46751 := by decide +kernel
  have hle : ∀ k : Nat, sumY (128 - k) 1980 + 365 * k ≤ 46751 ∨ 128 < k := by
    intro k
    induction k with
    | zero => left; rw [show 128 - 0 = 128 by omega, hall]; decide
    | succ k ih =>
      rcases Nat.lt_or_ge 127 k with hk | hk
      · right; omega
      · left
        rcases ih with ih | ih
        · have := sumY_end (128 - (k + 1)) 1980
          rw [show 128 - (k + 1) + 1 = 128 - k by omega] at this
          have := inYear_two (1980 + ((128 - (k + 1) : Nat) : Int))
          omega
        · omega
  have hlt : sumY (y - 1980).toNat 1980 + inYear y ≤ 46751 := by
    have e2 := sumY_end (y - 1980).toNat 1980
    rw [show (1980 : Int) + ((y - 1980).toNat : Int) = y by omega] at e2
    rcases hle (128 - ((y - 1980).toNat + 1)) with h' | h'
    · rw [show 128 - (128 - ((y - 1980).toNat + 1)) = (y - 1980).toNat + 1 by omega] at h'
      omega
    · omega
  have hnum : numI ⟨y, m, d, hr, n, s⟩ = (d - 1 + sumY (y - 1980).toNat 1980 + sumM (m - 1).toNat y 1) * 43200 + (hr * 60 + n) * 30 + s / 2 := rfl
  generalize sumY (y - 1980).toNat 1980 = A at *
  generalize sumM (m - 1).toNat y 1 = B at *
  have hq : numI ⟨y, m, d, hr, n, s⟩ / 43200 = A + (B + (d - 1)) := by rw [hnum]; omega
  have hr' : numI ⟨y, m, d, hr, n, s⟩ % 43200 = (hr * 60 + n) * 30 + s / 2 := by rw [hnum]; omega
  refine ⟨?_, by rw [hnum]; omega, by rw [hnum]; omega⟩
  rw [ofT, if_neg (by rw [hnum]; omega), hq, hY]
  dsimp only
  rw [if_neg (by omega), hM, hr']
  dsimp only
  simp only [Option.some.injEq, T6.mk.injEq]
  exact ⟨trivial, trivial, by omega, by omega, by omega, by omega⟩
theorem number_spec {t : T6} (h : ∀ H', Ext H H' → R (.int .i64 (if goodB t then numI t else -1)) H') : CallsH Tryd.prog 16 #[t.v] H R := by
  refine dos_Time_Number.vc _ _ _ ?_
  unfold dos_Time_Number.res
  refine pBox_ext fun H1 s1 e1 b1 => ?_
  have b1 : H1[H.size]? = some t.obj := b1
  rw [pLoadN_blk b1 (by rfl)]
  refine good_spec fun H2 e2 => ?_
  have b2 := e2.blk b1
  have h := h H2 (e1.trans e2)
  simp only [pPick_v, pNil_v, pNil_f, pAdd_v, pSub_v, pMul_v, pAdd_s, pQuo_v, pRem_v, pBits_v, pShl_v, pShr_v, pLt_v, pLe_v, pGt_v, pGe_v, pEq_0, pNe_0, pEq_1, pNe_1, pEq_2, pNe_2, pEq_3n, pNe_3n, pEq_3s, pNe_3s, pEq_3t, pNe_3t, pEq_5n, pNe_5n, pEq_5s, pNe_5s, pEq_5t, pNe_5t, pEq_4n, pNe_4n, pEq_4s, pNe_4s, pNot_v, pNeg_v, pCom_v, pConv_v, pConvS_v, pMin_v, pMax_v, pFieldAddr_v, pField1_v, pFieldN_v, pExtract_v, pIdxArr_v, pIdxSl_v, pIdxStr_v, pBounds_00, pBounds_10, pBounds_01, pBounds_11, pSlStr_v, pSlSl_v, pSlArr_v, pLenS_v, pLen_v, pCap_v, pBuild_n, pBuild_c, cells_int, cells_str, cells_bool, cells_ptr, cells_slice, cells_map, cells_agg, oneCell_int, oneCell_str, oneCell_bool, oneCell_ptr, oneCell_slice, oneCell_map, putL_cons, putL_nil, pAnd_pure, pOr_pure, pAnd_pureE, pOr_pureE, pAnd_false, pOr_true, pCond_true, pCond_false, add_mk, bys_mk, bys_size, cond_true, cond_false, decide_true, decide_false, decide_not', dec_and, dec_or, dec_eqt, Bool.not_true, Bool.not_false, Option.isNone_none, Option.isNone_some, Option.map_some, Option.map_none, List.getElem?_toArray, List.getElem?_cons_zero, List.getElem?_cons_succ, List.size_toArray, List.length_cons, List.length_nil, List.length_replicate, List.set_cons_zero, List.set_cons_succ, Nat.reduceAdd, Nat.reduceMul, Nat.reduceSub, Nat.reduceLeDiff, Nat.zero_add, Nat.add_zero, Nat.zero_le, true_and, and_true, not_false_eq_true, ne_eq, Int.reduceNeg, Int.reduceEq, Int.reduceNe, Int.reduceLT, Int.reduceLE, le_refl', List.setIfInBounds_toArray, Nat.reduceLT, Array.size_setIfInBounds, if_true, if_false, reduceCtorEq, List.toArray_toList', List.drop_succ_cons, List.drop_zero, List.take_succ_cons, List.take_zero, List.nil_append, List.append_nil, List.cons_append, Bool.and_true, Bool.true_and, Bool.or_false, Bool.false_or, Bool.and_false, Bool.or_true, Bool.true_or, Bool.false_and, eq_self, pLoad_at b2]
  refine pCond_b (fun hg => ?_) (fun hg => ?_)
  · rw [if_neg (by simpa using hg)] at h; exact h
  have hg : goodB t = true := by simpa using hg
  rw [if_pos hg] at h
  obtain ⟨hy0, hy1, hm0, hm1, hd0, hd1, hh0, hh1, hn0, hn1, hs0, hs1, hs2⟩ := good_facts hg
  have hd2 := days_bounds t.y t.m
  rw [w64 (by omega) (by omega)]
  refine ⟨fun v u H' => ∃ k : Nat, v = .int .i64 (t.d - 1 + sumY k 1980) ∧ u = .int .i64 (1980 + k) ∧ H2 = H' ∧ k ≤ t.y - 1980, fun _ u _ => match u with | .int _ y => (2200 - y).toNat | _ => 0, ⟨0, by simp [sumY], rfl, rfl, by omega⟩, ?_⟩
  rintro _ _ _ _ ⟨k, rfl, rfl, rfl, hk⟩
  simp only [pPick_v, pNil_v, pNil_f, pAdd_v, pSub_v, pMul_v, pAdd_s, pQuo_v, pRem_v, pBits_v, pShl_v, pShr_v, pLt_v, pLe_v, pGt_v, pGe_v, pEq_0, pNe_0, pEq_1, pNe_1, pEq_2, pNe_2, pEq_3n, pNe_3n, pEq_3s, pNe_3s, pEq_3t, pNe_3t, pEq_5n, pNe_5n, pEq_5s, pNe_5s, pEq_5t, pNe_5t, pEq_4n, pNe_4n, pEq_4s, pNe_4s, pNot_v, pNeg_v, pCom_v, pConv_v, pConvS_v, pMin_v, pMax_v, pFieldAddr_v, pField1_v, pFieldN_v, pExtract_v, pIdxArr_v, pIdxSl_v, pIdxStr_v, pBounds_00, pBounds_10, pBounds_01, pBounds_11, pSlStr_v, pSlSl_v, pSlArr_v, pLenS_v, pLen_v, pCap_v, pBuild_n, pBuild_c, cells_int, cells_str, cells_bool, cells_ptr, cells_slice, cells_map, cells_agg, oneCell_int, oneCell_str, oneCell_bool, oneCell_ptr, oneCell_slice, oneCell_map, putL_cons, putL_nil, pAnd_pure, pOr_pure, pAnd_pureE, pOr_pureE, pAnd_false, pOr_true, pCond_true, pCond_false, add_mk, bys_mk, bys_size, cond_true, cond_false, decide_true, decide_false, decide_not', dec_and, dec_or, dec_eqt, Bool.not_true, Bool.not_false, Option.isNone_none, Option.isNone_some, Option.map_some, Option.map_none, List.getElem?_toArray, List.getElem?_cons_zero, List.getElem?_cons_succ, List.size_toArray, List.length_cons, List.length_nil, List.length_replicate, List.set_cons_zero, List.set_cons_succ, Nat.reduceAdd, Nat.reduceMul, Nat.reduceSub, Nat.reduceLeDiff, Nat.zero_add, Nat.add_zero, Nat.zero_le, true_and, and_true, not_false_eq_true, ne_eq, Int.reduceNeg, Int.reduceEq, Int.reduceNe, Int.reduceLT, Int.reduceLE, le_refl', List.setIfInBounds_toArray, Nat.reduceLT, Array.size_setIfInBounds, if_true, if_false, reduceCtorEq, List.toArray_toList', List.drop_succ_cons, List.drop_zero, List.take_succ_cons, List.take_zero, List.nil_append, List.append_nil, List.cons_append, Bool.and_true, Bool.true_and, Bool.or_false, Bool.false_or, Bool.and_false, Bool.or_true, Bool.true_or, Bool.false_and, eq_self, pLoad_at b2]
  have bk := sumY_bounds k 1980
  refine pCond_if (fun hc => ?_) (fun hc => ?_)
  · refine days_spec ?_
    have h2 := days_two (1980 + k)
    simp only [pPick_v, pNil_v, pNil_f, pAdd_v, pSub_v, pMul_v, pAdd_s, pQuo_v, pRem_v, pBits_v, pShl_v, pShr_v, pLt_v, pLe_v, pGt_v, pGe_v, pEq_0, pNe_0, pEq_1, pNe_1, pEq_2, pNe_2, pEq_3n, pNe_3n, pEq_3s, pNe_3s, pEq_3t, pNe_3t, pEq_5n, pNe_5n, pEq_5s, pNe_5s, pEq_5t, pNe_5t, pEq_4n, pNe_4n, pEq_4s, pNe_4s, pNot_v, pNeg_v, pCom_v, pConv_v, pConvS_v, pMin_v, pMax_v, pFieldAddr_v, pField1_v, pFieldN_v, pExtract_v, pIdxArr_v, pIdxSl_v, pIdxStr_v, pBounds_00, pBounds_10, pBounds_01, pBounds_11, pSlStr_v, pSlSl_v, pSlArr_v, pLenS_v, pLen_v, pCap_v, pBuild_n, pBuild_c, cells_int, cells_str, cells_bool, cells_ptr, cells_slice, cells_map, cells_agg, oneCell_int, oneCell_str, oneCell_bool, oneCell_ptr, oneCell_slice, oneCell_map, putL_cons, putL_nil, pAnd_pure, pOr_pure, pAnd_pureE, pOr_pureE, pAnd_false, pOr_true, pCond_true, pCond_false, add_mk, bys_mk, bys_size, cond_true, cond_false, decide_true, decide_false, decide_not', dec_and, dec_or, dec_eqt, Bool.not_true, Bool.not_false, Option.isNone_none, Option.isNone_some, Option.map_some, Option.map_none, List.getElem?_toArray, List.getElem?_cons_zero, List.getElem?_cons_succ, List.size_toArray, List.length_cons, List.length_nil, List.length_replicate, List.set_cons_zero, List.set_cons_succ, Nat.reduceAdd, Nat.reduceMul, Nat.reduceSub, Nat.reduceLeDiff, Nat.zero_add, Nat.add_zero, Nat.zero_le, true_and, and_true, not_false_eq_true, ne_eq, Int.reduceNeg, Int.reduceEq, Int.reduceNe, Int.reduceLT, Int.reduceLE, le_refl', List.setIfInBounds_toArray, Nat.reduceLT, Array.size_setIfInBounds, if_true, if_false, reduceCtorEq, List.toArray_toList', List.drop_succ_cons, List.drop_zero, List.take_succ_cons, List.take_zero, List.nil_append, List.append_nil, List.cons_append, Bool.and_true, Bool.true_and, Bool.or_false, Bool.false_or, Bool.and_false, Bool.or_true, Bool.true_or, Bool.false_and, eq_self]
    rw [w64 (n := 337 + _) (by omega) (by omega), w64 (by omega) (by omega), w64 (by omega) (by omega)]
    refine ⟨⟨k + 1, ?_, by congr 1, by omega⟩, by show (_ : Int).toNat < (_ : Int).toNat; omega⟩
    rw [sumY_end, inYear]
    congr 1
    omega
  · refine ⟨fun v u H' => ∃ j : Nat, v = .int .i64 (t.d - 1 + sumY k 1980 + sumM j t.y 1) ∧ u = .int .i64 (1 + j) ∧ H2 = H' ∧ j ≤ t.m - 1, fun _ u _ => match u with | .int _ y => (2200 - y).toNat | _ => 0, ⟨0, by simp [sumM], rfl, rfl, by omega⟩, ?_⟩
    rintro _ _ _ _ ⟨j, rfl, rfl, rfl, hj⟩
    simp only [pPick_v, pNil_v, pNil_f, pAdd_v, pSub_v, pMul_v, pAdd_s, pQuo_v, pRem_v, pBits_v, pShl_v, pShr_v, pLt_v, pLe_v, pGt_v, pGe_v, pEq_0, pNe_0, pEq_1, pNe_1, pEq_2, pNe_2, pEq_3n, pNe_3n, pEq_3s, pNe_3s, pEq_3t, pNe_3t, pEq_5n, pNe_5n, pEq_5s, pNe_5s, pEq_5t, pNe_5t, pEq_4n, pNe_4n, pEq_4s, pNe_4s, pNot_v, pNeg_v, pCom_v, pConv_v, pConvS_v, pMin_v, pMax_v, pFieldAddr_v, pField1_v, pFieldN_v, pExtract_v, pIdxArr_v, pIdxSl_v, pIdxStr_v, pBounds_00, pBounds_10, pBounds_01, pBounds_11, pSlStr_v, pSlSl_v, pSlArr_v, pLenS_v, pLen_v, pCap_v, pBuild_n, pBuild_c, cells_int, cells_str, cells_bool, cells_ptr, cells_slice, cells_map, cells_agg, oneCell_int, oneCell_str, oneCell_bool, oneCell_ptr, oneCell_slice, oneCell_map, putL_cons, putL_nil, pAnd_pure, pOr_pure, pAnd_pureE, pOr_pureE, pAnd_false, pOr_true, pCond_true, pCond_false, add_mk, bys_mk, bys_size, cond_true, cond_false, decide_true, decide_false, decide_not', dec_and, dec_or, dec_eqt, Bool.not_true, Bool.not_false, Option.isNone_none, Option.isNone_some, Option.map_some, Option.map_none, List.getElem?_toArray, List.getElem?_cons_zero, List.getElem?_cons_succ, List.size_toArray, List.length_cons, List.length_nil, List.length_replicate, List.set_cons_zero, List.set_cons_succ, Nat.reduceAdd, Nat.reduceMul, Nat.reduceSub, Nat.reduceLeDiff, Nat.zero_add, Nat.add_zero, Nat.zero_le, true_and, and_true, not_false_eq_true, ne_eq, Int.reduceNeg, Int.reduceEq, Int.reduceNe, Int.reduceLT, Int.reduceLE, le_refl', List.setIfInBounds_toArray, Nat.reduceLT, Array.size_setIfInBounds, if_true, if_false, reduceCtorEq, List.toArray_toList', List.drop_succ_cons, List.drop_zero, List.take_succ_cons, List.take_zero, List.nil_append, List.append_nil, List.cons_append, Bool.and_true, Bool.true_and, Bool.or_false, Bool.false_or, Bool.and_false, Bool.or_true, Bool.true_or, Bool.false_and, eq_self, pLoad_at b2]
    have bj := sumM_bounds j t.y 1
    refine pCond_if (fun hc2 => ?_) (fun hc2 => ?_)
    · refine days_spec ?_
      have h2 := days_bounds t.y (1 + j)
      simp only [pPick_v, pNil_v, pNil_f, pAdd_v, pSub_v, pMul_v, pAdd_s, pQuo_v, pRem_v, pBits_v, pShl_v, pShr_v, pLt_v, pLe_v, pGt_v, pGe_v, pEq_0, pNe_0, pEq_1, pNe_1, pEq_2, pNe_2, pEq_3n, pNe_3n, pEq_3s, pNe_3s, pEq_3t, pNe_3t, pEq_5n, pNe_5n, pEq_5s, pNe_5s, pEq_5t, pNe_5t, pEq_4n, pNe_4n, pEq_4s, pNe_4s, pNot_v, pNeg_v, pCom_v, pConv_v, pConvS_v, pMin_v, pMax_v, pFieldAddr_v, pField1_v, pFieldN_v, pExtract_v, pIdxArr_v, pIdxSl_v, pIdxStr_v, pBounds_00, pBounds_10, pBounds_01, pBounds_11, pSlStr_v, pSlSl_v, pSlArr_v, pLenS_v, pLen_v, pCap_v, pBuild_n, pBuild_c, cells_int, cells_str, cells_bool, cells_ptr, cells_slice, cells_map, cells_agg, oneCell_int, oneCell_str, oneCell_bool, oneCell_ptr, oneCell_slice, oneCell_map, putL_cons, putL_nil, pAnd_pure, pOr_pure, pAnd_pureE, pOr_pureE, pAnd_false, pOr_true, pCond_true, pCond_false, add_mk, bys_mk, bys_size, cond_true, cond_false, decide_true, decide_false, decide_not', dec_and, dec_or, dec_eqt, Bool.not_true, Bool.not_false, Option.isNone_none, Option.isNone_some, Option.map_some, Option.map_none, List.getElem?_toArray, List.getElem?_cons_zero, List.getElem?_cons_succ, List.size_toArray, List.length_cons, List.length_nil, List.length_replicate, List.set_cons_zero, List.set_cons_succ, Nat.reduceAdd, Nat.reduceMul, Nat.reduceSub, Nat.reduceLeDiff, Nat.zero_add, Nat.add_zero, Nat.zero_le, true_and, and_true, not_false_eq_true, ne_eq, Int.reduceNeg, Int.reduceEq, Int.reduceNe, Int.reduceLT, Int.reduceLE, le_refl', List.setIfInBounds_toArray, Nat.reduceLT, Array.size_setIfInBounds, if_true, if_false, reduceCtorEq, List.toArray_toList', List.drop_succ_cons, List.drop_zero, List.take_succ_cons, List.take_zero, List.nil_append, List.append_nil, List.cons_append, Bool.and_true, Bool.true_and, Bool.or_false, Bool.false_or, Bool.and_false, Bool.or_true, Bool.true_or, Bool.false_and, eq_self]
      rw [w64 (by omega) (by omega), w64 (by omega) (by omega)]
      refine ⟨⟨j + 1, ?_, by congr 1, by omega⟩, by show (_ : Int).toNat < (_ : Int).toNat; omega⟩
      rw [sumM_end]
      congr 1
      omega
    · have hk2 : k = (t.y - 1980).toNat := by omega
      have hj2 : j = (t.m - 1).toNat := by omega
      subst hk2 hj2
      have hb := (of_num hg).2
      rw [Int.tdiv_eq_ediv_of_nonneg hs0]
      rw [w64 (n := t.h * 60) (by omega) (by omega), w64 (n := t.h * 60 + t.n) (by omega) (by omega), w64 (n := (t.h * 60 + t.n) * 30) (by omega) (by omega), w64 (n := t.s / 2) (by omega) (by omega), w64 (n := (t.d - 1 + sumY (t.y - 1980).toNat 1980 + sumM (t.m - 1).toNat t.y 1) * 43200) (by omega) (by omega), w64 (n := (t.d - 1 + sumY (t.y - 1980).toNat 1980 + sumM (t.m - 1).toNat t.y 1) * 43200 + (t.h * 60 + t.n) * 30) (by omega) (by omega), w64 (by omega) (by omega)]
      exact h
/-! ### package lighterref11 -/
def T6.robj (t : T6) : Obj := .cells t.cells 28 (0, 0)
def monL : List Value := [.int .i64 31, .int .i64 28, .int .i64 31, .int .i64 30, .int .i64 31, .int .i64 30, .int .i64 31, .int .i64 31, .int .i64 30, .int .i64 31, .int .i64 30, .int .i64 31]
theorem monL_get {y m : Int} (h1 : 1 ≤ m) (h2 : m ≤ 12) : ∃ v, monL[(m - 1).toNat]? = some (.int .i64 v) ∧ daysI y m = (if m = 2 ∧ leapB y = true then v + 1 else v) ∧ 28 ≤ v ∧ v ≤ 31 := by
  have hc : m = 1 ∨ m = 2 ∨ m = 3 ∨ m = 4 ∨ m = 5 ∨ m = 6 ∨ m = 7 ∨ m = 8 ∨ m = 9 ∨ m = 10 ∨ m = 11 ∨ m = 12 := by omega
  rcases hc with rfl | rfl | rfl | rfl | rfl | rfl | rfl | rfl | rfl | rfl | rfl | rfl
  all_goals refine ⟨_, rfl, ?_, by decide, by decide⟩
  all_goals simp [daysI]
theorem refDays_spec {y m : Int} (h : ∀ H', Ext H H' → R (.int .i64 (daysI y m)) H') : CallsH Tryd.prog 15 #[.int .i64 y, .int .i64 m] H R := by
  refine lighterref11_Days.vc _ _ _ _ ?_
  unfold lighterref11_Days.res pBuildSl
  simp only [pPick_v, pNil_v, pNil_f, pAdd_v, pSub_v, pMul_v, pAdd_s, pQuo_v, pRem_v, pBits_v, pShl_v, pShr_v, pLt_v, pLe_v, pGt_v, pGe_v, pEq_0, pNe_0, pEq_1, pNe_1, pEq_2, pNe_2, pEq_3n, pNe_3n, pEq_3s, pNe_3s, pEq_3t, pNe_3t, pEq_5n, pNe_5n, pEq_5s, pNe_5s, pEq_5t, pNe_5t, pEq_4n, pNe_4n, pEq_4s, pNe_4s, pNot_v, pNeg_v, pCom_v, pConv_v, pConvS_v, pMin_v, pMax_v, pFieldAddr_v, pField1_v, pFieldN_v, pExtract_v, pIdxArr_v, pIdxSl_v, pIdxStr_v, pBounds_00, pBounds_10, pBounds_01, pBounds_11, pSlStr_v, pSlSl_v, pSlArr_v, pLenS_v, pLen_v, pCap_v, pBuild_n, pBuild_c, cells_int, cells_str, cells_bool, cells_ptr, cells_slice, cells_map, cells_agg, oneCell_int, oneCell_str, oneCell_bool, oneCell_ptr, oneCell_slice, oneCell_map, putL_cons, putL_nil, pAnd_pure, pOr_pure, pAnd_pureE, pOr_pureE, pAnd_false, pOr_true, pCond_true, pCond_false, add_mk, bys_mk, bys_size, cond_true, cond_false, decide_true, decide_false, decide_not', dec_and, dec_or, dec_eqt, Bool.not_true, Bool.not_false, Option.isNone_none, Option.isNone_some, Option.map_some, Option.map_none, List.getElem?_toArray, List.getElem?_cons_zero, List.getElem?_cons_succ, List.size_toArray, List.length_cons, List.length_nil, List.length_replicate, List.set_cons_zero, List.set_cons_succ, Nat.reduceAdd, Nat.reduceMul, Nat.reduceSub, Nat.reduceLeDiff, Nat.zero_add, Nat.add_zero, Nat.zero_le, true_and, and_true, not_false_eq_true, ne_eq, Int.reduceNeg, Int.reduceEq, Int.reduceNe, Int.reduceLT, Int.reduceLE, le_refl', List.setIfInBounds_toArray, Nat.reduceLT, Array.size_setIfInBounds, if_true, if_false, reduceCtorEq, List.toArray_toList', List.drop_succ_cons, List.drop_zero, List.take_succ_cons, List.take_zero, List.nil_append, List.append_nil, List.cons_append, Bool.and_true, Bool.true_and, Bool.or_false, Bool.false_or, Bool.and_false, Bool.or_true, Bool.true_or, Bool.false_and, eq_self]
  have e1 : Ext H (H.push (.cells monL.toArray 3)) := (Ext.refl H).push
  have g1 : (H.push (.cells monL.toArray 3))[H.size]? = some (.cells monL.toArray 3) := get_push_self
  have h := h _ e1
  change _
  generalize hH : H.push (.cells monL.toArray 3) = H1 at *
  rw [show H.push (Obj.cells #[Value.int .i64 31, .int .i64 28, .int .i64 31, .int .i64 30, .int .i64 31, .int .i64 30, .int .i64 31, .int .i64 31, .int .i64 30, .int .i64 31, .int .i64 30, .int .i64 31] 3) = H1 from hH]
  intros
  refine pCond_if (fun hc => ?_) (fun hc => ?_)
  · have e : daysI y m = 0 := by
      rw [daysI, if_neg (by omega), if_neg (by omega), if_pos (by omega)]
    rw [e] at h; exact h
  rw [w64 (by omega) (by omega)]
  obtain ⟨v, hv, hd, hv0, hv1⟩ := monL_get (y := y) (show 1 ≤ m by omega) (show m ≤ 12 by omega)
  refine ⟨by omega, by omega, ?_⟩
  rw [Nat.mul_one]
  refine pLoad_l g1 hv ?_
  simp only [pPick_v, pNil_v, pNil_f, pAdd_v, pSub_v, pMul_v, pAdd_s, pQuo_v, pRem_v, pBits_v, pShl_v, pShr_v, pLt_v, pLe_v, pGt_v, pGe_v, pEq_0, pNe_0, pEq_1, pNe_1, pEq_2, pNe_2, pEq_3n, pNe_3n, pEq_3s, pNe_3s, pEq_3t, pNe_3t, pEq_5n, pNe_5n, pEq_5s, pNe_5s, pEq_5t, pNe_5t, pEq_4n, pNe_4n, pEq_4s, pNe_4s, pNot_v, pNeg_v, pCom_v, pConv_v, pConvS_v, pMin_v, pMax_v, pFieldAddr_v, pField1_v, pFieldN_v, pExtract_v, pIdxArr_v, pIdxSl_v, pIdxStr_v, pBounds_00, pBounds_10, pBounds_01, pBounds_11, pSlStr_v, pSlSl_v, pSlArr_v, pLenS_v, pLen_v, pCap_v, pBuild_n, pBuild_c, cells_int, cells_str, cells_bool, cells_ptr, cells_slice, cells_map, cells_agg, oneCell_int, oneCell_str, oneCell_bool, oneCell_ptr, oneCell_slice, oneCell_map, putL_cons, putL_nil, pAnd_pure, pOr_pure, pAnd_pureE, pOr_pureE, pAnd_false, pOr_true, pCond_true, pCond_false, add_mk, bys_mk, bys_size, cond_true, cond_false, decide_true, decide_false, decide_not', dec_and, dec_or, dec_eqt, Bool.not_true, Bool.not_false, Option.isNone_none, Option.isNone_some, Option.map_some, Option.map_none, List.getElem?_toArray, List.getElem?_cons_zero, List.getElem?_cons_succ, List.size_toArray, List.length_cons, List.length_nil, List.length_replicate, List.set_cons_zero, List.set_cons_succ, Nat.reduceAdd, Nat.reduceMul, Nat.reduceSub, Nat.reduceLeDiff, Nat.zero_add, Nat.add_zero, Nat.zero_le, true_and, and_true, not_false_eq_true, ne_eq, Int.reduceNeg, Int.reduceEq, Int.reduceNe, Int.reduceLT, Int.reduceLE, le_refl', List.setIfInBounds_toArray, Nat.reduceLT, Array.size_setIfInBounds, if_true, if_false, reduceCtorEq, List.toArray_toList', List.drop_succ_cons, List.drop_zero, List.take_succ_cons, List.take_zero, List.nil_append, List.append_nil, List.cons_append, Bool.and_true, Bool.true_and, Bool.or_false, Bool.false_or, Bool.and_false, Bool.or_true, Bool.true_or, Bool.false_and, eq_self]
  intros
  refine pCond_if (fun hc2 => ?_) (fun hc2 => ?_)
  · rw [w64 (by omega) (by omega)]
    rw [hd, if_pos (by simp only [leapB, decide_eq_true_eq]; omega)] at h
    exact h
  · rw [hd, if_neg (by simp only [leapB, decide_eq_true_eq]; omega)] at h
    exact h
theorem refGood_spec {t : T6} (h : ∀ H', Ext H H' → R (.bool (goodB t)) H') : CallsH Tryd.prog 6 #[t.v] H R := by
  refine lighterref11_Good.vc _ _ _ ?_
  unfold lighterref11_Good.res
  refine pBox_ext fun H1 s1 e1 b1 => ?_
  have b1 : H1[H.size]? = some t.robj := b1
  simp only [pPick_v, pNil_v, pNil_f, pAdd_v, pSub_v, pMul_v, pAdd_s, pQuo_v, pRem_v, pBits_v, pShl_v, pShr_v, pLt_v, pLe_v, pGt_v, pGe_v, pEq_0, pNe_0, pEq_1, pNe_1, pEq_2, pNe_2, pEq_3n, pNe_3n, pEq_3s, pNe_3s, pEq_3t, pNe_3t, pEq_5n, pNe_5n, pEq_5s, pNe_5s, pEq_5t, pNe_5t, pEq_4n, pNe_4n, pEq_4s, pNe_4s, pNot_v, pNeg_v, pCom_v, pConv_v, pConvS_v, pMin_v, pMax_v, pFieldAddr_v, pField1_v, pFieldN_v, pExtract_v, pIdxArr_v, pIdxSl_v, pIdxStr_v, pBounds_00, pBounds_10, pBounds_01, pBounds_11, pSlStr_v, pSlSl_v, pSlArr_v, pLenS_v, pLen_v, pCap_v, pBuild_n, pBuild_c, cells_int, cells_str, cells_bool, cells_ptr, cells_slice, cells_map, cells_agg, oneCell_int, oneCell_str, oneCell_bool, oneCell_ptr, oneCell_slice, oneCell_map, putL_cons, putL_nil, pAnd_pure, pOr_pure, pAnd_pureE, pOr_pureE, pAnd_false, pOr_true, pCond_true, pCond_false, add_mk, bys_mk, bys_size, cond_true, cond_false, decide_true, decide_false, decide_not', dec_and, dec_or, dec_eqt, Bool.not_true, Bool.not_false, Option.isNone_none, Option.isNone_some, Option.map_some, Option.map_none, List.getElem?_toArray, List.getElem?_cons_zero, List.getElem?_cons_succ, List.size_toArray, List.length_cons, List.length_nil, List.length_replicate, List.set_cons_zero, List.set_cons_succ, Nat.reduceAdd, Nat.reduceMul, Nat.reduceSub, Nat.reduceLeDiff, Nat.zero_add, Nat.add_zero, Nat.zero_le, true_and, and_true, not_false_eq_true, ne_eq, Int.reduceNeg, Int.reduceEq, Int.reduceNe, Int.reduceLT, Int.reduceLE, le_refl', List.setIfInBounds_toArray, Nat.reduceLT, Array.size_setIfInBounds, if_true, if_false, reduceCtorEq, List.toArray_toList', List.drop_succ_cons, List.drop_zero, List.take_succ_cons, List.take_zero, List.nil_append, List.append_nil, List.cons_append, Bool.and_true, Bool.true_and, Bool.or_false, Bool.false_or, Bool.and_false, Bool.or_true, Bool.true_or, Bool.false_and, eq_self, pLoad_at b1]
  intros
  refine ⟨fun v H' => v = .bool (decide (1980 ≤ t.y ∧ t.y ≤ 2107 ∧ 1 ≤ t.m ∧ t.m ≤ 12 ∧ 1 ≤ t.d ∧ t.d ≤ daysI t.y t.m)) ∧ H'[H.size]? = some t.robj ∧ Ext H H', ?_, ?_, ?_⟩
  · rintro _ H2 ⟨rfl, b2, e2⟩
    simp only [pPick_v, pNil_v, pNil_f, pAdd_v, pSub_v, pMul_v, pAdd_s, pQuo_v, pRem_v, pBits_v, pShl_v, pShr_v, pLt_v, pLe_v, pGt_v, pGe_v, pEq_0, pNe_0, pEq_1, pNe_1, pEq_2, pNe_2, pEq_3n, pNe_3n, pEq_3s, pNe_3s, pEq_3t, pNe_3t, pEq_5n, pNe_5n, pEq_5s, pNe_5s, pEq_5t, pNe_5t, pEq_4n, pNe_4n, pEq_4s, pNe_4s, pNot_v, pNeg_v, pCom_v, pConv_v, pConvS_v, pMin_v, pMax_v, pFieldAddr_v, pField1_v, pFieldN_v, pExtract_v, pIdxArr_v, pIdxSl_v, pIdxStr_v, pBounds_00, pBounds_10, pBounds_01, pBounds_11, pSlStr_v, pSlSl_v, pSlArr_v, pLenS_v, pLen_v, pCap_v, pBuild_n, pBuild_c, cells_int, cells_str, cells_bool, cells_ptr, cells_slice, cells_map, cells_agg, oneCell_int, oneCell_str, oneCell_bool, oneCell_ptr, oneCell_slice, oneCell_map, putL_cons, putL_nil, pAnd_pure, pOr_pure, pAnd_pureE, pOr_pureE, pAnd_false, pOr_true, pCond_true, pCond_false, add_mk, bys_mk, bys_size, cond_true, cond_false, decide_true, decide_false, decide_not', dec_and, dec_or, dec_eqt, Bool.not_true, Bool.not_false, Option.isNone_none, Option.isNone_some, Option.map_some, Option.map_none, List.getElem?_toArray, List.getElem?_cons_zero, List.getElem?_cons_succ, List.size_toArray, List.length_cons, List.length_nil, List.length_replicate, List.set_cons_zero, List.set_cons_succ, Nat.reduceAdd, Nat.reduceMul, Nat.reduceSub, Nat.reduceLeDiff, Nat.zero_add, Nat.add_zero, Nat.zero_le, true_and, and_true, not_false_eq_true, ne_eq, Int.reduceNeg, Int.reduceEq, Int.reduceNe, Int.reduceLT, Int.reduceLE, le_refl', List.setIfInBounds_toArray, Nat.reduceLT, Array.size_setIfInBounds, if_true, if_false, reduceCtorEq, List.toArray_toList', List.drop_succ_cons, List.drop_zero, List.take_succ_cons, List.take_zero, List.nil_append, List.append_nil, List.cons_append, Bool.and_true, Bool.true_and, Bool.or_false, Bool.false_or, Bool.and_false, Bool.or_true, Bool.true_or, Bool.false_and, eq_self, pLoad_at b2]
    intros
    refine bool_to ?_ (h H2 e2)
    rw [goodB, Bool.eq_iff_iff]
    simp only [decide_eq_true_eq]
    constructor
    · intro h'; omega
    · intro h'
      have := good_facts (t := t) (by simpa [goodB] using h')
      omega
  · intro hc
    refine ⟨?_, b1, e1⟩
    simp only [decide_eq_false_iff_not] at hc
    congr 1
    refine (decide_eq_false ?_).symm
    intro h'; exact hc (by omega)
  · intro hc
    simp only [decide_eq_true_eq] at hc
    refine refDays_spec fun H2 e2 => ?_
    refine ⟨?_, ?_⟩
    · exact pLoad_l (e2.blk b1) rfl rfl
    simp only [pPick_v, pNil_v, pNil_f, pAdd_v, pSub_v, pMul_v, pAdd_s, pQuo_v, pRem_v, pBits_v, pShl_v, pShr_v, pLt_v, pLe_v, pGt_v, pGe_v, pEq_0, pNe_0, pEq_1, pNe_1, pEq_2, pNe_2, pEq_3n, pNe_3n, pEq_3s, pNe_3s, pEq_3t, pNe_3t, pEq_5n, pNe_5n, pEq_5s, pNe_5s, pEq_5t, pNe_5t, pEq_4n, pNe_4n, pEq_4s, pNe_4s, pNot_v, pNeg_v, pCom_v, pConv_v, pConvS_v, pMin_v, pMax_v, pFieldAddr_v, pField1_v, pFieldN_v, pExtract_v, pIdxArr_v, pIdxSl_v, pIdxStr_v, pBounds_00, pBounds_10, pBounds_01, pBounds_11, pSlStr_v, pSlSl_v, pSlArr_v, pLenS_v, pLen_v, pCap_v, pBuild_n, pBuild_c, cells_int, cells_str, cells_bool, cells_ptr, cells_slice, cells_map, cells_agg, oneCell_int, oneCell_str, oneCell_bool, oneCell_ptr, oneCell_slice, oneCell_map, putL_cons, putL_nil, pAnd_pure, pOr_pure, pAnd_pureE, pOr_pureE, pAnd_false, pOr_true, pCond_true, pCond_false, add_mk, bys_mk, bys_size, cond_true, cond_false, decide_true, decide_false, decide_not', dec_and, dec_or, dec_eqt, Bool.not_true, Bool.not_false, Option.isNone_none, Option.isNone_some, Option.map_some, Option.map_none, List.getElem?_toArray, List.getElem?_cons_zero, List.getElem?_cons_succ, List.size_toArray, List.length_cons, List.length_nil, List.length_replicate, List.set_cons_zero, List.set_cons_succ, Nat.reduceAdd, Nat.reduceMul, Nat.reduceSub, Nat.reduceLeDiff, Nat.zero_add, Nat.add_zero, Nat.zero_le, true_and, and_true, not_false_eq_true, ne_eq, Int.reduceNeg, Int.reduceEq, Int.reduceNe, Int.reduceLT, Int.reduceLE, le_refl', List.setIfInBounds_toArray, Nat.reduceLT, Array.size_setIfInBounds, if_true, if_false, reduceCtorEq, List.toArray_toList', List.drop_succ_cons, List.drop_zero, List.take_succ_cons, List.take_zero, List.nil_append, List.append_nil, List.cons_append, Bool.and_true, Bool.true_and, Bool.or_false, Bool.false_or, Bool.and_false, Bool.or_true, Bool.true_or, Bool.false_and, eq_self]
    refine ⟨?_, e2.blk b1, e1.trans e2⟩
    congr 1
    rw [Bool.eq_iff_iff]
    simp only [decide_eq_true_eq]
    omega
end Go.Proofs.YtildpckmmkphcaaDoor
