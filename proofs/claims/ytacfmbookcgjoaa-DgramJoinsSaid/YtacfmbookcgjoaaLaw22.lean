/- The laws of package dgram over heaps: the first test, DgramCodes, DgramShort, DgramAny. -/
import Derived.Test.YtacfmbookcgjoaaDgramP
import Derived.Test.YtacfmbookcgjoaaRef22
import Derived.Test.YtacfmbookcgjoaaVcRow
import Derived.Test.YtacfmbookcgjoaaVcOpen
import Derived.Test.YtacfmbookcgjoaaResLighterlaw22
namespace Go.Proofs.Ytacfmbookcgjoaa
open Go Go.Vc Go.Proofs
set_option linter.unusedVariables false
set_option linter.unusedSimpArgs false
variable {H : Heap} {R : Value → Heap → Prop}
def Dg.hello : Dg := ⟨1, 7, 0, 0, 0, 0, 0, false, []⟩
theorem hello_build {K : Value → Prop} (h : K (.agg Dg.hello.cells.toArray)) : pBuild [(.int .i64 0), (.int .u32 0), (.int .u32 0), (.int .u32 0), (.int .u64 0), (.int .u32 0), (.int .u32 0), (.bool false), (str [])] [(0, 1, (.int .i64 1)), (1, 1, (.int .u32 7))] K := by
  simp only [pPick_v, pNil_v, pNil_f, pAdd_v, pSub_v, pMul_v, pAdd_s, pQuo_v, pRem_v, pBits_v, pShl_v, pShr_v, pLt_v, pLe_v, pGt_v, pGe_v, pEq_0, pNe_0, pEq_1, pNe_1, pEq_2, pNe_2, pEq_3n, pNe_3n, pEq_3s, pNe_3s, pEq_3t, pNe_3t, pEq_5n, pNe_5n, pEq_5s, pNe_5s, pEq_5t, pNe_5t, pEq_4n, pNe_4n, pEq_4s, pNe_4s, pNot_v, pNeg_v, pCom_v, pConv_v, pConvS_v, pMin_v, pMax_v, pFieldAddr_v, pField1_v, pFieldN_v, pExtract_v, pIdxArr_v, pIdxSl_v, pIdxStr_v, pBounds_00, pBounds_10, pBounds_01, pBounds_11, pSlStr_v, pSlSl_v, pSlArr_v, pLenS_v, pLen_v, pCap_v, pBuild_n, pBuild_c, cells_int, cells_str, cells_bool, cells_ptr, cells_slice, cells_map, cells_agg, oneCell_int, oneCell_str, oneCell_bool, oneCell_ptr, oneCell_slice, oneCell_map, putL_cons, putL_nil, pAnd_pure, pOr_pure, pAnd_pureE, pOr_pureE, pAnd_false, pOr_true, pCond_true, pCond_false, add_mk, bys_mk, bys_size, cond_true, cond_false, decide_true, decide_false, decide_not', dec_and, dec_or, dec_eqt, Bool.not_true, Bool.not_false, Option.isNone_none, Option.isNone_some, Option.map_some, Option.map_none, List.getElem?_toArray, List.getElem?_cons_zero, List.getElem?_cons_succ, List.size_toArray, List.length_cons, List.length_nil, List.length_replicate, List.set_cons_zero, List.set_cons_succ, Nat.reduceAdd, Nat.reduceMul, Nat.reduceSub, Nat.reduceLeDiff, Nat.zero_add, Nat.add_zero, Nat.zero_le, true_and, and_true, not_false_eq_true, ne_eq, Int.reduceNeg, Int.reduceEq, Int.reduceNe, Int.reduceLT, Int.reduceLE, le_refl', List.setIfInBounds_toArray, Nat.reduceLT, Array.size_setIfInBounds, if_true, if_false, reduceCtorEq, List.toArray_toList', List.drop_succ_cons, List.drop_zero, List.take_succ_cons, List.take_zero, List.nil_append, List.append_nil, List.cons_append, Bool.and_true, Bool.true_and, Bool.or_false, Bool.false_or, Bool.and_false, Bool.or_true, Bool.true_or, Bool.false_and, eq_self]; exact h
theorem eqA_self {d : Dg} {K : Value → Prop} (h : K (.bool true)) : pEqA [0, 0, 0, 0, 0, 0, 0, 2, 1] (.agg d.cells.toArray) (.agg d.cells.toArray) K := by
  simp only [pEqA, Dg.cells, eqCells, eqK, if_true, decide_true, Bool.and_true]
  exact h
theorem speaks22_spec (h : ∀ H', Ext H H' → R (.bool true) H') : CallsH Try.prog 8 #[] H R := by
  have hf : Dg.hello.Fits := ⟨by decide, by decide, by decide, by decide, by decide, by decide, by decide, by decide, by decide⟩
  have hg : Dg.hello.Good := by decide
  have hcl : Dg.hello.code.length = 38 := by unfold Dg.code; rw [List.length_append, sumL_len, Dg.bytes_len]; rfl
  refine lighterlaw22_speaks.vc _ _ ?_
  unfold lighterlaw22_speaks.res
  refine hello_build ?_
  refine encode_good hf hg fun H1 e1 => ?_
  refine pExtract_to rfl ?_
  refine pExtract_to rfl ?_
  refine decode_spec (by rw [hcl]; decide) fun H2 e2 => ?_
  rw [decode_code hf hg]
  refine pExtract_to rfl ?_
  refine pExtract_to rfl ?_
  refine pBox_ext fun H3 s3 e3 b3 => ?_
  refine pStoreN_upd b3 rfl rfl rfl fun H4 s4 u4 => ?_
  have b4 : H4[H2.size]? = some (.cells Dg.hello.cells.toArray 32 (0, 0)) := u4.at_
  simp only [pPick_v, pNil_v, pNil_f, pAdd_v, pSub_v, pMul_v, pAdd_s, pQuo_v, pRem_v, pBits_v, pShl_v, pShr_v, pLt_v, pLe_v, pGt_v, pGe_v, pEq_0, pNe_0, pEq_1, pNe_1, pEq_2, pNe_2, pEq_3n, pNe_3n, pEq_3s, pNe_3s, pEq_3t, pNe_3t, pEq_5n, pNe_5n, pEq_5s, pNe_5s, pEq_5t, pNe_5t, pEq_4n, pNe_4n, pEq_4s, pNe_4s, pNot_v, pNeg_v, pCom_v, pConv_v, pConvS_v, pMin_v, pMax_v, pFieldAddr_v, pField1_v, pFieldN_v, pExtract_v, pIdxArr_v, pIdxSl_v, pIdxStr_v, pBounds_00, pBounds_10, pBounds_01, pBounds_11, pSlStr_v, pSlSl_v, pSlArr_v, pLenS_v, pLen_v, pCap_v, pBuild_n, pBuild_c, cells_int, cells_str, cells_bool, cells_ptr, cells_slice, cells_map, cells_agg, oneCell_int, oneCell_str, oneCell_bool, oneCell_ptr, oneCell_slice, oneCell_map, putL_cons, putL_nil, pAnd_pure, pOr_pure, pAnd_pureE, pOr_pureE, pAnd_false, pOr_true, pCond_true, pCond_false, add_mk, bys_mk, bys_size, cond_true, cond_false, decide_true, decide_false, decide_not', dec_and, dec_or, dec_eqt, Bool.not_true, Bool.not_false, Option.isNone_none, Option.isNone_some, Option.map_some, Option.map_none, List.getElem?_toArray, List.getElem?_cons_zero, List.getElem?_cons_succ, List.size_toArray, List.length_cons, List.length_nil, List.length_replicate, List.set_cons_zero, List.set_cons_succ, Nat.reduceAdd, Nat.reduceMul, Nat.reduceSub, Nat.reduceLeDiff, Nat.zero_add, Nat.add_zero, Nat.zero_le, true_and, and_true, not_false_eq_true, ne_eq, Int.reduceNeg, Int.reduceEq, Int.reduceNe, Int.reduceLT, Int.reduceLE, le_refl', List.setIfInBounds_toArray, Nat.reduceLT, Array.size_setIfInBounds, if_true, if_false, reduceCtorEq, List.toArray_toList', List.drop_succ_cons, List.drop_zero, List.take_succ_cons, List.take_zero, List.nil_append, List.append_nil, List.cons_append, Bool.and_true, Bool.true_and, Bool.or_false, Bool.false_or, Bool.and_false, Bool.or_true, Bool.true_or, Bool.false_and, eq_self, pLoad_at b4, hcl, Dg.cells, Dg.hello]
  intros
  exact h H4 ((e1.trans e2).trans (u4.ext e3 (Nat.le_refl _)))
/-- a datagram that came in -/
theorem dg_of {l : List Value} (hl : l.length = 9) (hf : FitAll [.int .i64, .int .u32, .int .u32, .int .u32, .int .u64, .int .u32, .int .u32, .bool, .string] fun j => l[j]?) : ∃ d : Dg, l = d.cells ∧ d.Fits := by
  match l, hl with
  | [a, b, c, d, e, f, g, h, i], _ =>
    obtain ⟨_, h0, x0, rfl, k0⟩ := hf 0 _ rfl
    obtain ⟨_, h1, x1, rfl, k1⟩ := hf 1 _ rfl
    obtain ⟨_, h2, x2, rfl, k2⟩ := hf 2 _ rfl
    obtain ⟨_, h3, x3, rfl, k3⟩ := hf 3 _ rfl
    obtain ⟨_, h4, x4, rfl, k4⟩ := hf 4 _ rfl
    obtain ⟨_, h5, x5, rfl, k5⟩ := hf 5 _ rfl
    obtain ⟨_, h6, x6, rfl, k6⟩ := hf 6 _ rfl
    obtain ⟨_, h7, x7, rfl⟩ := hf 7 _ rfl
    obtain ⟨_, h8, x8, rfl, k8⟩ := hf 8 _ rfl
    simp at h0 h1 h2 h3 h4 h5 h6 h7 h8
    have b0 := wf64 k0
    have b1 := wfu32 k1
    have b2 := wfu32 k2
    have b3 := wfu32 k3
    have b4 := wfu64 k4
    have b5 := wfu32 k5
    have b6 := wfu32 k6
    have hmax : maxLen = 9223372036854775807 := rfl
    obtain ⟨m1, rfl⟩ : ∃ m : Nat, x1 = m := ⟨x1.toNat, by omega⟩
    obtain ⟨m2, rfl⟩ : ∃ m : Nat, x2 = m := ⟨x2.toNat, by omega⟩
    obtain ⟨m3, rfl⟩ : ∃ m : Nat, x3 = m := ⟨x3.toNat, by omega⟩
    obtain ⟨m4, rfl⟩ : ∃ m : Nat, x4 = m := ⟨x4.toNat, by omega⟩
    obtain ⟨m5, rfl⟩ : ∃ m : Nat, x5 = m := ⟨x5.toNat, by omega⟩
    obtain ⟨m6, rfl⟩ : ∃ m : Nat, x6 = m := ⟨x6.toNat, by omega⟩
    exact ⟨⟨x0, m1, m2, m3, m4, m5, m6, x7, x8⟩, by rw [h0, h1, h2, h3, h4, h5, h6, h7, h8]; rfl, ⟨b0.1, b0.2, by show m1 < _; omega, by show m2 < _; omega, by show m3 < _; omega, by show m4 < _; omega, by show m5 < _; omega, by show m6 < _; omega, by show x8.length ≤ _; omega⟩⟩
/-- with another text -/
def Dg.cut (d : Dg) (n : Nat) : Dg := { d with text := d.text.take n }
theorem Dg.cut_fits {d : Dg} (h : d.Fits) (n : Nat) : (d.cut n).Fits := { h with t := by show (d.text.take n).length ≤ _; have := h.t; rw [List.length_take]; omega }
theorem Dg.cut_cells (d : Dg) (n : Nat) : d.cells.set 8 (str (d.text.take n)) = (d.cut n).cells := rfl
/-- the text is cut in its place -/
theorem cut_in {b : Nat} {d : Dg} {t : TypeId} {n : Nat} {K : Value → Heap → Prop} (hb : H[b]? = some (.cells d.cells.toArray t (0, 0))) (hf : d.Fits) (hk : ∀ H', H'[b]? = some (.cells (d.cut n).cells.toArray t (0, 0)) → Upd b (.cells (d.cut n).cells.toArray t (0, 0)) H H' → H'.size = H.size → K undef H') :
    pFieldAddr 8 (.pointer (some ⟨b, 0, none⟩)) fun x10 => pLoad H x10 fun x11 => pFieldAddr 8 (.pointer (some ⟨b, 0, none⟩)) fun x12 => pLoad H x12 fun x13 => pLenS x13 fun x14 => pMin x14 (.int .i64 (n : Int)) fun x15 => pSlStr x11 none (some x15) fun x16 =>
      pFieldAddr 8 (.pointer (some ⟨b, 0, none⟩)) fun x17 => pStore H x17 x16 K := by
  refine pFieldAddr_to ?_
  refine pLoad_l hb (v := str d.text) rfl ?_
  refine pFieldAddr_to ?_
  refine pLoad_l hb (v := str d.text) rfl ?_
  refine pLenS_to ?_
  rw [pMin_v]
  have ht := hf.t
  refine pSlStr_to (lo := 0) (hi := min d.text.length n) (.inr ⟨rfl, rfl⟩) (.inl (by congr 2; omega)) (by omega) (by omega) ?_
  have e : (d.text.drop 0).take (min d.text.length n - 0) = d.text.take n := by
    rw [List.drop_zero, Nat.sub_zero]
    apply List.ext_getElem?
    intro i
    rw [List.getElem?_take, List.getElem?_take]
    by_cases h1 : i < n
    · by_cases h2 : i < d.text.length
      · rw [if_pos (by omega), if_pos h1]
      · rw [if_neg (by omega), if_pos h1, List.getElem?_eq_none (by omega)]
    · rw [if_neg (by omega), if_neg h1]
  rw [e]
  refine pFieldAddr_to ?_
  refine pStore_upd hb (by simp [Dg.cells]) rfl fun H' s' u' => ?_
  have u2 : Upd b (.cells (d.cut n).cells.toArray t (0, 0)) H H' := by
    rw [List.setIfInBounds_toArray, show d.cells.set (0 + 8) (str (d.text.take n)) = (d.cut n).cells from rfl] at u'
    exact u'
  exact hk H' u2.at_ u2 s'
theorem DgramCodes_law (l0 : List Value) (n0 : l0.length = ([.int .i64, .int .u32, .int .u32, .int .u32, .int .u64, .int .u32, .int .u32, .bool, .string] : List TypeDesc).length) (w0 : FitAll [.int .i64, .int .u32, .int .u32, .int .u32, .int .u64, .int .u32, .int .u32, .bool, .string] fun j => l0[j]?) :
    CallsH Try.prog 3 #[.agg l0.toArray] H (LawOk H) := by
  obtain ⟨d, rfl, hf⟩ := dg_of n0 w0
  refine lighterlaw22_DgramCodes.vc _ _ _ ?_
  unfold lighterlaw22_DgramCodes.res
  refine pBox_ext fun H1 s1 e1 b1 => ?_
  refine speaks22_spec fun H2 e2 => ?_
  rw [pNot_v]
  simp only [Bool.not_true, pCond_false]
  have b2 : H2[H.size]? = some (.cells d.cells.toArray 25 (0, 0)) := e2.blk b1
  refine cut_in (n := 300) b2 hf fun H3 b3 u3 s3 => ?_
  have x3 : Ext H H3 := u3.ext (e1.trans e2) (Nat.le_refl _)
  have hf3 := Dg.cut_fits hf 300
  generalize d.cut 300 = c at *
  refine pLoadN_to b3 rfl ?_
  refine refGood_spec hf3 fun H4 e4 => ?_
  refine pLoadN_to (e4.blk b3) rfl ?_
  by_cases hg : c.Good
  · have hcl : c.code.length ≤ 1000 := by unfold Dg.code; rw [List.length_append, sumL_len, Dg.bytes_len]; have := hg.2.2.1; omega
    refine encode_good hf3 hg fun H5 e5 => ?_
    refine pExtract_to rfl ?_
    refine pExtract_to rfl ?_
    refine pLoadN_to ((e4.trans e5).blk b3) rfl ?_
    refine good_spec hf3 fun H6 e6 => ?_
    rw [pNe_2, show decide (decide c.Good ≠ decide c.Good) = false by simp]
    refine pOr_false ?_
    have b6 := ((e4.trans e5).trans e6).blk b3
    refine pLoadN_to b6 rfl ?_
    refine refEncode_spec hf3 fun H7 e7 => ?_
    unfold Dg.enc
    rw [if_pos hg]
    refine pNe1_to ?_
    rw [decide_eq_false (p := c.code ≠ c.code) (by simp)]
    refine fun _ => ?_
    rw [pCond_false, decide_eq_true hg, pNot_v]
    simp only [Bool.not_true, pCond_false]
    refine decode_spec (by omega) fun H8 e8 => ?_
    rw [decode_code hf3 hg]
    refine pExtract_to rfl ?_
    refine pExtract_to rfl ?_
    refine pBox_ext fun H9 s9 e9 b9 => ?_
    refine pStoreN_upd b9 rfl rfl rfl fun H10 s10 u10 => ?_
    have b10 : H10[H8.size]? = some (.cells c.cells.toArray 32 (0, 0)) := u10.at_
    have e810 : Ext H8 H10 := u10.ext e9 (Nat.le_refl _)
    have b310 := ((e7.trans e8).trans e810).blk b6
    simp only [pPick_v, pNil_v, pNil_f, pAdd_v, pSub_v, pMul_v, pAdd_s, pQuo_v, pRem_v, pBits_v, pShl_v, pShr_v, pLt_v, pLe_v, pGt_v, pGe_v, pEq_0, pNe_0, pEq_1, pNe_1, pEq_2, pNe_2, pEq_3n, pNe_3n, pEq_3s, pNe_3s, pEq_3t, pNe_3t, pEq_5n, pNe_5n, pEq_5s, pNe_5s, pEq_5t, pNe_5t, pEq_4n, pNe_4n, pEq_4s, pNe_4s, pNot_v, pNeg_v, pCom_v, pConv_v, pConvS_v, pMin_v, pMax_v, pFieldAddr_v, pField1_v, pFieldN_v, pExtract_v, pIdxArr_v, pIdxSl_v, pIdxStr_v, pBounds_00, pBounds_10, pBounds_01, pBounds_11, pSlStr_v, pSlSl_v, pSlArr_v, pLenS_v, pLen_v, pCap_v, pBuild_n, pBuild_c, cells_int, cells_str, cells_bool, cells_ptr, cells_slice, cells_map, cells_agg, oneCell_int, oneCell_str, oneCell_bool, oneCell_ptr, oneCell_slice, oneCell_map, putL_cons, putL_nil, pAnd_pure, pOr_pure, pAnd_pureE, pOr_pureE, pAnd_false, pOr_true, pCond_true, pCond_false, add_mk, bys_mk, bys_size, cond_true, cond_false, decide_true, decide_false, decide_not', dec_and, dec_or, dec_eqt, Bool.not_true, Bool.not_false, Option.isNone_none, Option.isNone_some, Option.map_some, Option.map_none, List.getElem?_toArray, List.getElem?_cons_zero, List.getElem?_cons_succ, List.size_toArray, List.length_cons, List.length_nil, List.length_replicate, List.set_cons_zero, List.set_cons_succ, Nat.reduceAdd, Nat.reduceMul, Nat.reduceSub, Nat.reduceLeDiff, Nat.zero_add, Nat.add_zero, Nat.zero_le, true_and, and_true, not_false_eq_true, ne_eq, Int.reduceNeg, Int.reduceEq, Int.reduceNe, Int.reduceLT, Int.reduceLE, le_refl', List.setIfInBounds_toArray, Nat.reduceLT, Array.size_setIfInBounds, if_true, if_false, reduceCtorEq, List.toArray_toList', List.drop_succ_cons, List.drop_zero, List.take_succ_cons, List.take_zero, List.nil_append, List.append_nil, List.cons_append, Bool.and_true, Bool.true_and, Bool.or_false, Bool.false_or, Bool.and_false, Bool.or_true, Bool.true_or, Bool.false_and, eq_self]
    refine fun _ => pAnd_true ?_
    refine pLoadN_to b10 rfl ?_
    refine pLoadN_to b310 rfl ?_
    refine eqA_self ?_
    exact fun _ => ⟨rfl, ((((((x3.trans e4).trans e5).trans e6).trans e7).trans e8).trans e810)⟩
  · refine encode_bad hf3 hg fun H5 e5 => ?_
    refine pExtract_to rfl ?_
    refine pExtract_to rfl ?_
    refine pLoadN_to ((e4.trans e5).blk b3) rfl ?_
    refine good_spec hf3 fun H6 e6 => ?_
    rw [pNe_2, show decide (decide c.Good ≠ decide c.Good) = false by simp]
    refine pOr_false ?_
    have b6 := ((e4.trans e5).trans e6).blk b3
    refine pLoadN_to b6 rfl ?_
    refine refEncode_spec hf3 fun H7 e7 => ?_
    unfold Dg.enc
    rw [if_neg hg]
    refine pNe1_to ?_
    rw [decide_eq_false (p := ([] : List UInt8) ≠ []) (by simp)]
    refine fun _ => ?_
    rw [pCond_false, decide_eq_false hg, pNot_v]
    simp only [Bool.not_false, pCond_true]
    rw [pEq_0, decide_eq_true rfl]
    exact ⟨rfl, (((x3.trans e4).trans e5).trans e6).trans e7⟩
theorem DgramShort_law (s : List UInt8) (w0 : (ByteArray.mk s.toArray).size ≤ maxLen) : CallsH Try.prog 6 #[str s] H (LawOk H) := by
  have hmax : maxLen = 9223372036854775807 := rfl
  rw [bys_size] at w0
  refine lighterlaw22_DgramShort.vc _ _ _ ?_
  unfold lighterlaw22_DgramShort.res
  refine speaks22_spec fun H1 e1 => ?_
  rw [pNot_v]
  simp only [Bool.not_true, pCond_false]
  refine pLenS_to ?_
  rw [pMin_v]
  refine pSlStr_to (lo := 0) (hi := min s.length 30) (.inr ⟨rfl, rfl⟩) (.inl (by congr 2; omega)) (by omega) (by omega) ?_
  generalize hT : (s.drop 0).take (min s.length 30 - 0) = T
  have hTl : T.length ≤ 30 := by rw [← hT, List.length_take]; omega
  refine refMore_spec (s := 0) (by decide) (by omega) ?_
  have hm := more32_lt 0 T
  rw [pConv_v, wu64 (by omega) (by omega)]
  refine refPut_at (kn := 4) (by omega) (by omega) (by decide) fun H2 e2 => ?_
  refine pAdd_str (by rw [putN_len]; omega) ?_
  have hd1 : decodeF (T ++ putN (more32 0 T) 4) = (Dg.zero, 3) := by
    unfold decodeF
    have hl : (T ++ putN (more32 0 T) 4).length - 4 = T.length := by rw [List.length_append, putN_len]; omega
    rw [hl, List.take_append_of_le_length (Nat.le_refl _), List.take_length, List.drop_append_of_le_length (Nat.le_refl _), List.drop_of_length_le (Nat.le_refl _), List.nil_append]
    rw [if_neg (fun g => g.elim (fun g => by rw [List.length_append, putN_len] at g; omega) (fun g => g rfl)), if_pos (by omega)]
  refine decode_spec (by rw [List.length_append, putN_len]; omega) fun H3 e3 => ?_
  rw [hd1]
  refine pExtract_to rfl ?_
  refine pExtract_to rfl ?_
  refine pBox_ext fun H4 s4 e4 b4 => ?_
  refine pStoreN_upd b4 rfl rfl rfl fun H5 s5 u5 => ?_
  have b5 : H5[H3.size]? = some (.cells Dg.zero.cells.toArray 32 (0, 0)) := u5.at_
  have e35 : Ext H3 H5 := u5.ext e4 (Nat.le_refl _)
  refine pLenS_to ?_
  rw [pMin_v]
  refine pSlStr_to (lo := 0) (hi := min T.length 3) (.inr ⟨rfl, rfl⟩) (.inl (by congr 2; omega)) (by omega) (by omega) ?_
  generalize hU : (T.drop 0).take (min T.length 3 - 0) = U
  have hUl : U.length ≤ 3 := by rw [← hU, List.length_take]; omega
  refine decode_spec (by omega) fun H6 e6 => ?_
  have hd2 : decodeF U = (Dg.zero, 7) := by unfold decodeF; rw [if_pos (.inl (by omega))]
  rw [hd2]
  refine pExtract_to rfl ?_
  refine pExtract_to rfl ?_
  refine pBox_ext fun H7 s7 e7 b7 => ?_
  refine pStoreN_upd b7 rfl rfl rfl fun H8 s8 u8 => ?_
  have e68 : Ext H6 H8 := u8.ext e7 (Nat.le_refl _)
  simp only [pPick_v, pNil_v, pNil_f, pAdd_v, pSub_v, pMul_v, pAdd_s, pQuo_v, pRem_v, pBits_v, pShl_v, pShr_v, pLt_v, pLe_v, pGt_v, pGe_v, pEq_0, pNe_0, pEq_1, pNe_1, pEq_2, pNe_2, pEq_3n, pNe_3n, pEq_3s, pNe_3s, pEq_3t, pNe_3t, pEq_5n, pNe_5n, pEq_5s, pNe_5s, pEq_5t, pNe_5t, pEq_4n, pNe_4n, pEq_4s, pNe_4s, pNot_v, pNeg_v, pCom_v, pConv_v, pConvS_v, pMin_v, pMax_v, pFieldAddr_v, pField1_v, pFieldN_v, pExtract_v, pIdxArr_v, pIdxSl_v, pIdxStr_v, pBounds_00, pBounds_10, pBounds_01, pBounds_11, pSlStr_v, pSlSl_v, pSlArr_v, pLenS_v, pLen_v, pCap_v, pBuild_n, pBuild_c, cells_int, cells_str, cells_bool, cells_ptr, cells_slice, cells_map, cells_agg, oneCell_int, oneCell_str, oneCell_bool, oneCell_ptr, oneCell_slice, oneCell_map, putL_cons, putL_nil, pAnd_pure, pOr_pure, pAnd_pureE, pOr_pureE, pAnd_false, pOr_true, pCond_true, pCond_false, add_mk, bys_mk, bys_size, cond_true, cond_false, decide_true, decide_false, decide_not', dec_and, dec_or, dec_eqt, Bool.not_true, Bool.not_false, Option.isNone_none, Option.isNone_some, Option.map_some, Option.map_none, List.getElem?_toArray, List.getElem?_cons_zero, List.getElem?_cons_succ, List.size_toArray, List.length_cons, List.length_nil, List.length_replicate, List.set_cons_zero, List.set_cons_succ, Nat.reduceAdd, Nat.reduceMul, Nat.reduceSub, Nat.reduceLeDiff, Nat.zero_add, Nat.add_zero, Nat.zero_le, true_and, and_true, not_false_eq_true, ne_eq, Int.reduceNeg, Int.reduceEq, Int.reduceNe, Int.reduceLT, Int.reduceLE, le_refl', List.setIfInBounds_toArray, Nat.reduceLT, Array.size_setIfInBounds, if_true, if_false, reduceCtorEq, List.toArray_toList', List.drop_succ_cons, List.drop_zero, List.take_succ_cons, List.take_zero, List.nil_append, List.append_nil, List.cons_append, Bool.and_true, Bool.true_and, Bool.or_false, Bool.false_or, Bool.and_false, Bool.or_true, Bool.true_or, Bool.false_and, eq_self]
  refine fun _ => pAnd_true ?_
  refine pLoadN_to ((e6.trans e68).blk b5) rfl ?_
  refine eqA_self (d := Dg.zero) ?_
  exact fun _ => ⟨rfl, ((((e1.trans e2).trans e3).trans e35).trans e6).trans e68⟩
end Go.Proofs.Ytacfmbookcgjoaa
