/- Contracts of the document's answer for numbers in bytes. -/
import Derived.Test.YtaopejkbnohiiaaBitList
import Derived.Test.YtaopejkbnohiiaaVcOwn
import Derived.Test.YtaopejkbnohiiaaBytesN
import Derived.Test.YtaopejkbnohiiaaResLighterref01
namespace Go.Proofs.Ytaopejkbnohiiaa
open Go Go.Vc Go.Proofs
set_option linter.unusedVariables false
set_option linter.unusedSimpArgs false
variable {H : Heap} {R : Value → Heap → Prop}
theorem refPut_spec {n : Nat} {k : Int} (hn : n < 18446744073709551616) (h : ∀ H', Ext H H' → R (str (if k ≤ 8 then putN n k.toNat else [])) H') : CallsH Try.prog 25 #[.int .u64 n, .int .i64 k] H R := by
  refine lighterref01_Put.vc _ _ _ _ ?_
  unfold lighterref01_Put.res
  refine ⟨fun n1 s1 i1 H' => ∃ i : Nat, n1 = .int .u64 ((n / 256 ^ i : Nat) : Int) ∧ i1 = .int .i64 i ∧ (i = 0 ∨ ((i : Int) ≤ k ∧ k ≤ 8)) ∧ s1 = str (putN n i) ∧ Ext H H', fun _ _ i1 _ => match i1 with | .int _ x => (k - x).toNat | _ => 0,
    ⟨0, by simp, rfl, .inl rfl, rfl, Ext.refl _⟩, ?_⟩
  rintro _ _ _ _ H1 ⟨i, rfl, rfl, hi, rfl, e1⟩
  have hd : n / 256 ^ i ≤ n := Nat.div_le_self _ _
  simp only [pPick_v, pNil_v, pNil_f, pAdd_v, pSub_v, pMul_v, pAdd_s, pQuo_v, pRem_v, pBits_v, pShl_v, pShr_v, pLt_v, pLe_v, pGt_v, pGe_v, pEq_0, pNe_0, pEq_1, pNe_1, pEq_2, pNe_2, pEq_3n, pNe_3n, pEq_3s, pNe_3s, pEq_3t, pNe_3t, pEq_5n, pNe_5n, pEq_5s, pNe_5s, pEq_5t, pNe_5t, pEq_4n, pNe_4n, pEq_4s, pNe_4s, pNot_v, pNeg_v, pCom_v, pConv_v, pConvS_v, pMin_v, pMax_v, pFieldAddr_v, pField1_v, pFieldN_v, pExtract_v, pIdxArr_v, pIdxSl_v, pIdxStr_v, pBounds_00, pBounds_10, pBounds_01, pBounds_11, pSlStr_v, pSlSl_v, pSlArr_v, pLenS_v, pLen_v, pCap_v, pBuild_n, pBuild_c, cells_int, cells_str, cells_bool, cells_ptr, cells_slice, cells_map, cells_agg, oneCell_int, oneCell_str, oneCell_bool, oneCell_ptr, oneCell_slice, oneCell_map, putL_cons, putL_nil, pAnd_pure, pOr_pure, pAnd_pureE, pOr_pureE, pAnd_false, pOr_true, pCond_true, pCond_false, add_mk, bys_mk, bys_size, cond_true, cond_false, decide_true, decide_false, decide_not', dec_and, dec_or, dec_eqt, Bool.not_true, Bool.not_false, Option.isNone_none, Option.isNone_some, Option.map_some, Option.map_none, List.getElem?_toArray, List.getElem?_cons_zero, List.getElem?_cons_succ, List.size_toArray, List.length_cons, List.length_nil, List.length_replicate, List.set_cons_zero, List.set_cons_succ, Nat.reduceAdd, Nat.reduceMul, Nat.reduceSub, Nat.reduceLeDiff, Nat.zero_add, Nat.add_zero, Nat.zero_le, true_and, and_true, not_false_eq_true, ne_eq, Int.reduceNeg, Int.reduceEq, Int.reduceNe, Int.reduceLT, Int.reduceLE, le_refl', List.setIfInBounds_toArray, Nat.reduceLT, Array.size_setIfInBounds, if_true, if_false, reduceCtorEq, List.toArray_toList', List.drop_succ_cons, List.drop_zero, List.take_succ_cons, List.take_zero, List.nil_append, List.append_nil, List.cons_append, Bool.and_true, Bool.true_and, Bool.or_false, Bool.false_or, Bool.and_false, Bool.or_true, Bool.true_or, Bool.false_and, eq_self]
  refine fun _ => pCond_if (fun hc => ?_) (fun hc => ?_)
  · have hi8 : i ≤ 8 := by omega
    have hnext : n / 256 ^ (i + 1) = n / 256 ^ i / 256 := by rw [Nat.pow_succ, ← Nat.div_div_eq_div_mul]
    have hput := putN_succ n i
    generalize n / 256 ^ i = z at *
    rw [Int.tmod_eq_emod_of_nonneg (by omega), show (z : Int) % 256 = ((z % 256 : Nat) : Int) by omega]
    have hb : Value.int .u8 (IntKind.u8.wrap ((z % 256 : Nat) : Int)) = byteV (UInt8.ofNat (z % 256)) := by
      unfold byteV
      rw [wu8_mod, UInt8.toNat_ofNat']
      congr 1
    rw [hb]
    refine own_build1 rfl rfl fun y H2 sy e2 _ => ?_
    refine Sl.str (l := [_]) sy ?_
    simp only [pPick_v, pNil_v, pNil_f, pAdd_v, pSub_v, pMul_v, pAdd_s, pQuo_v, pRem_v, pBits_v, pShl_v, pShr_v, pLt_v, pLe_v, pGt_v, pGe_v, pEq_0, pNe_0, pEq_1, pNe_1, pEq_2, pNe_2, pEq_3n, pNe_3n, pEq_3s, pNe_3s, pEq_3t, pNe_3t, pEq_5n, pNe_5n, pEq_5s, pNe_5s, pEq_5t, pNe_5t, pEq_4n, pNe_4n, pEq_4s, pNe_4s, pNot_v, pNeg_v, pCom_v, pConv_v, pConvS_v, pMin_v, pMax_v, pFieldAddr_v, pField1_v, pFieldN_v, pExtract_v, pIdxArr_v, pIdxSl_v, pIdxStr_v, pBounds_00, pBounds_10, pBounds_01, pBounds_11, pSlStr_v, pSlSl_v, pSlArr_v, pLenS_v, pLen_v, pCap_v, pBuild_n, pBuild_c, cells_int, cells_str, cells_bool, cells_ptr, cells_slice, cells_map, cells_agg, oneCell_int, oneCell_str, oneCell_bool, oneCell_ptr, oneCell_slice, oneCell_map, putL_cons, putL_nil, pAnd_pure, pOr_pure, pAnd_pureE, pOr_pureE, pAnd_false, pOr_true, pCond_true, pCond_false, add_mk, bys_mk, bys_size, cond_true, cond_false, decide_true, decide_false, decide_not', dec_and, dec_or, dec_eqt, Bool.not_true, Bool.not_false, Option.isNone_none, Option.isNone_some, Option.map_some, Option.map_none, List.getElem?_toArray, List.getElem?_cons_zero, List.getElem?_cons_succ, List.size_toArray, List.length_cons, List.length_nil, List.length_replicate, List.set_cons_zero, List.set_cons_succ, Nat.reduceAdd, Nat.reduceMul, Nat.reduceSub, Nat.reduceLeDiff, Nat.zero_add, Nat.add_zero, Nat.zero_le, true_and, and_true, not_false_eq_true, ne_eq, Int.reduceNeg, Int.reduceEq, Int.reduceNe, Int.reduceLT, Int.reduceLE, le_refl', List.setIfInBounds_toArray, Nat.reduceLT, Array.size_setIfInBounds, if_true, if_false, reduceCtorEq, List.toArray_toList', List.drop_succ_cons, List.drop_zero, List.take_succ_cons, List.take_zero, List.nil_append, List.append_nil, List.cons_append, Bool.and_true, Bool.true_and, Bool.or_false, Bool.false_or, Bool.and_false, Bool.or_true, Bool.true_or, Bool.false_and, eq_self]
    refine ⟨by rw [putN_len]; omega, ?_⟩
    rw [Int.tdiv_eq_ediv_of_nonneg (by omega), wu64 (by omega) (by omega), w64 (by omega) (by omega)]
    refine ⟨⟨i + 1, by rw [hnext]; rfl, rfl, by omega, by rw [hput], e1.trans e2⟩, by show (_ : Int).toNat < (_ : Int).toNat; omega⟩
  · have h := h H1 e1
    by_cases hk : k ≤ 8
    · rw [if_pos hk] at h
      have : i = k.toNat := by omega
      subst this
      exact h
    · rw [if_neg hk] at h
      have : i = 0 := by omega
      subst this
      exact h
end Go.Proofs.Ytaopejkbnohiiaa
