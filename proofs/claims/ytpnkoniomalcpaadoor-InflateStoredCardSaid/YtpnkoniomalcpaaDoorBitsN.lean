/- Contracts of package bits: numbers in bytes. -/
import Derived.Test.YtpnkoniomalcpaaDoorBitList
import Derived.Test.YtpnkoniomalcpaaDoorVcLib
import Derived.Test.YtpnkoniomalcpaaDoorBytesN
import Derived.Test.YtpnkoniomalcpaaDoorResA
namespace Go.Proofs.YtpnkoniomalcpaaDoor
-- only what is there
open Go Go.Vc Go.Proofs
set_option linter.unusedVariables false
set_option linter.unusedSimpArgs false
variable {H : Heap} {R : Value → Heap → Prop}
theorem put_spec {n k : Nat} (hn : n < 18446744073709551616) (hk0 : 1 ≤ k) (hk : k ≤ 8) (h : ∀ H', Ext H H' → R (str (putN n k)) H') : CallsH Tryd.prog 14 #[.int .u64 n, .int .i64 k] H R := by
  refine bits_Put.vc _ _ _ _ ?_
  unfold bits_Put.res
  simp only [pPick_v, pNil_v, pNil_f, pAdd_v, pSub_v, pMul_v, pAdd_s, pQuo_v, pRem_v, pBits_v, pShl_v, pShr_v, pLt_v, pLe_v, pGt_v, pGe_v, pEq_0, pNe_0, pEq_1, pNe_1, pEq_2, pNe_2, pEq_3n, pNe_3n, pEq_3s, pNe_3s, pEq_3t, pNe_3t, pEq_5n, pNe_5n, pEq_5s, pNe_5s, pEq_5t, pNe_5t, pEq_4n, pNe_4n, pEq_4s, pNe_4s, pNot_v, pNeg_v, pCom_v, pConv_v, pConvS_v, pMin_v, pMax_v, pFieldAddr_v, pField1_v, pFieldN_v, pExtract_v, pIdxArr_v, pIdxSl_v, pIdxStr_v, pBounds_00, pBounds_10, pBounds_01, pBounds_11, pSlStr_v, pSlSl_v, pSlArr_v, pLenS_v, pLen_v, pCap_v, pBuild_n, pBuild_c, cells_int, cells_str, cells_bool, cells_ptr, cells_slice, cells_map, cells_agg, oneCell_int, oneCell_str, oneCell_bool, oneCell_ptr, oneCell_slice, oneCell_map, putL_cons, putL_nil, pAnd_pure, pOr_pure, pAnd_pureE, pOr_pureE, pAnd_false, pOr_true, pCond_true, pCond_false, add_mk, bys_mk, bys_size, cond_true, cond_false, decide_true, decide_false, decide_not', dec_and, dec_or, dec_eqt, Bool.not_true, Bool.not_false, Option.isNone_none, Option.isNone_some, Option.map_some, Option.map_none, List.getElem?_toArray, List.getElem?_cons_zero, List.getElem?_cons_succ, List.size_toArray, List.length_cons, List.length_nil, List.length_replicate, List.set_cons_zero, List.set_cons_succ, Nat.reduceAdd, Nat.reduceMul, Nat.reduceSub, Nat.reduceLeDiff, Nat.zero_add, Nat.add_zero, Nat.zero_le, true_and, and_true, not_false_eq_true, ne_eq, Int.reduceNeg, Int.reduceEq, Int.reduceNe, Int.reduceLT, Int.reduceLE, le_refl', List.setIfInBounds_toArray, Nat.reduceLT, Array.size_setIfInBounds, if_true, if_false, reduceCtorEq, List.toArray_toList', List.drop_succ_cons, List.drop_zero, List.take_succ_cons, List.take_zero, List.nil_append, List.append_nil, List.cons_append, Bool.and_true, Bool.true_and, Bool.or_false, Bool.false_or, Bool.and_false, Bool.or_true, Bool.true_or, Bool.false_and, eq_self]
  rw [decide_eq_false (by omega), pCond_false]
  refine fun _ => own_make (by omega) (by omega) (by omega) fun v H1 o1 e1 s1 k1 => ?_
  refine (o1.sl (by decide)).len (n := k) (by simp) (by decide) ?_
  refine ⟨fun i1 H' => ∃ (i : Nat) (l : List UInt8), i1 = .int .i64 i ∧ i ≤ k ∧ l.length = k ∧ l.take i = putN n i ∧ Own H' v 1 (l.map byteV) ∧ Ext H H', fun i1 _ => match i1 with | .int _ x => (k - x).toNat | _ => 0,
    ⟨0, List.replicate k 0, rfl, by omega, by simp, rfl, ?_, e1⟩, ?_⟩
  · rw [Int.toNat_natCast] at o1
    rw [List.map_replicate]; exact o1
  rintro _ _ H2 ⟨i, l, rfl, hi, hl, ht, o2, e2⟩
  simp only [pPick_v, pNil_v, pNil_f, pAdd_v, pSub_v, pMul_v, pAdd_s, pQuo_v, pRem_v, pBits_v, pShl_v, pShr_v, pLt_v, pLe_v, pGt_v, pGe_v, pEq_0, pNe_0, pEq_1, pNe_1, pEq_2, pNe_2, pEq_3n, pNe_3n, pEq_3s, pNe_3s, pEq_3t, pNe_3t, pEq_5n, pNe_5n, pEq_5s, pNe_5s, pEq_5t, pNe_5t, pEq_4n, pNe_4n, pEq_4s, pNe_4s, pNot_v, pNeg_v, pCom_v, pConv_v, pConvS_v, pMin_v, pMax_v, pFieldAddr_v, pField1_v, pFieldN_v, pExtract_v, pIdxArr_v, pIdxSl_v, pIdxStr_v, pBounds_00, pBounds_10, pBounds_01, pBounds_11, pSlStr_v, pSlSl_v, pSlArr_v, pLenS_v, pLen_v, pCap_v, pBuild_n, pBuild_c, cells_int, cells_str, cells_bool, cells_ptr, cells_slice, cells_map, cells_agg, oneCell_int, oneCell_str, oneCell_bool, oneCell_ptr, oneCell_slice, oneCell_map, putL_cons, putL_nil, pAnd_pure, pOr_pure, pAnd_pureE, pOr_pureE, pAnd_false, pOr_true, pCond_true, pCond_false, add_mk, bys_mk, bys_size, cond_true, cond_false, decide_true, decide_false, decide_not', dec_and, dec_or, dec_eqt, Bool.not_true, Bool.not_false, Option.isNone_none, Option.isNone_some, Option.map_some, Option.map_none, List.getElem?_toArray, List.getElem?_cons_zero, List.getElem?_cons_succ, List.size_toArray, List.length_cons, List.length_nil, List.length_replicate, List.set_cons_zero, List.set_cons_succ, Nat.reduceAdd, Nat.reduceMul, Nat.reduceSub, Nat.reduceLeDiff, Nat.zero_add, Nat.add_zero, Nat.zero_le, true_and, and_true, not_false_eq_true, ne_eq, Int.reduceNeg, Int.reduceEq, Int.reduceNe, Int.reduceLT, Int.reduceLE, le_refl', List.setIfInBounds_toArray, Nat.reduceLT, Array.size_setIfInBounds, if_true, if_false, reduceCtorEq, List.toArray_toList', List.drop_succ_cons, List.drop_zero, List.take_succ_cons, List.take_zero, List.nil_append, List.append_nil, List.cons_append, Bool.and_true, Bool.true_and, Bool.or_false, Bool.false_or, Bool.and_false, Bool.or_true, Bool.true_or, Bool.false_and, eq_self]
  refine pCond_if (fun hc => ?_) (fun hc => ?_)
  · rw [w64 (n := 8 * (i : Int)) (by omega) (by omega)]
    refine ⟨by omega, ?_⟩
    rw [show 8 * (i : Int) = ((8 * i : Nat) : Int) by omega, shr_int (show 8 * i ≤ 64 by omega)]
    have hb : Value.int .u8 (IntKind.u8.wrap ((n / 2 ^ (8 * i) : Nat) : Int)) = byteV (UInt8.ofNat (n / 256 ^ i % 256)) := by
      rw [show (256 : Nat) ^ i = 2 ^ (8 * i) by rw [Nat.pow_mul], byte_low]
    rw [hb]
    refine o2.store (x := byteV _) rfl (by omega) (by rw [List.length_map]; omega) fun H3 o3 i3 s3 => ?_
    rw [w64 (by omega) (by omega)]
    rw [Int.toNat_natCast, ← List.map_set] at o3
    refine ⟨⟨i + 1, _, rfl, by omega, by simpa using hl, ?_, o3, ext_of_own e2 (fun k' hk' => by rw [k1, Option.some.injEq] at hk'; omega) i3 (by omega)⟩, by show (_ : Int).toNat < (_ : Int).toNat; omega⟩
    rw [List.take_add_one, List.getElem?_set_self (by omega), List.take_set_of_le (by omega), ht, putN_succ]
    rfl
  · have hie : i = k := by omega
    subst hie
    rw [List.take_of_length_le (by omega)] at ht
    rw [ht] at o2
    exact Sl.str (o2.sl (by decide)) (h H2 e2)
theorem put_at {n kn : Nat} {k : Int} (e : k = kn) (hn : n < 18446744073709551616) (hk0 : 1 ≤ kn) (hk : kn ≤ 8) (h : ∀ H', Ext H H' → R (str (putN n kn)) H') : CallsH Tryd.prog 14 #[.int .u64 n, .int .i64 k] H R := by
  subst e; exact put_spec hn hk0 hk h
theorem put_no {n k : Int} (hk : ¬ (1 ≤ k ∧ k ≤ 8)) (h : R (str []) H) : CallsH Tryd.prog 14 #[.int .u64 n, .int .i64 k] H R := by
  refine bits_Put.vc _ _ _ _ ?_
  unfold bits_Put.res
  simp only [pPick_v, pNil_v, pNil_f, pAdd_v, pSub_v, pMul_v, pAdd_s, pQuo_v, pRem_v, pBits_v, pShl_v, pShr_v, pLt_v, pLe_v, pGt_v, pGe_v, pEq_0, pNe_0, pEq_1, pNe_1, pEq_2, pNe_2, pEq_3n, pNe_3n, pEq_3s, pNe_3s, pEq_3t, pNe_3t, pEq_5n, pNe_5n, pEq_5s, pNe_5s, pEq_5t, pNe_5t, pEq_4n, pNe_4n, pEq_4s, pNe_4s, pNot_v, pNeg_v, pCom_v, pConv_v, pConvS_v, pMin_v, pMax_v, pFieldAddr_v, pField1_v, pFieldN_v, pExtract_v, pIdxArr_v, pIdxSl_v, pIdxStr_v, pBounds_00, pBounds_10, pBounds_01, pBounds_11, pSlStr_v, pSlSl_v, pSlArr_v, pLenS_v, pLen_v, pCap_v, pBuild_n, pBuild_c, cells_int, cells_str, cells_bool, cells_ptr, cells_slice, cells_map, cells_agg, oneCell_int, oneCell_str, oneCell_bool, oneCell_ptr, oneCell_slice, oneCell_map, putL_cons, putL_nil, pAnd_pure, pOr_pure, pAnd_pureE, pOr_pureE, pAnd_false, pOr_true, pCond_true, pCond_false, add_mk, bys_mk, bys_size, cond_true, cond_false, decide_true, decide_false, decide_not', dec_and, dec_or, dec_eqt, Bool.not_true, Bool.not_false, Option.isNone_none, Option.isNone_some, Option.map_some, Option.map_none, List.getElem?_toArray, List.getElem?_cons_zero, List.getElem?_cons_succ, List.size_toArray, List.length_cons, List.length_nil, List.length_replicate, List.set_cons_zero, List.set_cons_succ, Nat.reduceAdd, Nat.reduceMul, Nat.reduceSub, Nat.reduceLeDiff, Nat.zero_add, Nat.add_zero, Nat.zero_le, true_and, and_true, not_false_eq_true, ne_eq, Int.reduceNeg, Int.reduceEq, Int.reduceNe, Int.reduceLT, Int.reduceLE, le_refl', List.setIfInBounds_toArray, Nat.reduceLT, Array.size_setIfInBounds, if_true, if_false, reduceCtorEq, List.toArray_toList', List.drop_succ_cons, List.drop_zero, List.take_succ_cons, List.take_zero, List.nil_append, List.append_nil, List.cons_append, Bool.and_true, Bool.true_and, Bool.or_false, Bool.false_or, Bool.and_false, Bool.or_true, Bool.true_or, Bool.false_and, eq_self]
  rw [decide_eq_true (by omega), pCond_true]
  exact fun _ => h
end Go.Proofs.YtpnkoniomalcpaaDoor
