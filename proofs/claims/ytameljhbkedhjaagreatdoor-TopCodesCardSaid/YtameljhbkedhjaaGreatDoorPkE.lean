/- Part 5 of the proof of RowTopCodes: what it is built on, in the order of its needs. -/
import Derived.Test.YtameljhbkedhjaaGreatDoorPkD
import Derived.Shelf.Strings.Builder1
import Derived.WalkKit
namespace Go.Proofs.YtameljhbkedhjaaGreatDoor
open Go Go.Vc Go.Proofs
set_option linter.unusedVariables false
set_option linter.unusedSimpArgs false
variable {H : Heap} {R : Value → Heap → Prop}
abbrev at_ (b o : Nat) : Value := .pointer (some ⟨b, o, none⟩)
abbrev u64 (n : Nat) : Value := .int .u64 (n : Int)
abbrev i64 (n : Nat) : Value := .int .i64 (n : Int)
structure Rd (H : Heap) (b o : Nat) (B : List Bool) : Prop where
  sub : ∃ (rest : List UInt8) (acc n : Nat), Sub H b o [str rest, u64 acc, i64 n] ∧ B = bitsN acc n ++ toBits rest ∧ acc < 2 ^ n ∧ n < 40
  big : B.length ≤ 1152921504606846976
theorem Rd.ext {H' : Heap} {b o : Nat} {B : List Bool} (h : Rd H b o B) (hx : Ext H H') : Rd H' b o B := by
  obtain ⟨⟨rest, acc, n, h1, h2⟩, h3⟩ := h
  exact ⟨⟨rest, acc, n, h1.ext hx, h2⟩, h3⟩
theorem Rd.lt {b o : Nat} {B : List Bool} (h : Rd H b o B) : b < H.size := by
  obtain ⟨⟨rest, acc, n, h1, h2⟩, h3⟩ := h
  exact h1.lt
theorem Rd.new {b o : Nat} (h : Sub H b o [str [], .int .u64 0, .int .i64 0]) : Rd H b o [] := ⟨⟨[], 0, 0, h, rfl, by decide, by decide⟩, by simp⟩
variable {b o : Nat} {B : List Bool}
theorem rLeft_spec (hr : Rd H b o B) (h : R (i64 B.length) H) : CallsH Tryz.prog 19 #[at_ b o] H R := by
  obtain ⟨⟨rest, acc, n, hs, rfl, ha, hn⟩, hb⟩ := hr
  rw [List.length_append, bitsN_len, toBits_len] at hb h
  refine bits_Reader_Left.vc _ _ _ ?_
  unfold bits_Reader_Left.res
  simp only [pPick_v, pNil_v, pNil_f, pAdd_v, pSub_v, pMul_v, pAdd_s, pQuo_v, pRem_v, pBits_v, pShl_v, pShr_v, pLt_v, pLe_v, pGt_v, pGe_v, pEq_0, pNe_0, pEq_1, pNe_1, pEq_2, pNe_2, pEq_3n, pNe_3n, pEq_3s, pNe_3s, pEq_3t, pNe_3t, pEq_5n, pNe_5n, pEq_5s, pNe_5s, pEq_5t, pNe_5t, pEq_4n, pNe_4n, pEq_4s, pNe_4s, pNot_v, pNeg_v, pCom_v, pConv_v, pConvS_v, pMin_v, pMax_v, pFieldAddr_v, pField1_v, pFieldN_v, pExtract_v, pIdxArr_v, pIdxSl_v, pIdxStr_v, pBounds_00, pBounds_10, pBounds_01, pBounds_11, pSlStr_v, pSlSl_v, pSlArr_v, pLenS_v, pLen_v, pCap_v, pBuild_n, pBuild_c, cells_int, cells_str, cells_bool, cells_ptr, cells_slice, cells_map, cells_agg, oneCell_int, oneCell_str, oneCell_bool, oneCell_ptr, oneCell_slice, oneCell_map, putL_cons, putL_nil, pAnd_pure, pOr_pure, pAnd_pureE, pOr_pureE, pAnd_false, pOr_true, pCond_true, pCond_false, add_mk, bys_mk, bys_size, cond_true, cond_false, decide_true, decide_false, decide_not', dec_and, dec_or, dec_eqt, Bool.not_true, Bool.not_false, Option.isNone_none, Option.isNone_some, Option.map_some, Option.map_none, List.getElem?_toArray, List.getElem?_cons_zero, List.getElem?_cons_succ, List.size_toArray, List.length_cons, List.length_nil, List.length_replicate, List.set_cons_zero, List.set_cons_succ, Nat.reduceAdd, Nat.reduceMul, Nat.reduceSub, Nat.reduceLeDiff, Nat.zero_add, Nat.add_zero, Nat.zero_le, true_and, and_true, not_false_eq_true, ne_eq, Int.reduceNeg, Int.reduceEq, Int.reduceNe, Int.reduceLT, Int.reduceLE, le_refl', List.setIfInBounds_toArray, Nat.reduceLT, Array.size_setIfInBounds, if_true, if_false, reduceCtorEq, List.toArray_toList', List.drop_succ_cons, List.drop_zero, List.take_succ_cons, List.take_zero, List.nil_append, List.append_nil, List.cons_append, Bool.and_true, Bool.true_and, Bool.or_false, Bool.false_or, Bool.and_false, Bool.or_true, Bool.true_or, Bool.false_and, eq_self, pLoad_cell (hs.cell0 rfl), pLoad_cell (hs.cell (k := 2) rfl)]
  rw [w64 (n := 8 * (rest.length : Int)) (by omega) (by omega), w64 (by omega) (by omega), show (n : Int) + 8 * (rest.length : Int) = ((n + 8 * rest.length : Nat) : Int) by omega]
  exact h
theorem rFeed_spec {s : List UInt8} (hr : Rd H b o B) (hbig : B.length + 8 * s.length ≤ 1152921504606846976) (h : ∀ H', Rd H' b o (B ++ toBits s) → Chg b o 3 none_ none_ H H' → R (.tuple #[]) H') : CallsH Tryz.prog 17 #[at_ b o, str s] H R := by
  obtain ⟨⟨rest, acc, n, hs, rfl, ha, hn⟩, hb⟩ := hr
  rw [List.length_append, bitsN_len, toBits_len] at hb hbig
  refine bits_Reader_Feed.vc _ _ _ _ ?_
  unfold bits_Reader_Feed.res
  simp only [pPick_v, pNil_v, pNil_f, pAdd_v, pSub_v, pMul_v, pAdd_s, pQuo_v, pRem_v, pBits_v, pShl_v, pShr_v, pLt_v, pLe_v, pGt_v, pGe_v, pEq_0, pNe_0, pEq_1, pNe_1, pEq_2, pNe_2, pEq_3n, pNe_3n, pEq_3s, pNe_3s, pEq_3t, pNe_3t, pEq_5n, pNe_5n, pEq_5s, pNe_5s, pEq_5t, pNe_5t, pEq_4n, pNe_4n, pEq_4s, pNe_4s, pNot_v, pNeg_v, pCom_v, pConv_v, pConvS_v, pMin_v, pMax_v, pFieldAddr_v, pField1_v, pFieldN_v, pExtract_v, pIdxArr_v, pIdxSl_v, pIdxStr_v, pBounds_00, pBounds_10, pBounds_01, pBounds_11, pSlStr_v, pSlSl_v, pSlArr_v, pLenS_v, pLen_v, pCap_v, pBuild_n, pBuild_c, cells_int, cells_str, cells_bool, cells_ptr, cells_slice, cells_map, cells_agg, oneCell_int, oneCell_str, oneCell_bool, oneCell_ptr, oneCell_slice, oneCell_map, putL_cons, putL_nil, pAnd_pure, pOr_pure, pAnd_pureE, pOr_pureE, pAnd_false, pOr_true, pCond_true, pCond_false, add_mk, bys_mk, bys_size, cond_true, cond_false, decide_true, decide_false, decide_not', dec_and, dec_or, dec_eqt, Bool.not_true, Bool.not_false, Option.isNone_none, Option.isNone_some, Option.map_some, Option.map_none, List.getElem?_toArray, List.getElem?_cons_zero, List.getElem?_cons_succ, List.size_toArray, List.length_cons, List.length_nil, List.length_replicate, List.set_cons_zero, List.set_cons_succ, Nat.reduceAdd, Nat.reduceMul, Nat.reduceSub, Nat.reduceLeDiff, Nat.zero_add, Nat.add_zero, Nat.zero_le, true_and, and_true, not_false_eq_true, ne_eq, Int.reduceNeg, Int.reduceEq, Int.reduceNe, Int.reduceLT, Int.reduceLE, le_refl', List.setIfInBounds_toArray, Nat.reduceLT, Array.size_setIfInBounds, if_true, if_false, reduceCtorEq, List.toArray_toList', List.drop_succ_cons, List.drop_zero, List.take_succ_cons, List.take_zero, List.nil_append, List.append_nil, List.cons_append, Bool.and_true, Bool.true_and, Bool.or_false, Bool.false_or, Bool.and_false, Bool.or_true, Bool.true_or, Bool.false_and, eq_self, pLoad_cell (hs.cell0 rfl)]
  refine ⟨by first | omega | (simp [ByteArray.size]; omega), ?_⟩
  refine pStore_sub0 (F := none_) (n := 3) hs rfl (by simp) rfl fun H1 s1 hs1 c1 => ?_
  refine h H1 ⟨⟨rest ++ s, acc, n, hs1, by rw [toBits_append, List.append_assoc], ha, hn⟩, ?_⟩ c1
  rw [List.length_append, List.length_append, bitsN_len, toBits_len, toBits_len]; omega
theorem rfill_spec {k : Nat} (hk : k ≤ 32) {rest : List UInt8} {acc n : Nat} (hs : Sub H b o [str rest, u64 acc, i64 n]) (ha : acc < 2 ^ n) (hn : n < 40) (hl : k ≤ n + 8 * rest.length) (hbig : rest.length ≤ 1152921504606846976)
    (h : ∀ H' rest' acc' n', Sub H' b o [str rest', u64 acc', i64 n'] → bitsN acc' n' ++ toBits rest' = bitsN acc n ++ toBits rest → acc' < 2 ^ n' → n' < 40 → k ≤ n' → Chg b o 3 none_ none_ H H' → R (.tuple #[]) H') : CallsH Tryz.prog 71 #[at_ b o, i64 k] H R := by
  refine bits_Reader_fill.vc _ _ _ _ ?_
  unfold bits_Reader_fill.res
  refine ⟨fun H' => ∃ (rest' : List UInt8) (acc' n' : Nat), Sub H' b o [str rest', u64 acc', i64 n'] ∧ bitsN acc' n' ++ toBits rest' = bitsN acc n ++ toBits rest ∧ acc' < 2 ^ n' ∧ n' < 40 ∧ rest'.length ≤ rest.length ∧ Chg b o 3 none_ none_ H H',
    fun H' => match cellAt H' ⟨b, o + 2, none⟩ with | some (.int _ q) => (100 - q).toNat | _ => 0, ⟨rest, acc, n, hs, rfl, ha, hn, Nat.le_refl _, Chg.refl⟩, ?_⟩
  rintro _ H1 ⟨rest', acc', n', hs1, he, ha1, hn1, hrl, c1⟩
  have hlen : n' + 8 * rest'.length = n + 8 * rest.length := by
    have := congrArg List.length he
    rw [List.length_append, List.length_append, bitsN_len, bitsN_len, toBits_len, toBits_len] at this
    exact this
  simp only [pPick_v, pNil_v, pNil_f, pAdd_v, pSub_v, pMul_v, pAdd_s, pQuo_v, pRem_v, pBits_v, pShl_v, pShr_v, pLt_v, pLe_v, pGt_v, pGe_v, pEq_0, pNe_0, pEq_1, pNe_1, pEq_2, pNe_2, pEq_3n, pNe_3n, pEq_3s, pNe_3s, pEq_3t, pNe_3t, pEq_5n, pNe_5n, pEq_5s, pNe_5s, pEq_5t, pNe_5t, pEq_4n, pNe_4n, pEq_4s, pNe_4s, pNot_v, pNeg_v, pCom_v, pConv_v, pConvS_v, pMin_v, pMax_v, pFieldAddr_v, pField1_v, pFieldN_v, pExtract_v, pIdxArr_v, pIdxSl_v, pIdxStr_v, pBounds_00, pBounds_10, pBounds_01, pBounds_11, pSlStr_v, pSlSl_v, pSlArr_v, pLenS_v, pLen_v, pCap_v, pBuild_n, pBuild_c, cells_int, cells_str, cells_bool, cells_ptr, cells_slice, cells_map, cells_agg, oneCell_int, oneCell_str, oneCell_bool, oneCell_ptr, oneCell_slice, oneCell_map, putL_cons, putL_nil, pAnd_pure, pOr_pure, pAnd_pureE, pOr_pureE, pAnd_false, pOr_true, pCond_true, pCond_false, add_mk, bys_mk, bys_size, cond_true, cond_false, decide_true, decide_false, decide_not', dec_and, dec_or, dec_eqt, Bool.not_true, Bool.not_false, Option.isNone_none, Option.isNone_some, Option.map_some, Option.map_none, List.getElem?_toArray, List.getElem?_cons_zero, List.getElem?_cons_succ, List.size_toArray, List.length_cons, List.length_nil, List.length_replicate, List.set_cons_zero, List.set_cons_succ, Nat.reduceAdd, Nat.reduceMul, Nat.reduceSub, Nat.reduceLeDiff, Nat.zero_add, Nat.add_zero, Nat.zero_le, true_and, and_true, not_false_eq_true, ne_eq, Int.reduceNeg, Int.reduceEq, Int.reduceNe, Int.reduceLT, Int.reduceLE, le_refl', List.setIfInBounds_toArray, Nat.reduceLT, Array.size_setIfInBounds, if_true, if_false, reduceCtorEq, List.toArray_toList', List.drop_succ_cons, List.drop_zero, List.take_succ_cons, List.take_zero, List.nil_append, List.append_nil, List.cons_append, Bool.and_true, Bool.true_and, Bool.or_false, Bool.false_or, Bool.and_false, Bool.or_true, Bool.true_or, Bool.false_and, eq_self, pLoad_cell (hs1.cell0 rfl), pLoad_cell (hs1.cell (k := 1) rfl), pLoad_cell (hs1.cell (k := 2) rfl)]
  refine fun _ => pCond_if (fun hc => ?_) (fun hc => ?_)
  · obtain ⟨x, t, rfl⟩ : ∃ x t, rest' = x :: t := by
      cases rest' with
      | nil => exact absurd rfl hc.2
      | cons x t => exact ⟨x, t, rfl⟩
    have hx : x.toNat < 256 := x.toNat_lt
    have hpw : (2 : Nat) ^ n' ≤ 2 ^ 31 := Nat.pow_le_pow_right (by decide) (by omega)
    have hm : x.toNat * 2 ^ n' ≤ 255 * 2 ^ 31 := Nat.mul_le_mul (by omega) hpw
    simp only [Int.reduceToNat, List.getD_cons_zero]
    refine ⟨by simp, by omega, ?_⟩
    rw [wu64 (n := (x.toNat : Int)) (by omega) (by omega), shl_u64 (by omega) (by omega), or_u64 (by omega) (by omega), or_disj ha1]
    have hs1' : Sub H1 b o [str (x :: t), u64 acc', i64 n'] := hs1
    refine pStore_sub (F := none_) (k := 1) (n := 3) hs1 rfl (by simp) rfl fun H2 s2 hs2 c2 => ?_
    simp only [pPick_v, pNil_v, pNil_f, pAdd_v, pSub_v, pMul_v, pAdd_s, pQuo_v, pRem_v, pBits_v, pShl_v, pShr_v, pLt_v, pLe_v, pGt_v, pGe_v, pEq_0, pNe_0, pEq_1, pNe_1, pEq_2, pNe_2, pEq_3n, pNe_3n, pEq_3s, pNe_3s, pEq_3t, pNe_3t, pEq_5n, pNe_5n, pEq_5s, pNe_5s, pEq_5t, pNe_5t, pEq_4n, pNe_4n, pEq_4s, pNe_4s, pNot_v, pNeg_v, pCom_v, pConv_v, pConvS_v, pMin_v, pMax_v, pFieldAddr_v, pField1_v, pFieldN_v, pExtract_v, pIdxArr_v, pIdxSl_v, pIdxStr_v, pBounds_00, pBounds_10, pBounds_01, pBounds_11, pSlStr_v, pSlSl_v, pSlArr_v, pLenS_v, pLen_v, pCap_v, pBuild_n, pBuild_c, cells_int, cells_str, cells_bool, cells_ptr, cells_slice, cells_map, cells_agg, oneCell_int, oneCell_str, oneCell_bool, oneCell_ptr, oneCell_slice, oneCell_map, putL_cons, putL_nil, pAnd_pure, pOr_pure, pAnd_pureE, pOr_pureE, pAnd_false, pOr_true, pCond_true, pCond_false, add_mk, bys_mk, bys_size, cond_true, cond_false, decide_true, decide_false, decide_not', dec_and, dec_or, dec_eqt, Bool.not_true, Bool.not_false, Option.isNone_none, Option.isNone_some, Option.map_some, Option.map_none, List.getElem?_toArray, List.getElem?_cons_zero, List.getElem?_cons_succ, List.size_toArray, List.length_cons, List.length_nil, List.length_replicate, List.set_cons_zero, List.set_cons_succ, Nat.reduceAdd, Nat.reduceMul, Nat.reduceSub, Nat.reduceLeDiff, Nat.zero_add, Nat.add_zero, Nat.zero_le, true_and, and_true, not_false_eq_true, ne_eq, Int.reduceNeg, Int.reduceEq, Int.reduceNe, Int.reduceLT, Int.reduceLE, le_refl', List.setIfInBounds_toArray, Nat.reduceLT, Array.size_setIfInBounds, if_true, if_false, reduceCtorEq, List.toArray_toList', List.drop_succ_cons, List.drop_zero, List.take_succ_cons, List.take_zero, List.nil_append, List.append_nil, List.cons_append, Bool.and_true, Bool.true_and, Bool.or_false, Bool.false_or, Bool.and_false, Bool.or_true, Bool.true_or, Bool.false_and, eq_self, pLoad_cell (hs2.cell0 rfl)]
    refine ⟨by omega, ?_⟩
    simp only [Int.reduceToNat, List.drop_succ_cons, List.drop_zero]
    rw [List.take_of_length_le (by simp)]
    refine pStore_sub0 (F := none_) (n := 3) hs2 rfl (by simp) rfl fun H3 s3 hs3 c3 => ?_
    simp only [pPick_v, pNil_v, pNil_f, pAdd_v, pSub_v, pMul_v, pAdd_s, pQuo_v, pRem_v, pBits_v, pShl_v, pShr_v, pLt_v, pLe_v, pGt_v, pGe_v, pEq_0, pNe_0, pEq_1, pNe_1, pEq_2, pNe_2, pEq_3n, pNe_3n, pEq_3s, pNe_3s, pEq_3t, pNe_3t, pEq_5n, pNe_5n, pEq_5s, pNe_5s, pEq_5t, pNe_5t, pEq_4n, pNe_4n, pEq_4s, pNe_4s, pNot_v, pNeg_v, pCom_v, pConv_v, pConvS_v, pMin_v, pMax_v, pFieldAddr_v, pField1_v, pFieldN_v, pExtract_v, pIdxArr_v, pIdxSl_v, pIdxStr_v, pBounds_00, pBounds_10, pBounds_01, pBounds_11, pSlStr_v, pSlSl_v, pSlArr_v, pLenS_v, pLen_v, pCap_v, pBuild_n, pBuild_c, cells_int, cells_str, cells_bool, cells_ptr, cells_slice, cells_map, cells_agg, oneCell_int, oneCell_str, oneCell_bool, oneCell_ptr, oneCell_slice, oneCell_map, putL_cons, putL_nil, pAnd_pure, pOr_pure, pAnd_pureE, pOr_pureE, pAnd_false, pOr_true, pCond_true, pCond_false, add_mk, bys_mk, bys_size, cond_true, cond_false, decide_true, decide_false, decide_not', dec_and, dec_or, dec_eqt, Bool.not_true, Bool.not_false, Option.isNone_none, Option.isNone_some, Option.map_some, Option.map_none, List.getElem?_toArray, List.getElem?_cons_zero, List.getElem?_cons_succ, List.size_toArray, List.length_cons, List.length_nil, List.length_replicate, List.set_cons_zero, List.set_cons_succ, Nat.reduceAdd, Nat.reduceMul, Nat.reduceSub, Nat.reduceLeDiff, Nat.zero_add, Nat.add_zero, Nat.zero_le, true_and, and_true, not_false_eq_true, ne_eq, Int.reduceNeg, Int.reduceEq, Int.reduceNe, Int.reduceLT, Int.reduceLE, le_refl', List.setIfInBounds_toArray, Nat.reduceLT, Array.size_setIfInBounds, if_true, if_false, reduceCtorEq, List.toArray_toList', List.drop_succ_cons, List.drop_zero, List.take_succ_cons, List.take_zero, List.nil_append, List.append_nil, List.cons_append, Bool.and_true, Bool.true_and, Bool.or_false, Bool.false_or, Bool.and_false, Bool.or_true, Bool.true_or, Bool.false_and, eq_self, pLoad_cell (hs3.cell (k := 2) rfl)]
    rw [w64 (n := (n' : Int) + 8) (by omega) (by omega)]
    refine pStore_sub (F := none_) (k := 2) (n := 3) hs3 rfl (by simp) rfl fun H4 s4 hs4 c4 => ?_
    refine ⟨⟨t, acc' + x.toNat * 2 ^ n', n' + 8, hs4, ?_, ?_, by omega, by simp at hrl; omega, ((c1.trans c2).trans c3).trans c4⟩, ?_⟩
    · rw [← he, bitsN_join ha1, toBits_cons, List.append_assoc]
    · rw [Nat.pow_add]
      have h1 : x.toNat * 2 ^ n' ≤ 255 * 2 ^ n' := Nat.mul_le_mul_right _ (by omega)
      have : (2 : Nat) ^ 8 = 256 := rfl
      omega
    · rw [hs4.cell (k := 2) rfl, hs1.cell (k := 2) rfl]
      show (100 - ((n' : Int) + 8)).toNat < (100 - (n' : Int)).toNat
      omega
  · refine h H1 rest' acc' n' hs1 he ha1 hn1 ?_ c1
    by_cases hr0 : rest' = []
    · subst hr0; simp at hlen; omega
    · have : ¬ ((n' : Int) < (k : Int)) := fun h' => hc ⟨h', hr0⟩
      omega
theorem rdrop_spec {k : Nat} {rest : List UInt8} {acc n : Nat} (hs : Sub H b o [str rest, u64 acc, i64 n]) (hk : k ≤ n) (hn : n < 40)
    (h : ∀ H', Sub H' b o [str rest, u64 (acc / 2 ^ k), i64 (n - k)] → Chg b o 3 none_ none_ H H' → R (.tuple #[]) H') : CallsH Tryz.prog 72 #[at_ b o, i64 k] H R := by
  refine bits_Reader_drop.vc _ _ _ _ ?_
  unfold bits_Reader_drop.res
  simp only [pPick_v, pNil_v, pNil_f, pAdd_v, pSub_v, pMul_v, pAdd_s, pQuo_v, pRem_v, pBits_v, pShl_v, pShr_v, pLt_v, pLe_v, pGt_v, pGe_v, pEq_0, pNe_0, pEq_1, pNe_1, pEq_2, pNe_2, pEq_3n, pNe_3n, pEq_3s, pNe_3s, pEq_3t, pNe_3t, pEq_5n, pNe_5n, pEq_5s, pNe_5s, pEq_5t, pNe_5t, pEq_4n, pNe_4n, pEq_4s, pNe_4s, pNot_v, pNeg_v, pCom_v, pConv_v, pConvS_v, pMin_v, pMax_v, pFieldAddr_v, pField1_v, pFieldN_v, pExtract_v, pIdxArr_v, pIdxSl_v, pIdxStr_v, pBounds_00, pBounds_10, pBounds_01, pBounds_11, pSlStr_v, pSlSl_v, pSlArr_v, pLenS_v, pLen_v, pCap_v, pBuild_n, pBuild_c, cells_int, cells_str, cells_bool, cells_ptr, cells_slice, cells_map, cells_agg, oneCell_int, oneCell_str, oneCell_bool, oneCell_ptr, oneCell_slice, oneCell_map, putL_cons, putL_nil, pAnd_pure, pOr_pure, pAnd_pureE, pOr_pureE, pAnd_false, pOr_true, pCond_true, pCond_false, add_mk, bys_mk, bys_size, cond_true, cond_false, decide_true, decide_false, decide_not', dec_and, dec_or, dec_eqt, Bool.not_true, Bool.not_false, Option.isNone_none, Option.isNone_some, Option.map_some, Option.map_none, List.getElem?_toArray, List.getElem?_cons_zero, List.getElem?_cons_succ, List.size_toArray, List.length_cons, List.length_nil, List.length_replicate, List.set_cons_zero, List.set_cons_succ, Nat.reduceAdd, Nat.reduceMul, Nat.reduceSub, Nat.reduceLeDiff, Nat.zero_add, Nat.add_zero, Nat.zero_le, true_and, and_true, not_false_eq_true, ne_eq, Int.reduceNeg, Int.reduceEq, Int.reduceNe, Int.reduceLT, Int.reduceLE, le_refl', List.setIfInBounds_toArray, Nat.reduceLT, Array.size_setIfInBounds, if_true, if_false, reduceCtorEq, List.toArray_toList', List.drop_succ_cons, List.drop_zero, List.take_succ_cons, List.take_zero, List.nil_append, List.append_nil, List.cons_append, Bool.and_true, Bool.true_and, Bool.or_false, Bool.false_or, Bool.and_false, Bool.or_true, Bool.true_or, Bool.false_and, eq_self, pLoad_cell (hs.cell (k := 1) rfl)]
  refine ⟨by omega, ?_⟩
  rw [shr_int (show k ≤ 64 by omega)]
  refine pStore_sub (F := none_) (k := 1) (n := 3) hs rfl (by simp) rfl fun H2 s2 hs2 c2 => ?_
  simp only [pPick_v, pNil_v, pNil_f, pAdd_v, pSub_v, pMul_v, pAdd_s, pQuo_v, pRem_v, pBits_v, pShl_v, pShr_v, pLt_v, pLe_v, pGt_v, pGe_v, pEq_0, pNe_0, pEq_1, pNe_1, pEq_2, pNe_2, pEq_3n, pNe_3n, pEq_3s, pNe_3s, pEq_3t, pNe_3t, pEq_5n, pNe_5n, pEq_5s, pNe_5s, pEq_5t, pNe_5t, pEq_4n, pNe_4n, pEq_4s, pNe_4s, pNot_v, pNeg_v, pCom_v, pConv_v, pConvS_v, pMin_v, pMax_v, pFieldAddr_v, pField1_v, pFieldN_v, pExtract_v, pIdxArr_v, pIdxSl_v, pIdxStr_v, pBounds_00, pBounds_10, pBounds_01, pBounds_11, pSlStr_v, pSlSl_v, pSlArr_v, pLenS_v, pLen_v, pCap_v, pBuild_n, pBuild_c, cells_int, cells_str, cells_bool, cells_ptr, cells_slice, cells_map, cells_agg, oneCell_int, oneCell_str, oneCell_bool, oneCell_ptr, oneCell_slice, oneCell_map, putL_cons, putL_nil, pAnd_pure, pOr_pure, pAnd_pureE, pOr_pureE, pAnd_false, pOr_true, pCond_true, pCond_false, add_mk, bys_mk, bys_size, cond_true, cond_false, decide_true, decide_false, decide_not', dec_and, dec_or, dec_eqt, Bool.not_true, Bool.not_false, Option.isNone_none, Option.isNone_some, Option.map_some, Option.map_none, List.getElem?_toArray, List.getElem?_cons_zero, List.getElem?_cons_succ, List.size_toArray, List.length_cons, List.length_nil, List.length_replicate, List.set_cons_zero, List.set_cons_succ, Nat.reduceAdd, Nat.reduceMul, Nat.reduceSub, Nat.reduceLeDiff, Nat.zero_add, Nat.add_zero, Nat.zero_le, true_and, and_true, not_false_eq_true, ne_eq, Int.reduceNeg, Int.reduceEq, Int.reduceNe, Int.reduceLT, Int.reduceLE, le_refl', List.setIfInBounds_toArray, Nat.reduceLT, Array.size_setIfInBounds, if_true, if_false, reduceCtorEq, List.toArray_toList', List.drop_succ_cons, List.drop_zero, List.take_succ_cons, List.take_zero, List.nil_append, List.append_nil, List.cons_append, Bool.and_true, Bool.true_and, Bool.or_false, Bool.false_or, Bool.and_false, Bool.or_true, Bool.true_or, Bool.false_and, eq_self, pLoad_cell (hs2.cell (k := 2) rfl)]
  rw [w64 (n := (n : Int) - (k : Int)) (by omega) (by omega), show (n : Int) - (k : Int) = ((n - k : Nat) : Int) by omega]
  refine pStore_sub (F := none_) (k := 2) (n := 3) hs2 rfl (by simp) rfl fun H3 s3 hs3 c3 => ?_
  exact h H3 hs3 (c2.trans c3)
theorem drop_bits {acc n k : Nat} {rest : List UInt8} (hk : k ≤ n) : bitsN (acc / 2 ^ k) (n - k) ++ toBits rest = (bitsN acc n ++ toBits rest).drop k := by
  rw [List.drop_append_of_le_length (by rw [bitsN_len]; exact hk)]
  congr 1
  conv => rhs; rw [show n = k + (n - k) by omega, bitsN_add]
  rw [List.drop_append_of_le_length (by rw [bitsN_len]; exact Nat.le_refl _), List.drop_of_length_le (by rw [bitsN_len]; exact Nat.le_refl _), List.nil_append]
theorem div_lt {acc n k : Nat} (h : acc < 2 ^ n) (hk : k ≤ n) : acc / 2 ^ k < 2 ^ (n - k) := by
  rw [Nat.div_lt_iff_lt_mul (Nat.two_pow_pos k), ← Nat.pow_add, show n - k + k = n by omega]; exact h
theorem rPeek_no {n : Int} (hr : Rd H b o B) (hno : ¬ (0 ≤ n ∧ n ≤ 32 ∧ n ≤ (B.length : Int))) (h : R (.tuple #[.int .u64 0, .bool false]) H) : CallsH Tryz.prog 43 #[at_ b o, .int .i64 n] H R := by
  refine bits_Reader_Peek.vc _ _ _ _ ?_
  unfold bits_Reader_Peek.res
  simp only [pPick_v, pNil_v, pNil_f, pAdd_v, pSub_v, pMul_v, pAdd_s, pQuo_v, pRem_v, pBits_v, pShl_v, pShr_v, pLt_v, pLe_v, pGt_v, pGe_v, pEq_0, pNe_0, pEq_1, pNe_1, pEq_2, pNe_2, pEq_3n, pNe_3n, pEq_3s, pNe_3s, pEq_3t, pNe_3t, pEq_5n, pNe_5n, pEq_5s, pNe_5s, pEq_5t, pNe_5t, pEq_4n, pNe_4n, pEq_4s, pNe_4s, pNot_v, pNeg_v, pCom_v, pConv_v, pConvS_v, pMin_v, pMax_v, pFieldAddr_v, pField1_v, pFieldN_v, pExtract_v, pIdxArr_v, pIdxSl_v, pIdxStr_v, pBounds_00, pBounds_10, pBounds_01, pBounds_11, pSlStr_v, pSlSl_v, pSlArr_v, pLenS_v, pLen_v, pCap_v, pBuild_n, pBuild_c, cells_int, cells_str, cells_bool, cells_ptr, cells_slice, cells_map, cells_agg, oneCell_int, oneCell_str, oneCell_bool, oneCell_ptr, oneCell_slice, oneCell_map, putL_cons, putL_nil, pAnd_pure, pOr_pure, pAnd_pureE, pOr_pureE, pAnd_false, pOr_true, pCond_true, pCond_false, add_mk, bys_mk, bys_size, cond_true, cond_false, decide_true, decide_false, decide_not', dec_and, dec_or, dec_eqt, Bool.not_true, Bool.not_false, Option.isNone_none, Option.isNone_some, Option.map_some, Option.map_none, List.getElem?_toArray, List.getElem?_cons_zero, List.getElem?_cons_succ, List.size_toArray, List.length_cons, List.length_nil, List.length_replicate, List.set_cons_zero, List.set_cons_succ, Nat.reduceAdd, Nat.reduceMul, Nat.reduceSub, Nat.reduceLeDiff, Nat.zero_add, Nat.add_zero, Nat.zero_le, true_and, and_true, not_false_eq_true, ne_eq, Int.reduceNeg, Int.reduceEq, Int.reduceNe, Int.reduceLT, Int.reduceLE, le_refl', List.setIfInBounds_toArray, Nat.reduceLT, Array.size_setIfInBounds, if_true, if_false, reduceCtorEq, List.toArray_toList', List.drop_succ_cons, List.drop_zero, List.take_succ_cons, List.take_zero, List.nil_append, List.append_nil, List.cons_append, Bool.and_true, Bool.true_and, Bool.or_false, Bool.false_or, Bool.and_false, Bool.or_true, Bool.true_or, Bool.false_and, eq_self]
  intros
  refine pOr_if (d := decide ((B.length : Int) < n)) (fun _ => ?_) ?_
  · refine rLeft_spec hr ?_
    simp only [pPick_v, pNil_v, pNil_f, pAdd_v, pSub_v, pMul_v, pAdd_s, pQuo_v, pRem_v, pBits_v, pShl_v, pShr_v, pLt_v, pLe_v, pGt_v, pGe_v, pEq_0, pNe_0, pEq_1, pNe_1, pEq_2, pNe_2, pEq_3n, pNe_3n, pEq_3s, pNe_3s, pEq_3t, pNe_3t, pEq_5n, pNe_5n, pEq_5s, pNe_5s, pEq_5t, pNe_5t, pEq_4n, pNe_4n, pEq_4s, pNe_4s, pNot_v, pNeg_v, pCom_v, pConv_v, pConvS_v, pMin_v, pMax_v, pFieldAddr_v, pField1_v, pFieldN_v, pExtract_v, pIdxArr_v, pIdxSl_v, pIdxStr_v, pBounds_00, pBounds_10, pBounds_01, pBounds_11, pSlStr_v, pSlSl_v, pSlArr_v, pLenS_v, pLen_v, pCap_v, pBuild_n, pBuild_c, cells_int, cells_str, cells_bool, cells_ptr, cells_slice, cells_map, cells_agg, oneCell_int, oneCell_str, oneCell_bool, oneCell_ptr, oneCell_slice, oneCell_map, putL_cons, putL_nil, pAnd_pure, pOr_pure, pAnd_pureE, pOr_pureE, pAnd_false, pOr_true, pCond_true, pCond_false, add_mk, bys_mk, bys_size, cond_true, cond_false, decide_true, decide_false, decide_not', dec_and, dec_or, dec_eqt, Bool.not_true, Bool.not_false, Option.isNone_none, Option.isNone_some, Option.map_some, Option.map_none, List.getElem?_toArray, List.getElem?_cons_zero, List.getElem?_cons_succ, List.size_toArray, List.length_cons, List.length_nil, List.length_replicate, List.set_cons_zero, List.set_cons_succ, Nat.reduceAdd, Nat.reduceMul, Nat.reduceSub, Nat.reduceLeDiff, Nat.zero_add, Nat.add_zero, Nat.zero_le, true_and, and_true, not_false_eq_true, ne_eq, Int.reduceNeg, Int.reduceEq, Int.reduceNe, Int.reduceLT, Int.reduceLE, le_refl', List.setIfInBounds_toArray, Nat.reduceLT, Array.size_setIfInBounds, if_true, if_false, reduceCtorEq, List.toArray_toList', List.drop_succ_cons, List.drop_zero, List.take_succ_cons, List.take_zero, List.nil_append, List.append_nil, List.cons_append, Bool.and_true, Bool.true_and, Bool.or_false, Bool.false_or, Bool.and_false, Bool.or_true, Bool.true_or, Bool.false_and, eq_self]
  refine fun _ => pCond_b (fun _ => h) (fun hc => ?_)
  simp only [Bool.or_eq_false_iff, decide_eq_false_iff_not] at hc
  omega
theorem rPeek_core {k : Nat} (hr : Rd H b o B) (hk : k ≤ 32) (hkB : k ≤ B.length)
    (h : ∀ H' rest acc n, Sub H' b o [str rest, u64 acc, i64 n] → B = bitsN acc n ++ toBits rest → acc < 2 ^ n → n < 40 → k ≤ n → Chg b o 3 none_ none_ H H' → R (.tuple #[u64 (numB (B.take k)), .bool true]) H') : CallsH Tryz.prog 43 #[at_ b o, i64 k] H R := by
  have hr' := hr
  obtain ⟨⟨rest, acc, n, hs, he, ha, hn⟩, hb⟩ := hr
  have hlen : B.length = n + 8 * rest.length := by rw [he, List.length_append, bitsN_len, toBits_len]
  refine bits_Reader_Peek.vc _ _ _ _ ?_
  unfold bits_Reader_Peek.res
  simp only [pPick_v, pNil_v, pNil_f, pAdd_v, pSub_v, pMul_v, pAdd_s, pQuo_v, pRem_v, pBits_v, pShl_v, pShr_v, pLt_v, pLe_v, pGt_v, pGe_v, pEq_0, pNe_0, pEq_1, pNe_1, pEq_2, pNe_2, pEq_3n, pNe_3n, pEq_3s, pNe_3s, pEq_3t, pNe_3t, pEq_5n, pNe_5n, pEq_5s, pNe_5s, pEq_5t, pNe_5t, pEq_4n, pNe_4n, pEq_4s, pNe_4s, pNot_v, pNeg_v, pCom_v, pConv_v, pConvS_v, pMin_v, pMax_v, pFieldAddr_v, pField1_v, pFieldN_v, pExtract_v, pIdxArr_v, pIdxSl_v, pIdxStr_v, pBounds_00, pBounds_10, pBounds_01, pBounds_11, pSlStr_v, pSlSl_v, pSlArr_v, pLenS_v, pLen_v, pCap_v, pBuild_n, pBuild_c, cells_int, cells_str, cells_bool, cells_ptr, cells_slice, cells_map, cells_agg, oneCell_int, oneCell_str, oneCell_bool, oneCell_ptr, oneCell_slice, oneCell_map, putL_cons, putL_nil, pAnd_pure, pOr_pure, pAnd_pureE, pOr_pureE, pAnd_false, pOr_true, pCond_true, pCond_false, add_mk, bys_mk, bys_size, cond_true, cond_false, decide_true, decide_false, decide_not', dec_and, dec_or, dec_eqt, Bool.not_true, Bool.not_false, Option.isNone_none, Option.isNone_some, Option.map_some, Option.map_none, List.getElem?_toArray, List.getElem?_cons_zero, List.getElem?_cons_succ, List.size_toArray, List.length_cons, List.length_nil, List.length_replicate, List.set_cons_zero, List.set_cons_succ, Nat.reduceAdd, Nat.reduceMul, Nat.reduceSub, Nat.reduceLeDiff, Nat.zero_add, Nat.add_zero, Nat.zero_le, true_and, and_true, not_false_eq_true, ne_eq, Int.reduceNeg, Int.reduceEq, Int.reduceNe, Int.reduceLT, Int.reduceLE, le_refl', List.setIfInBounds_toArray, Nat.reduceLT, Array.size_setIfInBounds, if_true, if_false, reduceCtorEq, List.toArray_toList', List.drop_succ_cons, List.drop_zero, List.take_succ_cons, List.take_zero, List.nil_append, List.append_nil, List.cons_append, Bool.and_true, Bool.true_and, Bool.or_false, Bool.false_or, Bool.and_false, Bool.or_true, Bool.true_or, Bool.false_and, eq_self]
  intros
  refine pOr_if (d := false) (fun _ => ?_) ?_
  · refine rLeft_spec hr' ?_
    simp only [pPick_v, pNil_v, pNil_f, pAdd_v, pSub_v, pMul_v, pAdd_s, pQuo_v, pRem_v, pBits_v, pShl_v, pShr_v, pLt_v, pLe_v, pGt_v, pGe_v, pEq_0, pNe_0, pEq_1, pNe_1, pEq_2, pNe_2, pEq_3n, pNe_3n, pEq_3s, pNe_3s, pEq_3t, pNe_3t, pEq_5n, pNe_5n, pEq_5s, pNe_5s, pEq_5t, pNe_5t, pEq_4n, pNe_4n, pEq_4s, pNe_4s, pNot_v, pNeg_v, pCom_v, pConv_v, pConvS_v, pMin_v, pMax_v, pFieldAddr_v, pField1_v, pFieldN_v, pExtract_v, pIdxArr_v, pIdxSl_v, pIdxStr_v, pBounds_00, pBounds_10, pBounds_01, pBounds_11, pSlStr_v, pSlSl_v, pSlArr_v, pLenS_v, pLen_v, pCap_v, pBuild_n, pBuild_c, cells_int, cells_str, cells_bool, cells_ptr, cells_slice, cells_map, cells_agg, oneCell_int, oneCell_str, oneCell_bool, oneCell_ptr, oneCell_slice, oneCell_map, putL_cons, putL_nil, pAnd_pure, pOr_pure, pAnd_pureE, pOr_pureE, pAnd_false, pOr_true, pCond_true, pCond_false, add_mk, bys_mk, bys_size, cond_true, cond_false, decide_true, decide_false, decide_not', dec_and, dec_or, dec_eqt, Bool.not_true, Bool.not_false, Option.isNone_none, Option.isNone_some, Option.map_some, Option.map_none, List.getElem?_toArray, List.getElem?_cons_zero, List.getElem?_cons_succ, List.size_toArray, List.length_cons, List.length_nil, List.length_replicate, List.set_cons_zero, List.set_cons_succ, Nat.reduceAdd, Nat.reduceMul, Nat.reduceSub, Nat.reduceLeDiff, Nat.zero_add, Nat.add_zero, Nat.zero_le, true_and, and_true, not_false_eq_true, ne_eq, Int.reduceNeg, Int.reduceEq, Int.reduceNe, Int.reduceLT, Int.reduceLE, le_refl', List.setIfInBounds_toArray, Nat.reduceLT, Array.size_setIfInBounds, if_true, if_false, reduceCtorEq, List.toArray_toList', List.drop_succ_cons, List.drop_zero, List.take_succ_cons, List.take_zero, List.nil_append, List.append_nil, List.cons_append, Bool.and_true, Bool.true_and, Bool.or_false, Bool.false_or, Bool.and_false, Bool.or_true, Bool.true_or, Bool.false_and, eq_self]
    rw [decide_eq_false (by omega)]
  rw [decide_eq_false (by omega)]
  refine fun _ => ?_
  simp only [Bool.or_false, pCond_false]
  refine rfill_spec hk hs ha hn (by omega) (by omega) fun H1 rest' acc' n' hs1 he1 ha1 hn1 hk1 c1 => ?_
  simp only [pPick_v, pNil_v, pNil_f, pAdd_v, pSub_v, pMul_v, pAdd_s, pQuo_v, pRem_v, pBits_v, pShl_v, pShr_v, pLt_v, pLe_v, pGt_v, pGe_v, pEq_0, pNe_0, pEq_1, pNe_1, pEq_2, pNe_2, pEq_3n, pNe_3n, pEq_3s, pNe_3s, pEq_3t, pNe_3t, pEq_5n, pNe_5n, pEq_5s, pNe_5s, pEq_5t, pNe_5t, pEq_4n, pNe_4n, pEq_4s, pNe_4s, pNot_v, pNeg_v, pCom_v, pConv_v, pConvS_v, pMin_v, pMax_v, pFieldAddr_v, pField1_v, pFieldN_v, pExtract_v, pIdxArr_v, pIdxSl_v, pIdxStr_v, pBounds_00, pBounds_10, pBounds_01, pBounds_11, pSlStr_v, pSlSl_v, pSlArr_v, pLenS_v, pLen_v, pCap_v, pBuild_n, pBuild_c, cells_int, cells_str, cells_bool, cells_ptr, cells_slice, cells_map, cells_agg, oneCell_int, oneCell_str, oneCell_bool, oneCell_ptr, oneCell_slice, oneCell_map, putL_cons, putL_nil, pAnd_pure, pOr_pure, pAnd_pureE, pOr_pureE, pAnd_false, pOr_true, pCond_true, pCond_false, add_mk, bys_mk, bys_size, cond_true, cond_false, decide_true, decide_false, decide_not', dec_and, dec_or, dec_eqt, Bool.not_true, Bool.not_false, Option.isNone_none, Option.isNone_some, Option.map_some, Option.map_none, List.getElem?_toArray, List.getElem?_cons_zero, List.getElem?_cons_succ, List.size_toArray, List.length_cons, List.length_nil, List.length_replicate, List.set_cons_zero, List.set_cons_succ, Nat.reduceAdd, Nat.reduceMul, Nat.reduceSub, Nat.reduceLeDiff, Nat.zero_add, Nat.add_zero, Nat.zero_le, true_and, and_true, not_false_eq_true, ne_eq, Int.reduceNeg, Int.reduceEq, Int.reduceNe, Int.reduceLT, Int.reduceLE, le_refl', List.setIfInBounds_toArray, Nat.reduceLT, Array.size_setIfInBounds, if_true, if_false, reduceCtorEq, List.toArray_toList', List.drop_succ_cons, List.drop_zero, List.take_succ_cons, List.take_zero, List.nil_append, List.append_nil, List.cons_append, Bool.and_true, Bool.true_and, Bool.or_false, Bool.false_or, Bool.and_false, Bool.or_true, Bool.true_or, Bool.false_and, eq_self, pLoad_cell (hs1.cell (k := 1) rfl)]
  refine ⟨by omega, ?_⟩
  have hpw : (2 : Nat) ^ n' ≤ 2 ^ 39 := Nat.pow_le_pow_right (by decide) (by omega)
  rw [mask_u64 (by omega) hk]
  have hv : acc' % 2 ^ k = numB (B.take k) := by
    rw [he, ← he1, List.take_append_of_le_length (by rw [bitsN_len]; exact hk1)]
    have : (bitsN acc' n').take k = bitsN acc' k := by
      conv => lhs; rw [show n' = k + (n' - k) by omega, bitsN_add]
      rw [List.take_append_of_le_length (by rw [bitsN_len]; exact Nat.le_refl _), List.take_of_length_le (by rw [bitsN_len]; exact Nat.le_refl _)]
    rw [this, numB_bitsN]
  rw [hv]
  exact h H1 rest' acc' n' hs1 (by rw [he, he1]) ha1 hn1 hk1 c1
theorem rPeek_spec {k : Nat} (hr : Rd H b o B) (hk : k ≤ 32) (hkB : k ≤ B.length) (h : ∀ H', Rd H' b o B → Chg b o 3 none_ none_ H H' → R (.tuple #[u64 (numB (B.take k)), .bool true]) H') : CallsH Tryz.prog 43 #[at_ b o, i64 k] H R :=
  rPeek_core hr hk hkB fun H' rest acc n hs he ha hn hk1 c => h H' ⟨⟨rest, acc, n, hs, he, ha, hn⟩, hr.big⟩ c
theorem rRead_no {n : Int} (hr : Rd H b o B) (hno : ¬ (0 ≤ n ∧ n ≤ 32 ∧ n ≤ (B.length : Int))) (h : R (.tuple #[.int .u64 0, .bool false]) H) : CallsH Tryz.prog 45 #[at_ b o, .int .i64 n] H R := by
  refine bits_Reader_Read.vc _ _ _ _ ?_
  unfold bits_Reader_Read.res
  refine rPeek_no hr hno ?_
  simp only [pPick_v, pNil_v, pNil_f, pAdd_v, pSub_v, pMul_v, pAdd_s, pQuo_v, pRem_v, pBits_v, pShl_v, pShr_v, pLt_v, pLe_v, pGt_v, pGe_v, pEq_0, pNe_0, pEq_1, pNe_1, pEq_2, pNe_2, pEq_3n, pNe_3n, pEq_3s, pNe_3s, pEq_3t, pNe_3t, pEq_5n, pNe_5n, pEq_5s, pNe_5s, pEq_5t, pNe_5t, pEq_4n, pNe_4n, pEq_4s, pNe_4s, pNot_v, pNeg_v, pCom_v, pConv_v, pConvS_v, pMin_v, pMax_v, pFieldAddr_v, pField1_v, pFieldN_v, pExtract_v, pIdxArr_v, pIdxSl_v, pIdxStr_v, pBounds_00, pBounds_10, pBounds_01, pBounds_11, pSlStr_v, pSlSl_v, pSlArr_v, pLenS_v, pLen_v, pCap_v, pBuild_n, pBuild_c, cells_int, cells_str, cells_bool, cells_ptr, cells_slice, cells_map, cells_agg, oneCell_int, oneCell_str, oneCell_bool, oneCell_ptr, oneCell_slice, oneCell_map, putL_cons, putL_nil, pAnd_pure, pOr_pure, pAnd_pureE, pOr_pureE, pAnd_false, pOr_true, pCond_true, pCond_false, add_mk, bys_mk, bys_size, cond_true, cond_false, decide_true, decide_false, decide_not', dec_and, dec_or, dec_eqt, Bool.not_true, Bool.not_false, Option.isNone_none, Option.isNone_some, Option.map_some, Option.map_none, List.getElem?_toArray, List.getElem?_cons_zero, List.getElem?_cons_succ, List.size_toArray, List.length_cons, List.length_nil, List.length_replicate, List.set_cons_zero, List.set_cons_succ, Nat.reduceAdd, Nat.reduceMul, Nat.reduceSub, Nat.reduceLeDiff, Nat.zero_add, Nat.add_zero, Nat.zero_le, true_and, and_true, not_false_eq_true, ne_eq, Int.reduceNeg, Int.reduceEq, Int.reduceNe, Int.reduceLT, Int.reduceLE, le_refl', List.setIfInBounds_toArray, Nat.reduceLT, Array.size_setIfInBounds, if_true, if_false, reduceCtorEq, List.toArray_toList', List.drop_succ_cons, List.drop_zero, List.take_succ_cons, List.take_zero, List.nil_append, List.append_nil, List.cons_append, Bool.and_true, Bool.true_and, Bool.or_false, Bool.false_or, Bool.and_false, Bool.or_true, Bool.true_or, Bool.false_and, eq_self]
  exact ⟨fun H' => H = H', fun _ H' e => e ▸ h, rfl⟩
theorem rRead_spec {k : Nat} (hr : Rd H b o B) (hk : k ≤ 32) (hkB : k ≤ B.length) (h : ∀ H', Rd H' b o (B.drop k) → Chg b o 3 none_ none_ H H' → R (.tuple #[u64 (numB (B.take k)), .bool true]) H') : CallsH Tryz.prog 45 #[at_ b o, i64 k] H R := by
  have hb := hr.big
  refine bits_Reader_Read.vc _ _ _ _ ?_
  unfold bits_Reader_Read.res
  refine rPeek_core hr hk hkB fun H1 rest acc n hs he ha hn hk1 c1 => ?_
  simp only [pPick_v, pNil_v, pNil_f, pAdd_v, pSub_v, pMul_v, pAdd_s, pQuo_v, pRem_v, pBits_v, pShl_v, pShr_v, pLt_v, pLe_v, pGt_v, pGe_v, pEq_0, pNe_0, pEq_1, pNe_1, pEq_2, pNe_2, pEq_3n, pNe_3n, pEq_3s, pNe_3s, pEq_3t, pNe_3t, pEq_5n, pNe_5n, pEq_5s, pNe_5s, pEq_5t, pNe_5t, pEq_4n, pNe_4n, pEq_4s, pNe_4s, pNot_v, pNeg_v, pCom_v, pConv_v, pConvS_v, pMin_v, pMax_v, pFieldAddr_v, pField1_v, pFieldN_v, pExtract_v, pIdxArr_v, pIdxSl_v, pIdxStr_v, pBounds_00, pBounds_10, pBounds_01, pBounds_11, pSlStr_v, pSlSl_v, pSlArr_v, pLenS_v, pLen_v, pCap_v, pBuild_n, pBuild_c, cells_int, cells_str, cells_bool, cells_ptr, cells_slice, cells_map, cells_agg, oneCell_int, oneCell_str, oneCell_bool, oneCell_ptr, oneCell_slice, oneCell_map, putL_cons, putL_nil, pAnd_pure, pOr_pure, pAnd_pureE, pOr_pureE, pAnd_false, pOr_true, pCond_true, pCond_false, add_mk, bys_mk, bys_size, cond_true, cond_false, decide_true, decide_false, decide_not', dec_and, dec_or, dec_eqt, Bool.not_true, Bool.not_false, Option.isNone_none, Option.isNone_some, Option.map_some, Option.map_none, List.getElem?_toArray, List.getElem?_cons_zero, List.getElem?_cons_succ, List.size_toArray, List.length_cons, List.length_nil, List.length_replicate, List.set_cons_zero, List.set_cons_succ, Nat.reduceAdd, Nat.reduceMul, Nat.reduceSub, Nat.reduceLeDiff, Nat.zero_add, Nat.add_zero, Nat.zero_le, true_and, and_true, not_false_eq_true, ne_eq, Int.reduceNeg, Int.reduceEq, Int.reduceNe, Int.reduceLT, Int.reduceLE, le_refl', List.setIfInBounds_toArray, Nat.reduceLT, Array.size_setIfInBounds, if_true, if_false, reduceCtorEq, List.toArray_toList', List.drop_succ_cons, List.drop_zero, List.take_succ_cons, List.take_zero, List.nil_append, List.append_nil, List.cons_append, Bool.and_true, Bool.true_and, Bool.or_false, Bool.false_or, Bool.and_false, Bool.or_true, Bool.true_or, Bool.false_and, eq_self]
  refine ⟨fun H' => Rd H' b o (B.drop k) ∧ Chg b o 3 none_ none_ H H', fun _ H' e => h H' e.1 e.2, ?_⟩
  refine rdrop_spec hs hk1 hn fun H2 hs2 c2 => ⟨⟨⟨rest, acc / 2 ^ k, n - k, hs2, by rw [he, drop_bits hk1], div_lt ha hk1, by omega⟩, by rw [List.length_drop]; omega⟩, c1.trans c2⟩
theorem rAlign_core (hr : Rd H b o B) (h : ∀ H' rest acc n, Sub H' b o [str rest, u64 acc, i64 n] → B.drop (B.length % 8) = bitsN acc n ++ toBits rest → acc < 2 ^ n → n < 40 → n % 8 = 0 → Chg b o 3 none_ none_ H H' → R (.tuple #[]) H') : CallsH Tryz.prog 99 #[at_ b o] H R := by
  obtain ⟨⟨rest, acc, n, hs, he, ha, hn⟩, hb⟩ := hr
  have hlen : B.length = n + 8 * rest.length := by rw [he, List.length_append, bitsN_len, toBits_len]
  refine bits_Reader_Align.vc _ _ _ ?_
  unfold bits_Reader_Align.res
  simp only [pPick_v, pNil_v, pNil_f, pAdd_v, pSub_v, pMul_v, pAdd_s, pQuo_v, pRem_v, pBits_v, pShl_v, pShr_v, pLt_v, pLe_v, pGt_v, pGe_v, pEq_0, pNe_0, pEq_1, pNe_1, pEq_2, pNe_2, pEq_3n, pNe_3n, pEq_3s, pNe_3s, pEq_3t, pNe_3t, pEq_5n, pNe_5n, pEq_5s, pNe_5s, pEq_5t, pNe_5t, pEq_4n, pNe_4n, pEq_4s, pNe_4s, pNot_v, pNeg_v, pCom_v, pConv_v, pConvS_v, pMin_v, pMax_v, pFieldAddr_v, pField1_v, pFieldN_v, pExtract_v, pIdxArr_v, pIdxSl_v, pIdxStr_v, pBounds_00, pBounds_10, pBounds_01, pBounds_11, pSlStr_v, pSlSl_v, pSlArr_v, pLenS_v, pLen_v, pCap_v, pBuild_n, pBuild_c, cells_int, cells_str, cells_bool, cells_ptr, cells_slice, cells_map, cells_agg, oneCell_int, oneCell_str, oneCell_bool, oneCell_ptr, oneCell_slice, oneCell_map, putL_cons, putL_nil, pAnd_pure, pOr_pure, pAnd_pureE, pOr_pureE, pAnd_false, pOr_true, pCond_true, pCond_false, add_mk, bys_mk, bys_size, cond_true, cond_false, decide_true, decide_false, decide_not', dec_and, dec_or, dec_eqt, Bool.not_true, Bool.not_false, Option.isNone_none, Option.isNone_some, Option.map_some, Option.map_none, List.getElem?_toArray, List.getElem?_cons_zero, List.getElem?_cons_succ, List.size_toArray, List.length_cons, List.length_nil, List.length_replicate, List.set_cons_zero, List.set_cons_succ, Nat.reduceAdd, Nat.reduceMul, Nat.reduceSub, Nat.reduceLeDiff, Nat.zero_add, Nat.add_zero, Nat.zero_le, true_and, and_true, not_false_eq_true, ne_eq, Int.reduceNeg, Int.reduceEq, Int.reduceNe, Int.reduceLT, Int.reduceLE, le_refl', List.setIfInBounds_toArray, Nat.reduceLT, Array.size_setIfInBounds, if_true, if_false, reduceCtorEq, List.toArray_toList', List.drop_succ_cons, List.drop_zero, List.take_succ_cons, List.take_zero, List.nil_append, List.append_nil, List.cons_append, Bool.and_true, Bool.true_and, Bool.or_false, Bool.false_or, Bool.and_false, Bool.or_true, Bool.true_or, Bool.false_and, eq_self, pLoad_cell (hs.cell (k := 2) rfl)]
  rw [Int.tmod_eq_emod_of_nonneg (by omega), show (n : Int) % 8 = ((n % 8 : Nat) : Int) by omega]
  refine rdrop_spec hs (by omega) hn fun H2 hs2 c2 => ?_
  refine h H2 rest _ _ hs2 ?_ (div_lt ha (by omega)) (by omega) (by omega) c2
  rw [drop_bits (by omega), ← he, show B.length % 8 = n % 8 by omega]
theorem rAlign_spec (hr : Rd H b o B) (h : ∀ H', Rd H' b o (B.drop (B.length % 8)) → Chg b o 3 none_ none_ H H' → R (.tuple #[]) H') : CallsH Tryz.prog 99 #[at_ b o] H R :=
  rAlign_core hr fun H' rest acc n hs he ha hn h8 c => h H' ⟨⟨rest, acc, n, hs, he, ha, hn⟩, by have := hr.big; rw [List.length_drop]; omega⟩ c
theorem rTake_spec {n : Int} (hn1 : n ≤ 9223372036854775807) (hr : Rd H b o B)
    (h : ∀ H' (k : Nat), k = min n.toNat ((B.length - B.length % 8) / 8) → Rd H' b o ((B.drop (B.length % 8)).drop (8 * k)) → Chg b o 3 none_ none_ H H' → R (str (toBytes ((B.drop (B.length % 8)).take (8 * k)))) H') : CallsH Tryz.prog 75 #[at_ b o, .int .i64 n] H R := by
  have hb := hr.big
  have hbH := hr.lt
  refine bits_Reader_Take.vc _ _ _ _ ?_
  unfold bits_Reader_Take.res
  simp only [pPick_v, pNil_v, pNil_f, pAdd_v, pSub_v, pMul_v, pAdd_s, pQuo_v, pRem_v, pBits_v, pShl_v, pShr_v, pLt_v, pLe_v, pGt_v, pGe_v, pEq_0, pNe_0, pEq_1, pNe_1, pEq_2, pNe_2, pEq_3n, pNe_3n, pEq_3s, pNe_3s, pEq_3t, pNe_3t, pEq_5n, pNe_5n, pEq_5s, pNe_5s, pEq_5t, pNe_5t, pEq_4n, pNe_4n, pEq_4s, pNe_4s, pNot_v, pNeg_v, pCom_v, pConv_v, pConvS_v, pMin_v, pMax_v, pFieldAddr_v, pField1_v, pFieldN_v, pExtract_v, pIdxArr_v, pIdxSl_v, pIdxStr_v, pBounds_00, pBounds_10, pBounds_01, pBounds_11, pSlStr_v, pSlSl_v, pSlArr_v, pLenS_v, pLen_v, pCap_v, pBuild_n, pBuild_c, cells_int, cells_str, cells_bool, cells_ptr, cells_slice, cells_map, cells_agg, oneCell_int, oneCell_str, oneCell_bool, oneCell_ptr, oneCell_slice, oneCell_map, putL_cons, putL_nil, pAnd_pure, pOr_pure, pAnd_pureE, pOr_pureE, pAnd_false, pOr_true, pCond_true, pCond_false, add_mk, bys_mk, bys_size, cond_true, cond_false, decide_true, decide_false, decide_not', dec_and, dec_or, dec_eqt, Bool.not_true, Bool.not_false, Option.isNone_none, Option.isNone_some, Option.map_some, Option.map_none, List.getElem?_toArray, List.getElem?_cons_zero, List.getElem?_cons_succ, List.size_toArray, List.length_cons, List.length_nil, List.length_replicate, List.set_cons_zero, List.set_cons_succ, Nat.reduceAdd, Nat.reduceMul, Nat.reduceSub, Nat.reduceLeDiff, Nat.zero_add, Nat.add_zero, Nat.zero_le, true_and, and_true, not_false_eq_true, ne_eq, Int.reduceNeg, Int.reduceEq, Int.reduceNe, Int.reduceLT, Int.reduceLE, le_refl', List.setIfInBounds_toArray, Nat.reduceLT, Array.size_setIfInBounds, if_true, if_false, reduceCtorEq, List.toArray_toList', List.drop_succ_cons, List.drop_zero, List.take_succ_cons, List.take_zero, List.nil_append, List.append_nil, List.cons_append, Bool.and_true, Bool.true_and, Bool.or_false, Bool.false_or, Bool.and_false, Bool.or_true, Bool.true_or, Bool.false_and, eq_self]
  refine rAlign_core hr fun H1 rest acc m hs he ha hm h8 c1 => ?_
  generalize hC : B.drop (B.length % 8) = C at *
  have hClen : C.length = B.length - B.length % 8 := by rw [← hC, List.length_drop]
  rw [← hClen] at h
  have hClen2 : C.length = m + 8 * rest.length := by rw [he, List.length_append, bitsN_len, toBits_len]
  refine pCond_if (fun hc => ?_) (fun hc => ?_)
  · have h := h H1 0 (by omega) ⟨⟨rest, acc, m, hs, by simpa using he, ha, hm⟩, by simp; omega⟩ c1
    simpa [toBytes] using h
  refine ⟨fun n1 v H' => ∃ (j acc' m' : Nat) (D : List UInt8), n1 = .int .i64 (n - j) ∧ (j : Int) ≤ n ∧ Sub H' b o [str rest, u64 acc', i64 m'] ∧ acc' < 2 ^ m' ∧ m' < 40 ∧ m' % 8 = 0 ∧ D.length = j ∧ toBits D ++ (bitsN acc' m' ++ toBits rest) = C ∧ Own H' v 1 (D.map byteV) ∧ (∀ k, blkOf v = some k → H.size ≤ k) ∧ Chg b o 3 none_ none_ H H',
    fun n1 _ _ => match n1 with | .int _ x => x.toNat | _ => 0, ⟨0, acc, m, [], by simp, by omega, hs, ha, hm, h8, rfl, by rw [he]; rfl, .inl ⟨rfl, rfl⟩, by simp [blkOf], c1⟩, ?_⟩
  rintro _ _ v H2 ⟨j, acc', m', D, rfl, hj, hs2, ha2, hm2, h82, hDl, hDC, o2, k2, c2⟩
  have hDlen : 8 * j + m' = m := by
    have := congrArg List.length hDC
    rw [List.length_append, List.length_append, bitsN_len, toBits_len, toBits_len, hClen2, hDl] at this
    omega
  simp only [pPick_v, pNil_v, pNil_f, pAdd_v, pSub_v, pMul_v, pAdd_s, pQuo_v, pRem_v, pBits_v, pShl_v, pShr_v, pLt_v, pLe_v, pGt_v, pGe_v, pEq_0, pNe_0, pEq_1, pNe_1, pEq_2, pNe_2, pEq_3n, pNe_3n, pEq_3s, pNe_3s, pEq_3t, pNe_3t, pEq_5n, pNe_5n, pEq_5s, pNe_5s, pEq_5t, pNe_5t, pEq_4n, pNe_4n, pEq_4s, pNe_4s, pNot_v, pNeg_v, pCom_v, pConv_v, pConvS_v, pMin_v, pMax_v, pFieldAddr_v, pField1_v, pFieldN_v, pExtract_v, pIdxArr_v, pIdxSl_v, pIdxStr_v, pBounds_00, pBounds_10, pBounds_01, pBounds_11, pSlStr_v, pSlSl_v, pSlArr_v, pLenS_v, pLen_v, pCap_v, pBuild_n, pBuild_c, cells_int, cells_str, cells_bool, cells_ptr, cells_slice, cells_map, cells_agg, oneCell_int, oneCell_str, oneCell_bool, oneCell_ptr, oneCell_slice, oneCell_map, putL_cons, putL_nil, pAnd_pure, pOr_pure, pAnd_pureE, pOr_pureE, pAnd_false, pOr_true, pCond_true, pCond_false, add_mk, bys_mk, bys_size, cond_true, cond_false, decide_true, decide_false, decide_not', dec_and, dec_or, dec_eqt, Bool.not_true, Bool.not_false, Option.isNone_none, Option.isNone_some, Option.map_some, Option.map_none, List.getElem?_toArray, List.getElem?_cons_zero, List.getElem?_cons_succ, List.size_toArray, List.length_cons, List.length_nil, List.length_replicate, List.set_cons_zero, List.set_cons_succ, Nat.reduceAdd, Nat.reduceMul, Nat.reduceSub, Nat.reduceLeDiff, Nat.zero_add, Nat.add_zero, Nat.zero_le, true_and, and_true, not_false_eq_true, ne_eq, Int.reduceNeg, Int.reduceEq, Int.reduceNe, Int.reduceLT, Int.reduceLE, le_refl', List.setIfInBounds_toArray, Nat.reduceLT, Array.size_setIfInBounds, if_true, if_false, reduceCtorEq, List.toArray_toList', List.drop_succ_cons, List.drop_zero, List.take_succ_cons, List.take_zero, List.nil_append, List.append_nil, List.cons_append, Bool.and_true, Bool.true_and, Bool.or_false, Bool.false_or, Bool.and_false, Bool.or_true, Bool.true_or, Bool.false_and, eq_self, pLoad_cell (hs2.cell0 rfl), pLoad_cell (hs2.cell (k := 1) rfl), pLoad_cell (hs2.cell (k := 2) rfl)]
  refine fun _ => pCond_if (fun hc2 => ?_) (fun hc2 => ?_)
  · rw [byte_low]
    refine o2.append1 (n := j) (by decide) rfl rfl rfl (by simp [hDl]) (by omega) fun v2 H3 o3 i3 s3 k3 => ?_
    have hv2b : blkOf v ≠ some b := fun e => by have := k2 b e; omega
    have hs3 : Sub H3 b o [str rest, u64 acc', i64 m'] := hs2.same (i3 b hs2.lt hv2b)
    have c3 : Chg b o 3 none_ none_ H H3 := ⟨by have := c2.size; omega, fun i hi hib _ => by
        rw [i3 i (by have := c2.size; omega) (fun e => by have := k2 i e; omega)]; exact c2.ne i hi hib (fun h => h), fun cs t fr hc => by
        obtain ⟨c', g1, g2⟩ := c2.blk cs t fr hc
        exact ⟨c', by rw [i3 b hs2.lt hv2b]; exact g1, g2⟩, fun k hk => hk.elim⟩
    refine rdrop_spec (k := 8) hs3 (by omega) hm2 fun H4 hs4 c4 => ?_
    rw [w64 (n := n - (j : Int) - 1) (by omega) (by omega)]
    refine ⟨⟨j + 1, acc' / 2 ^ 8, m' - 8, D ++ [UInt8.ofNat (acc' % 256)], by congr 1; omega, by omega, hs4, div_lt ha2 (by omega), by omega, by omega, by simp [hDl], ?_, ?_, fun k hk => ?_, c3.trans c4⟩, by show (_ : Int).toNat < (_ : Int).toNat; omega⟩
    · rw [← hDC, toBits_append, List.append_assoc, byte_low_bits (n := m') (by omega), List.append_assoc]
    · rw [List.map_append]
      have hv2 : blkOf v2 ≠ some b := fun e => by
        rcases k3 b e with h' | h'
        · exact hv2b h'
        · have := hs2.lt; omega
      exact c4.own o3 hv2 (fun k hk h => h)
    · rcases k3 k hk with h' | h'
      · exact k2 k h'
      · have := c2.size; omega
  · have hst : (o2.sl (by decide)).str (K := fun z => True) trivial = (o2.sl (by decide)).str (K := fun z => True) trivial := rfl
    refine Sl.str (o2.sl (by decide)) ?_
    simp only [pPick_v, pNil_v, pNil_f, pAdd_v, pSub_v, pMul_v, pAdd_s, pQuo_v, pRem_v, pBits_v, pShl_v, pShr_v, pLt_v, pLe_v, pGt_v, pGe_v, pEq_0, pNe_0, pEq_1, pNe_1, pEq_2, pNe_2, pEq_3n, pNe_3n, pEq_3s, pNe_3s, pEq_3t, pNe_3t, pEq_5n, pNe_5n, pEq_5s, pNe_5s, pEq_5t, pNe_5t, pEq_4n, pNe_4n, pEq_4s, pNe_4s, pNot_v, pNeg_v, pCom_v, pConv_v, pConvS_v, pMin_v, pMax_v, pFieldAddr_v, pField1_v, pFieldN_v, pExtract_v, pIdxArr_v, pIdxSl_v, pIdxStr_v, pBounds_00, pBounds_10, pBounds_01, pBounds_11, pSlStr_v, pSlSl_v, pSlArr_v, pLenS_v, pLen_v, pCap_v, pBuild_n, pBuild_c, cells_int, cells_str, cells_bool, cells_ptr, cells_slice, cells_map, cells_agg, oneCell_int, oneCell_str, oneCell_bool, oneCell_ptr, oneCell_slice, oneCell_map, putL_cons, putL_nil, pAnd_pure, pOr_pure, pAnd_pureE, pOr_pureE, pAnd_false, pOr_true, pCond_true, pCond_false, add_mk, bys_mk, bys_size, cond_true, cond_false, decide_true, decide_false, decide_not', dec_and, dec_or, dec_eqt, Bool.not_true, Bool.not_false, Option.isNone_none, Option.isNone_some, Option.map_some, Option.map_none, List.getElem?_toArray, List.getElem?_cons_zero, List.getElem?_cons_succ, List.size_toArray, List.length_cons, List.length_nil, List.length_replicate, List.set_cons_zero, List.set_cons_succ, Nat.reduceAdd, Nat.reduceMul, Nat.reduceSub, Nat.reduceLeDiff, Nat.zero_add, Nat.add_zero, Nat.zero_le, true_and, and_true, not_false_eq_true, ne_eq, Int.reduceNeg, Int.reduceEq, Int.reduceNe, Int.reduceLT, Int.reduceLE, le_refl', List.setIfInBounds_toArray, Nat.reduceLT, Array.size_setIfInBounds, if_true, if_false, reduceCtorEq, List.toArray_toList', List.drop_succ_cons, List.drop_zero, List.take_succ_cons, List.take_zero, List.nil_append, List.append_nil, List.cons_append, Bool.and_true, Bool.true_and, Bool.or_false, Bool.false_or, Bool.and_false, Bool.or_true, Bool.true_or, Bool.false_and, eq_self, pLoad_cell (hs2.cell0 rfl)]
    have hr0 : rest.length ≤ 9223372036854775807 := by omega
    have hmin : 0 ≤ min (n - (j : Int)) (rest.length : Int) := by omega
    refine ⟨by omega, by omega, by rw [List.length_take]; omega, by omega, by omega, ?_⟩
    refine pStore_sub0 (F := none_) (n := 3) hs2 rfl (by simp) rfl fun H3 s3 hs3 c3 => ?_
    generalize hq : (min (n - (j : Int)) (rest.length : Int)).toNat = q at *
    have hcase : j + q = min n.toNat (C.length / 8) := by
      by_cases hm0 : m' = 0
      · subst hm0; omega
      · have : (j : Int) = n := by
          rcases Int.lt_or_eq_of_le hj with h' | h'
          · exact absurd ⟨by omega, by omega⟩ hc2
          · exact h'
        omega
    have hm00 : q ≠ 0 → m' = 0 := fun h0 => by
      rcases Nat.eq_zero_or_pos m' with h' | h'
      · exact h'
      · exact absurd ⟨by omega, by omega⟩ hc2
    have hql : q ≤ rest.length := by omega
    have hsplit : C = toBits (D ++ rest.take q) ++ (bitsN acc' m' ++ toBits (rest.drop q)) := by
      rw [← hDC, toBits_append, List.append_assoc]
      congr 1
      by_cases h0 : q = 0
      · subst h0; simp [toBits]
      · have hm0 := hm00 h0
        subst hm0
        rw [bitsN_zero, List.nil_append, List.nil_append, ← toBits_append, List.take_append_drop]
    have h := h H3 (j + q) hcase ⟨⟨rest.drop q, acc', m', ?_, ?_, ha2, hm2⟩, by rw [List.length_drop]; omega⟩ (c2.trans c3)
    · have hrest : rest = rest := rfl
      have e1 : toBytes (C.take (8 * (j + q))) = D ++ rest.take q := by
        have hl : (toBits (D ++ rest.take q)).length = 8 * (j + q) := by rw [toBits_len, List.length_append, List.length_take, hDl]; omega
        rw [hsplit, ← hl, List.take_append_of_le_length (Nat.le_refl _), List.take_length, toBytes_toBits']
      rw [e1] at h
      simpa using h
    · have e2 : List.take (rest.length - q) (List.drop q rest) = rest.drop q := by rw [List.take_of_length_le (by rw [List.length_drop]; omega)]
      rw [e2] at hs3
      exact hs3
    · have hl : (toBits (D ++ rest.take q)).length = 8 * (j + q) := by rw [toBits_len, List.length_append, List.length_take, hDl]; omega
      conv => lhs; rw [hsplit]
      rw [← hl, List.drop_append_of_le_length (Nat.le_refl _), List.drop_of_length_le (Nat.le_refl _), List.nil_append]
end Go.Proofs.YtameljhbkedhjaaGreatDoor
namespace Go.Proofs.YtameljhbkedhjaaGreatDoor
open Go Go.Vc Go.Proofs
set_option linter.unusedVariables false
set_option linter.unusedSimpArgs false
variable {H H0 : Heap} {R : Value → Heap → Prop} {v : Value} {zs : List Int} {ls : List Nat} {B : List Bool} {L : List It} {b : Nat} {post : List Value} {t : TypeId}
def rdP (b : Nat) (post : List Value) (t : TypeId) (B : List Bool) : Thing where
  foot k := k = b
  holds H := ∃ (rest : List UInt8) (acc n : Nat), H[b]? = some (.cells (str rest :: u64 acc :: i64 n :: post).toArray t (0, 0)) ∧ B = bitsN acc n ++ toBits rest ∧ acc < 2 ^ n ∧ n < 40 ∧ B.length ≤ 1152921504606846976
  frame := fun h hf => by
    obtain ⟨rest, acc, n, h1, h2⟩ := h
    exact ⟨rest, acc, n, (hf b rfl).trans h1, h2⟩
  lt := fun h hf => by subst hf; obtain ⟨rest, acc, n, h1, h2⟩ := h; exact lt_of_blk h1
abbrev rdI (b : Nat) (post : List Value) (t : TypeId) (B : List Bool) : It := .thing (rdP b post t B)
theorem rdP_rd (o : Owns H0 H L) (hin : rdI b post t B ∈ L) : Rd H b 0 B := by
  obtain ⟨rest, acc, n, h1, h2, h3, h4, h5⟩ := o.thing hin
  refine ⟨⟨rest, acc, n, ?_, h2, h3, h4⟩, h5⟩
  exact (Sub.all h1).part (x := []) (y := [str rest, u64 acc, i64 n]) (z := post)
theorem _root_.Go.Vc.Owns.rd {H' : Heap} {B' : List Bool} {L' : List It} (o : Owns H0 H L) (w : Rd H' b 0 B') (c : Chg b 0 3 none_ none_ H H') (hr : Rep (rdI b post t B) (rdI b post t B') L L') : Owns H0 H' L' := by
  obtain ⟨rest, acc, n, h1, -⟩ := o.thing hr.mem
  refine o.turn hr c.size (fun k hk hf => c.ne k hk hf (fun h => h)) ?_ (fun k hk => .inl hk)
  obtain ⟨⟨rest', acc', n', hs, h2, h3, h4⟩, h5⟩ := w
  refine ⟨rest', acc', n', ?_, h2, h3, h4, h5⟩
  obtain ⟨cs, g1, g2, g3⟩ := c.blk _ _ _ h1
  obtain ⟨p, q, t', k1, k2⟩ := hs
  have hp : p = [] := by simpa using k1
  subst hp
  rw [g1] at k2
  simp only [Option.some.injEq, Obj.cells.injEq, List.nil_append] at k2
  obtain ⟨k2, k3, -⟩ := k2
  have k2 := arr_inj k2
  subst k3
  rw [g1, k2]
  have hq : q = post := by
    apply List.ext_getElem?
    intro j
    have := g3 (3 + j) (.inr (by omega))
    rw [k2, List.getElem?_append_right (by simp)] at this
    simp only [List.length_cons, List.length_nil, Nat.zero_add, Nat.reduceAdd, Nat.add_sub_cancel_left] at this
    rw [this, show 3 + j = j + 1 + 1 + 1 by omega]
    simp only [List.getElem?_cons_succ]
  rw [hq]; rfl
theorem _root_.Go.Vc.Owns.pl {K : Value → Prop} {g : Nat} {w : Value} (o : Owns H0 H L) (hin : rdI b post t B ∈ L) (h3 : 3 ≤ g) (hw : post[g - 3]? = some w) (hk : K w) : pLoad H (.pointer (some ⟨b, g, none⟩)) K := by
  obtain ⟨rest, acc, n, h1, -⟩ := o.thing hin
  refine pLoad_l h1 ?_ hk
  obtain ⟨j, rfl⟩ : ∃ j, g = j + 1 + 1 + 1 := ⟨g - 3, by omega⟩
  simp only [List.getElem?_cons_succ]
  simpa using hw
theorem _root_.Go.Vc.Owns.ps {K : Value → Heap → Prop} {g : Nat} {x : Value} {L' : List It} (o : Owns H0 H L) (hr : Rep (rdI b post t B) (rdI b (post.set (g - 3) x) t B) L L') (h3 : 3 ≤ g) (hg : g - 3 < post.length) (hx : oneCell x = true) (hk : ∀ H', Owns H0 H' L' → H'.size = H.size → K undef H') : pStore H (.pointer (some ⟨b, g, none⟩)) x K := by
  obtain ⟨rest, acc, n, h1, h2⟩ := o.thing hr.mem
  refine pStore_upd h1 (by simp; omega) hx fun H' hs u => hk H' (o.turn hr u.size (fun k hk hne => u.ne k hk (fun e => hne e)) ?_ (fun k hk => .inl hk)) hs
  refine ⟨rest, acc, n, ?_, h2⟩
  rw [u.at_, List.setIfInBounds_toArray]
  obtain ⟨j, rfl⟩ : ∃ j, g = j + 1 + 1 + 1 := ⟨g - 3, by omega⟩
  simp only [List.set_cons_succ, Nat.add_sub_cancel]
  simp
theorem _root_.Go.Vc.Owns.p3 {K : Value → Prop} (o : Owns H0 H L) (hin : rdI b post t B ∈ L) (hk : ∀ (rest : List UInt8) (acc n : Nat), B = bitsN acc n ++ toBits rest → acc < 2 ^ n → n < 40 → B.length ≤ 1152921504606846976 → K (.agg #[str rest, u64 acc, i64 n])) : pLoadN H 3 (.pointer (some ⟨b, 0, none⟩)) K := by
  obtain ⟨rest, acc, n, h1, h2, h3, h4, h5⟩ := o.thing hin
  have hs := (Sub.all h1).part (x := []) (y := [str rest, u64 acc, i64 n]) (z := post)
  have hc : Reads H ⟨b, 0, none⟩ [str rest, u64 acc, i64 n] := fun i v hv => by
    rw [add_mk]
    have := hs.cell (k := i) hv
    simpa using this
  exact hc.loadN (n := 3) rfl (hk rest acc n h2 h3 h4 h5)
theorem _root_.Go.Vc.Owns.p3s {K : Value → Heap → Prop} {rest : List UInt8} {acc n : Nat} {B' : List Bool} {L' : List It} (o : Owns H0 H L) (hr : Rep (rdI b post t B) (rdI b post t B') L L') (h2 : B' = bitsN acc n ++ toBits rest) (h3 : acc < 2 ^ n) (h4 : n < 40) (h5 : B'.length ≤ 1152921504606846976)
    (hk : ∀ H', Owns H0 H' L' → H'.size = H.size → K undef H') : pStoreN H 3 (.pointer (some ⟨b, 0, none⟩)) (.agg #[str rest, u64 acc, i64 n]) K := by
  obtain ⟨rest0, acc0, n0, h1, -⟩ := o.thing hr.mem
  have hs := setsAt_put (new := [str rest, u64 acc, i64 n]) (sp := []) (l := str rest0 :: u64 acc0 :: i64 n0 :: post) (b := b) (j := 0) (.inl rfl) (by rw [List.append_nil]; exact h1) rfl (by simp) rfl
  rw [List.append_nil] at hs
  have hp : putL (str rest0 :: u64 acc0 :: i64 n0 :: post) 0 [str rest, u64 acc, i64 n] = str rest :: u64 acc :: i64 n :: post := by
    simp [putL_cons, putL_nil]
  rw [hp] at hs
  have hb := lt_of_blk h1
  show pStoreN H 3 _ (.agg [str rest, u64 acc, i64 n].toArray) K
  simp only [pStoreN, cells_agg, hs]
  refine ⟨by simp, hk _ (o.turn hr (by simp) (fun k hk hne => get_set_ne (fun e => hne e.symm)) ⟨rest, acc, n, get_set_self hb, h2, h3, h4, h5⟩ (fun k hk => .inl hk)) (by simp)⟩
theorem need_spec {n : Nat} (hn : n ≤ 32) (o : Owns H0 H (rdI b post t B :: L))
    (hok : ∀ x C H', needM n B = .ok x C → x < 2 ^ n → Owns H0 H' (rdI b post t C :: L) → R (.tuple #[i64 x, .int .i64 0]) H')
    (her : needM n B = .er 2 → R (.tuple #[.int .i64 0, .int .i64 2]) H) : CallsH Tryz.prog 84 #[at_ b 0, i64 n] H R := by
  refine inflate_need.vc _ _ _ _ ?_
  unfold inflate_need.res
  have hr := rdP_rd o (List.mem_cons_self)
  by_cases hl : n ≤ B.length
  · refine rRead_spec (k := n) hr hn hl fun H1 w c => ?_
    have hlt := numB_lt (B.take n)
    rw [List.length_take, Nat.min_eq_left hl] at hlt
    have h32 : 2 ^ n ≤ 2 ^ 32 := Nat.pow_le_pow_right (by decide) hn
    have hx : numB (B.take n) < 4294967296 := by omega
    refine pExtract_to rfl ?_
    refine pExtract_to rfl ?_
    rw [pNot_v, Bool.not_true, pCond_false]
    refine pConv_to ?_
    rw [w64 (by omega) (by omega)]
    exact hok _ _ H1 (by unfold needM; rw [if_pos hl]) hlt (o.rd w c Rep.here)
  · refine rRead_no hr (by omega) ?_
    refine pExtract_to rfl ?_
    refine pExtract_to rfl ?_
    rw [pNot_v, Bool.not_false, pCond_true]
    exact her (by unfold needM; rw [if_neg hl])
theorem hitP_take (hle : ∀ k ∈ ls, k ≤ 15) {s : Nat} : hit ls (B.take 15) s ↔ hit ls B s := by
  have := getD_le hle s
  unfold hit
  rw [List.take_take, Nat.min_eq_left this]
open Classical in
theorem nextP_spec {cb : Nat} {lv wv sv : Value} (hz : okC zs) (o : Owns H0 H (rdI b post t B :: L)) (m1 : It.box cb (codeCells lv wv (countsL (natL zs)) sv) 90 ∈ L) (m2 : It.sl wv 2 (wordsV (natL zs)) ∈ L) (m3 : It.sl sv 1 (symsV (symsB (natL zs) 16)) ∈ L)
    (hok : ∀ s C H', nextM zs B = .ok s C → s < zs.length → Owns H0 H' (rdI b post t C :: L) → R (.tuple #[i64 s, .int .i64 0]) H')
    (her : ∀ e H', nextM zs B = .er e → e ≠ 0 → Owns H0 H' (rdI b post t B :: L) → R (.tuple #[.int .i64 0, .int .i64 e]) H') :
    CallsH Tryz.prog 18 #[.pointer (some ⟨cb, 0, none⟩), at_ b 0] H R := by
  have hle := ok_le hz.1
  have ht := @hitP_take (natL zs) B hle
  have hg15 := getD_le hle
  refine canon_Code_Next.vc _ _ _ _ ?_
  unfold canon_Code_Next.res
  rw [pEq_3s]
  refine pOr_false ?_
  rw [pEq_3s]
  intro _
  rw [pCond_false]
  refine rLeft_spec (rdP_rd o (by repeat (first | exact List.mem_cons_self | apply List.mem_cons_of_mem))) ?_
  rw [pMin_v]
  obtain ⟨n, hn⟩ : ∃ n, n = min B.length 15 := ⟨_, rfl⟩
  rw [show min ((B.length : Nat) : Int) 15 = (n : Int) by omega]
  refine rPeek_spec (k := n) (rdP_rd o (by repeat (first | exact List.mem_cons_self | apply List.mem_cons_of_mem))) (by omega) (by omega) fun H1 w1 c1 => ?_
  have o := o.rd w1 c1 Rep.here
  refine pExtract_to rfl ?_
  refine pExtract_to rfl ?_
  have hx := numB_lt (B.take n)
  have hbl : (B.take n).length = n := by rw [List.length_take]; omega
  have hb : bitsN (numB (B.take n)) n = B.take 15 := by
    have := bitsN_numB (B.take n)
    rw [hbl] at this
    rw [this, hn]
    rcases Nat.le_total B.length 15 with g | g
    · rw [Nat.min_eq_left g, List.take_of_length_le (Nat.le_refl _), List.take_of_length_le g]
    · rw [Nat.min_eq_right g]
  rw [hbl] at hx
  generalize numB (B.take n) = x at *
  refine find_spec (x := x) (n := n) hz.1 hz.2 o (List.mem_cons_of_mem _ m1) (List.mem_cons_of_mem _ m3) hx (by omega) (fun s hh => ?_) (fun hno => ?_)
  · rw [hb] at hh
    have hh := ht.1 hh
    have hs1 := hh.2.1
    have hlen := hit_len hh
    have h15 := hg15 s
    refine pExtract_to rfl ?_
    refine pExtract_to rfl ?_
    rw [pGt_v, decide_eq_true (by omega), pCond_true]
    refine rRead_spec (k := (natL zs).getD s 0) (rdP_rd o (by repeat (first | exact List.mem_cons_self | apply List.mem_cons_of_mem))) (by omega) hlen fun H2 w2 c2 => ?_
    exact hok s _ H2 (nextM_hit hz hh) (by have := hh.1; rwa [natL_len] at this) (o.rd w2 c2 Rep.here)
  · rw [hb] at hno
    refine pExtract_to rfl ?_
    refine pExtract_to rfl ?_
    rw [pGt_v, decide_eq_false (by decide), pCond_false]
    refine open_spec (x := x) (n := n) hz.1 o (List.mem_cons_of_mem _ m1) (List.mem_cons_of_mem _ m2) hx (by omega) fun H2 o => ?_
    rw [hb]
    have hnm : nextM zs B = .er (if more (natL zs) (B.take 15) then 2 else 4) := by
      unfold nextM
      rw [dif_neg (fun ⟨s, g⟩ => hno s (ht.2 g))]
    by_cases hm : more (natL zs) (B.take 15)
    · rw [if_pos hm] at hnm
      rw [decide_eq_true hm, pCond_true]
      exact her 2 H2 hnm (by decide) o
    · rw [if_neg hm] at hnm
      rw [decide_eq_false hm, pCond_false]
      exact her 4 H2 hnm (by decide) o
end Go.Proofs.YtameljhbkedhjaaGreatDoor
namespace Go.Proofs.YtameljhbkedhjaaGreatDoor
open Go Go.Vc Go.Proofs
set_option linter.unusedVariables false
set_option linter.unusedSimpArgs false
variable {H H0 : Heap} {R : Value → Heap → Prop} {v : Value} {zs : List Int} {ls : List Nat} {B : List Bool} {L : List It} {b : Nat} {post : List Value} {t : TypeId}
theorem numsV_getD {l : List Int} {i : Nat} (h : i < l.length) : (numsV l)[i]? = some (.int .i64 (l.getD i 0)) := by
  rw [numsV_get h, List.getD_eq_getElem?_getD, List.getElem?_eq_getElem h]; rfl
theorem numsV_snoc (l : List Int) (z : Int) : numsV l ++ (Value.int .i64 z).cells.toList = numsV (l ++ [z]) := by rw [numsV_append]; rfl
theorem _root_.Go.Vc.Owns.drop2 {i j : It} (o : Owns H0 H (i :: j :: L)) : Owns H0 H (i :: L) := o.pick (List.Sublist.cons_cons _ (List.sublist_cons_self _ _))
theorem _root_.Go.Vc.Owns.swap {i j : It} (o : Owns H0 H (i :: j :: L)) : Owns H0 H (j :: i :: L) := o.perm (List.Perm.swap ..)
theorem _root_.Go.Vc.Owns.lenV1 {l : List Value} (o : Owns H0 H L) (h : It.sl v 1 l ∈ L) : lenV v = some l.length := (o.sl h).lenV (Nat.mul_one _).symm (by decide)
theorem _root_.Go.Vc.Owns.len1 {l : List Value} {K : Value → Prop} (o : Owns H0 H L) (h : It.sl v 1 l ∈ L) (hk : K (.int .i64 (l.length : Int))) : pLen v K := (o.sl h).len (Nat.mul_one _).symm (by decide) hk
abbrev grows (n : Nat) (v : Value) : Nat := n - (lenV v).getD 0
theorem grows_lt {n a c : Nat} {v w : Value} (hv : lenV v = some a) (hw : lenV w = some c) (h : a < c) (hn : a < n) : grows n w < grows n v := by
  unfold grows; rw [hv, hw]; simp only [Option.getD_some]; omega
theorem _root_.Go.Vc.Owns.mid {M : List It} {i : It} (o : Owns H0 H (M ++ i :: L)) : Owns H0 H (i :: (M ++ L)) := o.perm List.perm_middle.symm
theorem _root_.Go.Vc.Owns.nil1 (o : Owns H0 H L) : Owns H0 H (.sl (.slice none 0 0) 1 [] :: L) :=
  o.add (Ext.refl H) ⟨by decide, .inl ⟨rfl, rfl⟩⟩ (by intro k hk; exact absurd hk (by simp [It.foot, blkOf]))
def HasC (L : List It) (zs : List Int) (p : Value) : Prop := okC zs ∧ ∃ cb lv wv sv, p = .pointer (some ⟨cb, 0, none⟩) ∧ ∀ i ∈ codeIts zs cb lv wv sv, i ∈ L
theorem HasC.mono {L L' : List It} {p : Value} (h : HasC L zs p) (hm : ∀ i ∈ L, i ∈ L') : HasC L' zs p := by
  obtain ⟨h1, cb, lv, wv, sv, h2, h3⟩ := h
  exact ⟨h1, cb, lv, wv, sv, h2, fun i hi => hm i (h3 i hi)⟩
theorem HasC.cons {i : It} {L : List It} {p : Value} (h : HasC L zs p) : HasC (i :: L) zs p := h.mono fun _ => List.mem_cons_of_mem _
theorem HasC.app {M L : List It} {p : Value} (h : HasC L zs p) : HasC (M ++ L) zs p := h.mono fun _ => List.mem_append_right _
theorem HasC.appl {M L : List It} {p : Value} (h : HasC M zs p) : HasC (M ++ L) zs p := h.mono fun _ => List.mem_append_left _
theorem nextC_spec {p : Value} (hc : HasC L zs p) (o : Owns H0 H (rdI b post t B :: L))
    (hok : ∀ s C H', nextM zs B = .ok s C → s < zs.length → Owns H0 H' (rdI b post t C :: L) → R (.tuple #[i64 s, .int .i64 0]) H')
    (her : ∀ e H', nextM zs B = .er e → e ≠ 0 → Owns H0 H' (rdI b post t B :: L) → R (.tuple #[.int .i64 0, .int .i64 e]) H') :
    CallsH Tryz.prog 18 #[p, at_ b 0] H R := by
  obtain ⟨h1, cb, lv, wv, sv, rfl, h3⟩ := hc
  exact nextP_spec h1 o (h3 _ (by repeat (first | exact List.mem_cons_self | apply List.mem_cons_of_mem))) (h3 _ (by repeat (first | exact List.mem_cons_self | apply List.mem_cons_of_mem))) (h3 _ (by repeat (first | exact List.mem_cons_self | apply List.mem_cons_of_mem))) hok her
theorem newO_spec {loose : Bool} {v : Value} (o : Owns H0 H L) (hs : Sl H v 1 (numsV zs)) (hlen : zs.length ≤ 1000)
    (hno : ∀ H', whyL zs loose ≠ 0 → Owns H0 H' L → R (.tuple #[.pointer none, .int .i64 (whyL zs loose)]) H')
    (hyes : ∀ H' M p, whyL zs loose = 0 → HasC M zs p → Owns H0 H' (M ++ L) → R (.tuple #[p, .int .i64 0]) H') : CallsH Tryz.prog 13 #[v, .bool loose] H R :=
  newC_spec hs (by have : maxLen = 9223372036854775807 := rfl; omega) (fun H' hx h => hno H' h (o.more hx)) (fun H' b lv wv sv c hz h => hyes H' (codeIts zs b lv wv sv) _ h ⟨why_okC h, b, lv, wv, sv, rfl, fun i hi => hi⟩ (o.call c))
theorem ne_ok {K : Value → Prop} (h : K (.bool false)) : pNe 0 (.int .i64 0) (.int .i64 0) K := h
theorem ne_er {e : Int} {K : Value → Prop} (he : e ≠ 0) (h : K (.bool true)) : pNe 0 (.int .i64 e) (.int .i64 0) K := by
  rw [pNe_0, decide_eq_true he]; exact h
theorem fix_fill {e t : TypeId} {K : Value → Heap → Prop} {l2 : Value} {nv up : Nat} {zs : List Int} (o : Owns H0 H (.sl l2 1 (numsV zs) :: L)) (hz : zs.length ≤ up) (hup : up ≤ 288)
    (hk : ∀ l H', Owns H0 H' (.sl l 1 (numsV (zs ++ List.replicate (up - zs.length) (nv : Int))) :: L) → K l H') :
    pBox H t (.agg #[(.int .i64 0), (.int .i64 0)]) fun x5 H_4 =>
    pStoreN H_4 2 x5 (.agg #[i64 nv, i64 up]) fun _ H_5 =>
    ∃ (I_6 : Value → Heap → Prop) (m_7 : Value → Heap → Nat), I_6 l2 H_5 ∧
    ∀ _ : Env, ∀ l2' : Value, ∀ H_8 : Heap, I_6 l2' H_8 →
    pLen l2' fun x19 =>
    pFieldAddr 1 x5 fun x20 =>
    pLoad H_8 x20 fun x21 =>
    pLt x19 x21 fun x22 =>
    pCond x22
    (pFieldAddr 0 x5 fun x24 =>
    pLoad H_8 x24 fun x25 =>
    pBuildSl H_8 e 1 [(.int .i64 0)] [(0, 1, x25)] fun x26 H_9 =>
    pAppend H_9 e 1 8 [(.int .i64 0)] l2' x26 fun x27 H_10 =>
    I_6 x27 H_10 ∧ m_7 x27 H_10 < m_7 l2' H_8)
    (K l2' H_8) := by
  refine o.box fun c H1 o hc => ?_
  change Owns H0 H1 (.box c [.int .i64 0, .int .i64 0] t :: _) at o
  refine o.bstoreN (vs := [i64 nv, i64 up]) (by repeat (first | exact List.mem_cons_self | apply List.mem_cons_of_mem)) rfl rfl rfl (by repeat (first | exact Rep.here | apply Rep.there)) fun H2 o _ => ?_
  refine ⟨fun l2' H' => ∃ j, zs.length + j ≤ up ∧ Owns H0 H' (.box c [i64 nv, i64 up] t :: .sl l2' 1 (numsV (zs ++ List.replicate j (nv : Int))) :: L), fun v _ => grows 1000 v, ⟨0, by omega, by simpa using o⟩, ?_⟩
  rintro _ l2' H3 ⟨j, hj, o⟩
  have hlen : (numsV (zs ++ List.replicate j (nv : Int))).length = zs.length + j := by rw [numsV_len, List.length_append, List.length_replicate]
  have hlv := o.lenV1 (v := l2') (by repeat (first | exact List.mem_cons_self | apply List.mem_cons_of_mem))
  refine o.len1 (v := l2') (by repeat (first | exact List.mem_cons_self | apply List.mem_cons_of_mem)) ?_
  rw [pFieldAddr_v, add_mk]
  refine o.bload (b := c) (f := 0 + 1) (by repeat (first | exact List.mem_cons_self | apply List.mem_cons_of_mem)) rfl ?_
  rw [pLt_v]
  refine pCond_if (fun hc => ?_) (fun hc => ?_)
  · rw [pFieldAddr_v, add_mk]
    refine o.bload (b := c) (f := 0 + 0) (by repeat (first | exact List.mem_cons_self | apply List.mem_cons_of_mem)) rfl ?_
    refine o.build1 (by decide) rfl rfl fun y H4 o => ?_
    refine o.app (v := l2') (x := y) (by repeat (first | exact Sel.here | apply Sel.there)) (o.sl (by repeat (first | exact List.mem_cons_self | apply List.mem_cons_of_mem))) (by rfl) (by rw [hlen]; show 2 * (zs.length + j + 1) * 8 ≤ _; omega) fun y2 H5 o => ?_
    rw [numsV_snoc, List.append_assoc, ← List.replicate_succ'] at o
    have hlv2 := o.lenV1 (v := y2) (by repeat (first | exact List.mem_cons_self | apply List.mem_cons_of_mem))
    rw [numsV_len] at hlv2
    refine ⟨⟨j + 1, by omega, o.drop2.swap⟩, ?_⟩
    refine grows_lt hlv hlv2 ?_ ?_ <;> rw [hlen] <;> first | omega | (rw [List.length_append, List.length_replicate]; omega)
  · have : j = up - zs.length := by omega
    subst this
    exact hk l2' H3 (o.pick (List.sublist_cons_self _ _))
theorem fixL_why : whyL fixL false = 0 := by
  rw [why_ok fixL_ok.1, if_neg (by decide +kernel), if_neg (by decide +kernel)]
theorem fixD_why : whyL fixD false = 0 := by
  rw [why_ok fixD_ok.1, if_neg (by decide +kernel), if_neg (by decide +kernel)]
def fixUp : Nat → Nat
  | 0 => 0 | 1 => 144 | 2 => 256 | 3 => 280 | _ => 288
def fixN : Nat → Nat
  | 0 => 8 | 1 => 9 | 2 => 7 | _ => 8
theorem fix_take : ∀ i : Fin 4, fixL.take (fixUp i.val) ++ List.replicate (fixUp (i.val + 1) - fixUp i.val) (fixN i.val : Int) = fixL.take (fixUp (i.val + 1)) ∧ (fixL.take (fixUp i.val)).length = fixUp i.val ∧ fixUp i.val ≤ fixUp (i.val + 1) ∧ fixUp (i.val + 1) ≤ 288 := by decide +kernel
theorem fixed_spec (o : Owns H0 H L) (h : ∀ H' M p q, HasC M fixL p → HasC M fixD q → Owns H0 H' (M ++ L) → R (.tuple #[p, q]) H') : CallsH Tryz.prog 86 #[] H R := by
  refine inflate_fixedCodes.vc _ _ ?_
  unfold inflate_fixedCodes.res
  refine pBuild_two rfl rfl ?_
  refine pBuild_two rfl rfl ?_
  refine pBuild_two rfl rfl ?_
  refine pBuild_two rfl rfl ?_
  simp only [pBuild_c, pBuild_n, cells_agg, putL_cons, putL_nil, List.set_cons_zero, List.set_cons_succ, List.length_cons, List.length_nil, Nat.reduceAdd, Nat.reduceLeDiff, true_and]
  refine ⟨rfl, rfl, rfl, rfl, ?_⟩
  refine ⟨fun l u H' => ∃ i : Nat, u = i64 i ∧ i ≤ 4 ∧ Owns H0 H' (.sl l 1 (numsV (fixL.take (fixUp i))) :: L), fun _ u _ => match u with | .int _ i => (4 - i).toNat | _ => 0, ⟨0, rfl, by omega, o.nil1⟩, ?_⟩
  rintro _ l2 _ H3 ⟨i, rfl, hi, o⟩
  rw [pLt_v]
  refine pCond_if (fun hc => ?_) (fun hc => ?_)
  · have hi4 : i < 4 := by omega
    obtain ⟨e1, e2, e3, e4⟩ := fix_take ⟨i, hi4⟩
    dsimp only at e1 e2 e3 e4
    have hx : ∀ K : Value → Prop, K (.agg #[i64 (fixN i), i64 (fixUp (i + 1))]) → pIdxAggN 4 2 (.agg [Value.int .i64 8, .int .i64 144, .int .i64 9, .int .i64 256, .int .i64 7, .int .i64 280, .int .i64 8, .int .i64 288].toArray) (i64 i) K := by
      intro K hK
      refine ⟨by omega, by omega, ?_⟩
      rw [Int.toNat_natCast]
      match i, hi4 with
      | 0, _ => exact hK
      | 1, _ => exact hK
      | 2, _ => exact hK
      | 3, _ => exact hK
    refine hx _ ?_
    refine fix_fill o (by rw [e2]; exact e3) e4 fun l H4 o => ?_
    rw [e2, e1] at o
    rw [pAdd_v, w64 (by omega) (by omega)]
    exact ⟨⟨i + 1, rfl, by omega, o⟩, by show (_ : Int).toNat < (_ : Int).toNat; omega⟩
  have hi4 : i = 4 := by omega
  subst hi4
  rw [show fixL.take (fixUp 4) = fixL by decide +kernel] at o
  refine ⟨fun d u H' => ∃ i : Nat, u = i64 i ∧ i ≤ 32 ∧ Owns H0 H' (.sl d 1 (numsV (List.replicate i 5)) :: .sl l2 1 (numsV fixL) :: L), fun _ u _ => match u with | .int _ i => (32 - i).toNat | _ => 0, ⟨0, rfl, by omega, o.nil1⟩, ?_⟩
  rintro _ d3 _ H4 ⟨i, rfl, hi, o⟩
  rw [pLt_v]
  refine pCond_if (fun hc => ?_) (fun hc => ?_)
  · refine o.build1 (by decide) rfl rfl fun y H5 o => ?_
    refine o.app (v := d3) (x := y) (by repeat (first | exact Sel.here | apply Sel.there)) (o.sl (by repeat (first | exact List.mem_cons_self | apply List.mem_cons_of_mem))) (by rfl) (by rw [numsV_len, List.length_replicate]; show 2 * (i + 1) * 8 ≤ _; omega) fun y2 H6 o => ?_
    rw [numsV_snoc, ← List.replicate_succ'] at o
    rw [pAdd_v, w64 (by omega) (by omega)]
    exact ⟨⟨i + 1, rfl, by omega, o.drop2⟩, by show (_ : Int).toNat < (_ : Int).toNat; omega⟩
  have hi32 : i = 32 := by omega
  subst hi32
  refine newO_spec (zs := fixL) o (o.sl (by repeat (first | exact List.mem_cons_self | apply List.mem_cons_of_mem))) (by decide +kernel) (fun H5 hw => absurd fixL_why hw) fun H5 M p _ hp o => ?_
  refine pExtract_to rfl ?_
  refine pExtract_to rfl ?_
  have o := o.pick (List.Sublist.append (List.Sublist.refl M) (List.Sublist.cons_cons _ (List.sublist_cons_self _ L)))
  refine newO_spec (zs := fixD) o (o.sl (v := d3) (List.mem_append_right _ (by repeat (first | exact List.mem_cons_self | apply List.mem_cons_of_mem)))) (by decide +kernel) (fun H5 hw => absurd fixD_why hw) fun H6 M2 q _ hq o => ?_
  refine pExtract_to rfl ?_
  refine pExtract_to rfl ?_
  have o := o.pick (List.Sublist.append (List.Sublist.refl M2) (List.Sublist.append (List.Sublist.refl M) (List.sublist_cons_self _ L)))
  rw [← List.append_assoc] at o
  exact h H6 (M2 ++ M) p q hp.app hq.appl o
theorem and_i64 {v k : Nat} {m : Int} (hk : k ≤ 62) (hm : m = 2 ^ k - 1) : bitsOf .and .i64 (v : Int) m = ((v % 2 ^ k : Nat) : Int) := by
  rw [and_low hk hm]
  push_cast
  rfl
theorem repeat_spec {s : Nat} {ah : List Int} {v : Value} (o : Owns H0 H (rdI b post t B :: L)) (hS : Sl H v 1 (numsV ah)) (hl : ah.length ≤ 1000)
    (hok : ∀ k z C H', repM s ah B = .ok (k, z) C → 1 ≤ k → k ≤ 138 → Owns H0 H' (rdI b post t C :: L) → R (.tuple #[i64 k, .int .i64 z, .int .i64 0]) H')
    (her : ∀ e x z H', repM s ah B = .er e → e ≠ 0 → Owns H0 H' (rdI b post t B :: L) → R (.tuple #[x, z, .int .i64 e]) H') : CallsH Tryz.prog 116 #[at_ b 0, i64 s, v] H R := by
  refine inflate_repeat.vc _ _ _ _ _ ?_
  unfold inflate_repeat.res
  refine ⟨fun le ex va H' => ∃ (l0 n0 : Nat) (z : Int), le = i64 l0 ∧ ex = i64 n0 ∧ va = .int .i64 z ∧ H' = H ∧ 1 ≤ l0 ∧ l0 ≤ 11 ∧ n0 ≤ 7 ∧ repM s ah B = (needM n0 B).bind fun n B => .ok (l0 + n, z) B, ?_, ?_⟩
  · rintro _ _ _ _ _ ⟨l0, n0, z, rfl, rfl, rfl, rfl, h1, h2, h3, hr⟩
    refine need_spec (n := n0) (by omega) o (fun x C H1 hx hlt o => ?_) (fun hx => ?_)
    · refine pExtract_to rfl ?_
      refine pExtract_to rfl ?_
      have h7 : 2 ^ n0 ≤ 2 ^ 7 := Nat.pow_le_pow_right (by decide) h3
      rw [pAdd_v, show (l0 : Int) + (x : Int) = ((l0 + x : Nat) : Int) by omega, w64 (by omega) (by omega)]
      rw [hx] at hr
      exact hok _ _ C H1 hr (by omega) (by omega) o
    · refine pExtract_to rfl ?_
      refine pExtract_to rfl ?_
      rw [pAdd_v]
      rw [hx] at hr
      exact her 2 _ _ _ hr (by decide) o
  · rw [pEq_0]
    refine pCond_if (fun hc => ?_) (fun hc => ?_)
    · have hs : s = 16 := by omega
      refine hS.len (Nat.mul_one _).symm (by decide) ?_
      rw [pEq_0, numsV_len]
      refine pCond_if (fun h0 => ?_) (fun h0 => ?_)
      · have : ah = [] := List.length_eq_zero_iff.1 (by omega)
        exact her 3 _ _ H (by unfold repM; rw [if_pos hs, if_pos this]) (by decide) o
      · refine hS.len (Nat.mul_one _).symm (by decide) ?_
        rw [numsV_len, pSub_v, show (ah.length : Int) - 1 = ((ah.length - 1 : Nat) : Int) by omega, w64 (by omega) (by omega)]
        refine hS.at_ (n := ah.length) (by rw [numsV_len]; omega) (by decide) (by omega) (by omega) fun p hp => ?_
        refine hp.load hS (w := .int .i64 (ah.getD (ah.length - 1) 0)) ?_ ?_
        · rw [Int.toNat_natCast, Nat.mul_one]; exact numsV_getD (by omega)
        · refine ⟨3, 2, _, rfl, rfl, rfl, rfl, by decide, by decide, by decide, ?_⟩
          unfold repM
          rw [if_pos hs, if_neg (fun g => h0 (by rw [g]; rfl))]
    rw [pEq_0]
    refine pCond_if (fun hc2 => ?_) (fun hc2 => ?_)
    · refine ⟨3, 3, 0, rfl, rfl, rfl, rfl, by decide, by decide, by decide, ?_⟩
      unfold repM
      rw [if_neg (by omega), if_pos (by omega)]
    rw [pEq_0]
    refine pCond_if (fun hc3 => ?_) (fun hc3 => ?_)
    · refine ⟨11, 7, 0, rfl, rfl, rfl, rfl, by decide, by decide, by decide, ?_⟩
      unfold repM
      rw [if_neg (by omega), if_neg (by omega), if_pos (by omega)]
    · exact hok 1 (s : Int) B H (by unfold repM; rw [if_neg (by omega), if_neg (by omega), if_neg (by omega)]) (by decide) (by decide) o
theorem lengths_spec7 {n : Nat} {p : Value} (hn : n ≤ 400) (hc : HasC L zs p) (o : Owns H0 H (rdI b post t B :: L))
    (hok : ∀ l C v H', lensM (n + 1) zs n [] B = .ok l C → l.length = n → Owns H0 H' (rdI b post t C :: .sl v 1 (numsV l) :: L) → R (.tuple #[v, .int .i64 0]) H')
    (her : ∀ e C H', lensM (n + 1) zs n [] B = .er e → e ≠ 0 → Owns H0 H' (rdI b post t C :: L) → R (.tuple #[.slice none 0 0, .int .i64 e]) H') : CallsH Tryz.prog 102 #[at_ b 0, p, i64 n] H R := by
  generalize hT : lensM (n + 1) zs n [] B = T at *
  refine inflate_lengths.vc _ _ _ _ _ ?_
  unfold inflate_lengths.res
  refine ⟨fun v H' => ∃ k out C, lensM k zs n out C = T ∧ n < k + out.length ∧ out.length ≤ n ∧ Owns H0 H' (rdI b post t C :: .sl v 1 (numsV out) :: L), fun v _ => grows 1000 v, ⟨n + 1, [], B, hT, by simp, by simp, o.nil1.swap⟩, ?_⟩
  rintro _ out8 H1 ⟨k, out, C, hk, hlt, hle, o⟩
  have hlv := o.lenV1 (v := out8) (by repeat (first | exact List.mem_cons_self | apply List.mem_cons_of_mem))
  rw [numsV_len] at hlv
  obtain ⟨k, rfl⟩ : ∃ j, k = j + 1 := ⟨k - 1, by omega⟩
  unfold lensM at hk
  refine o.len1 (v := out8) (by repeat (first | exact List.mem_cons_self | apply List.mem_cons_of_mem)) ?_
  rw [numsV_len, pLt_v]
  refine pCond_if (fun hc1 => ?_) (fun hc1 => ?_)
  · rw [if_neg (by omega)] at hk
    refine nextC_spec hc.cons o (fun s C1 H2 hs hsl o => ?_) (fun e H2 hs he o => ?_)
    · rw [hs] at hk
      refine pExtract_to rfl ?_
      refine pExtract_to rfl ?_
      refine ne_ok ?_
      rw [pCond_false]
      refine repeat_spec o (o.sl (v := out8) (by repeat (first | exact List.mem_cons_self | apply List.mem_cons_of_mem))) (by omega) (fun k1 z C2 H3 hr h1 h2 o => ?_) (fun e x z H3 hr he o => ?_)
      · simp only [Rs.bind, hr] at hk
        refine pExtract_to rfl ?_
        refine pExtract_to rfl ?_
        refine pExtract_to rfl ?_
        refine ne_ok ?_
        rw [pCond_false]
        refine o.len1 (v := out8) (by repeat (first | exact List.mem_cons_self | apply List.mem_cons_of_mem)) ?_
        rw [numsV_len, pSub_v, show (n : Int) - (out.length : Int) = ((n - out.length : Nat) : Int) by omega, w64 (by omega) (by omega), pGt_v]
        refine pCond_if (fun hc2 => ?_) (fun hc2 => ?_)
        · rw [if_pos (by omega)] at hk
          exact her 20 C2 H3 hk.symm (by decide) o.drop2
        · rw [if_neg (by omega)] at hk
          refine ⟨fun v u H' => ∃ i : Nat, u = i64 i ∧ i ≤ k1 ∧ Owns H0 H' (rdI b post t C2 :: .sl v 1 (numsV (out ++ List.replicate i z)) :: L), fun _ u _ => match u with | .int _ i => (k1 - i).toNat | _ => 0, ⟨0, rfl, by omega, by simpa using o⟩, ?_⟩
          rintro _ v _ H4 ⟨i, rfl, hi, o⟩
          rw [pLt_v]
          refine pCond_if (fun hc3 => ?_) (fun hc3 => ?_)
          · refine o.build1 (by decide) rfl rfl fun y H5 o => ?_
            refine o.app (v := v) (x := y) (by repeat (first | exact Sel.here | apply Sel.there)) (o.sl (by repeat (first | exact List.mem_cons_self | apply List.mem_cons_of_mem))) (by rfl) (by rw [numsV_len, List.length_append, List.length_replicate]; show 2 * (out.length + i + 1) * 8 ≤ _; omega) fun y2 H6 o => ?_
            rw [numsV_snoc, List.append_assoc, ← List.replicate_succ'] at o
            rw [pAdd_v, w64 (by omega) (by omega)]
            exact ⟨⟨i + 1, rfl, by omega, o.drop2.swap⟩, by show (_ : Int).toNat < (_ : Int).toNat; omega⟩
          · have : i = k1 := by omega
            subst this
            have hlv2 := o.lenV1 (v := v) (by repeat (first | exact List.mem_cons_self | apply List.mem_cons_of_mem))
            rw [numsV_len, List.length_append, List.length_replicate] at hlv2
            refine ⟨⟨k, _, C2, hk, by rw [List.length_append, List.length_replicate]; omega, by rw [List.length_append, List.length_replicate]; omega, o⟩, grows_lt hlv hlv2 (by omega) (by omega)⟩
      · simp only [Rs.bind, hr] at hk
        refine pExtract_to rfl ?_
        refine pExtract_to rfl ?_
        refine pExtract_to rfl ?_
        refine ne_er he ?_
        rw [pCond_true]
        exact her e C1 H3 hk.symm he o.drop2
    · rw [hs] at hk
      refine pExtract_to rfl ?_
      refine pExtract_to rfl ?_
      refine ne_er he ?_
      rw [pCond_true]
      exact her e C H2 hk.symm he o.drop2
  · rw [if_pos (by omega)] at hk
    exact hok out C out8 H1 hk.symm (by omega) o
end Go.Proofs.YtameljhbkedhjaaGreatDoor
namespace Go.Proofs.YtameljhbkedhjaaGreatDoor
open Go Go.Vc Go.Proofs
set_option linter.unusedVariables false
set_option linter.unusedSimpArgs false
variable {H : Heap} {R : Value → Heap → Prop}
structure Wr (H : Heap) (b o : Nat) (dv : Value) (B : List Bool) : Prop where
  sub : ∃ (D : List UInt8) (acc n : Nat), Sub H b o [dv, u64 acc, i64 n] ∧ Own H dv 1 (D.map byteV) ∧ B = toBits D ++ bitsN acc n ∧ acc < 2 ^ n ∧ n < 8
  ne : blkOf dv ≠ some b
  big : B.length ≤ 70368744177664
theorem own_one {H : Heap} {v : Value} {sz : Nat} {l : List Value} (h : Own H v sz l) : oneCell v = true := by
  rcases h with ⟨rfl, _⟩ | ⟨_, _, _, _, rfl, _⟩ <;> rfl
theorem Wr.ext {H' : Heap} {b o : Nat} {dv : Value} {B : List Bool} (h : Wr H b o dv B) (hx : Ext H H') : Wr H' b o dv B := by
  obtain ⟨⟨D, acc, n, h1, h2, h3⟩, h4, h5⟩ := h
  exact ⟨⟨D, acc, n, h1.ext hx, h2.ext hx, h3⟩, h4, h5⟩
theorem Wr.lt {b o : Nat} {dv : Value} {B : List Bool} (h : Wr H b o dv B) : b < H.size := by
  obtain ⟨⟨D, acc, n, h1, h2, h3⟩, h4⟩ := h
  exact h1.lt
theorem Wr.live {b o : Nat} {dv : Value} {B : List Bool} (h : Wr H b o dv B) : ∀ k, blkOf dv = some k → k < H.size := by
  obtain ⟨⟨D, acc, n, h1, h2, h3⟩, h4⟩ := h
  exact fun k hk => h2.lt hk
theorem Wr.new {b o : Nat} (h : Sub H b o [.slice none 0 0, .int .u64 0, .int .i64 0]) : Wr H b o (.slice none 0 0) [] := ⟨⟨[], 0, 0, h, .inl ⟨rfl, rfl⟩, rfl, by decide, by decide⟩, by simp [blkOf], by simp⟩
theorem Wr.keep {H' : Heap} {b o : Nat} {dv : Value} {B : List Bool} {b' o' n' : Nat} {F F' : Nat → Prop} (h : Wr H b o dv B) (c : Chg b' o' n' F F' H H') (h1 : b ≠ b') (h2 : ¬ F b) (h3 : blkOf dv ≠ some b') (h4 : ∀ k, blkOf dv = some k → ¬ F k) : Wr H' b o dv B := by
  obtain ⟨⟨D, acc, n, g1, g2, g3⟩, g4, g5⟩ := h
  exact ⟨⟨D, acc, n, g1.same (c.ne b g1.lt h1 h2), c.own g2 h3 h4, g3⟩, g4, g5⟩
variable {b o : Nat} {dv : Value} {B : List Bool}
theorem bits_zero (n : Nat) : bitsN 0 n = List.replicate n false := by
  apply List.ext_getElem?
  intro i
  by_cases h : i < n
  · rw [bitsN_get h, List.getElem?_replicate, if_pos h]; simp
  · rw [List.getElem?_eq_none (by rw [bitsN_len]; omega), List.getElem?_eq_none (by simp; omega)]
theorem chg_own {b o n : Nat} {v v' : Value} {H H' : Heap} (hb : b < H.size) (hv : blkOf v ≠ some b) (hi : ∀ i, i < H.size → blkOf v ≠ some i → H'[i]? = H[i]?) (hs : H.size ≤ H'.size) (hk : ∀ k, blkOf v' = some k → blkOf v = some k ∨ H.size ≤ k) : Chg b o n (blkS v) (blkS v') H H' :=
  ⟨hs, fun i h1 _ h3 => hi i h1 h3, fun cs t fr hc => ⟨cs, (hi b hb hv).trans hc, rfl, fun _ _ => rfl⟩, fun k h => hk k h⟩
theorem wspill_spec {D : List UInt8} {acc n : Nat} (hs : Sub H b o [dv, u64 acc, i64 n]) (ho : Own H dv 1 (D.map byteV)) (ha : acc < 2 ^ n) (hn : n < 64) (hne : blkOf dv ≠ some b) (hbig : 8 * D.length + n ≤ 70368744177664)
    (h : ∀ H' dv', Wr H' b o dv' (toBits D ++ bitsN acc n) → Chg b o 3 (blkS dv) (blkS dv') H H' → R (.tuple #[]) H') : CallsH Tryz.prog 51 #[at_ b o] H R := by
  have hbH := hs.lt
  refine bits_Writer_spill.vc _ _ _ ?_
  unfold bits_Writer_spill.res
  refine ⟨fun H' => ∃ (D' : List UInt8) (acc' n' : Nat) (dv' : Value), Sub H' b o [dv', u64 acc', i64 n'] ∧ Own H' dv' 1 (D'.map byteV) ∧ acc' < 2 ^ n' ∧ n' < 64 ∧ blkOf dv' ≠ some b ∧ toBits D' ++ bitsN acc' n' = toBits D ++ bitsN acc n ∧ Chg b o 3 (blkS dv) (blkS dv') H H',
    fun H' => match cellAt H' ⟨b, o + 2, none⟩ with | some (.int _ q) => q.toNat | _ => 0, ⟨D, acc, n, dv, hs, ho, ha, hn, hne, rfl, Chg.refl⟩, ?_⟩
  rintro _ H1 ⟨D', acc', n', dv', hs1, ho1, ha1, hn1, hne1, he1, c1⟩
  have hlen := congrArg List.length he1
  rw [List.length_append, List.length_append, bitsN_len, bitsN_len, toBits_len, toBits_len] at hlen
  simp only [pPick_v, pNil_v, pNil_f, pAdd_v, pSub_v, pMul_v, pAdd_s, pQuo_v, pRem_v, pBits_v, pShl_v, pShr_v, pLt_v, pLe_v, pGt_v, pGe_v, pEq_0, pNe_0, pEq_1, pNe_1, pEq_2, pNe_2, pEq_3n, pNe_3n, pEq_3s, pNe_3s, pEq_3t, pNe_3t, pEq_5n, pNe_5n, pEq_5s, pNe_5s, pEq_5t, pNe_5t, pEq_4n, pNe_4n, pEq_4s, pNe_4s, pNot_v, pNeg_v, pCom_v, pConv_v, pConvS_v, pMin_v, pMax_v, pFieldAddr_v, pField1_v, pFieldN_v, pExtract_v, pIdxArr_v, pIdxSl_v, pIdxStr_v, pBounds_00, pBounds_10, pBounds_01, pBounds_11, pSlStr_v, pSlSl_v, pSlArr_v, pLenS_v, pLen_v, pCap_v, pBuild_n, pBuild_c, cells_int, cells_str, cells_bool, cells_ptr, cells_slice, cells_map, cells_agg, oneCell_int, oneCell_str, oneCell_bool, oneCell_ptr, oneCell_slice, oneCell_map, putL_cons, putL_nil, pAnd_pure, pOr_pure, pAnd_pureE, pOr_pureE, pAnd_false, pOr_true, pCond_true, pCond_false, add_mk, bys_mk, bys_size, cond_true, cond_false, decide_true, decide_false, decide_not', dec_and, dec_or, dec_eqt, Bool.not_true, Bool.not_false, Option.isNone_none, Option.isNone_some, Option.map_some, Option.map_none, List.getElem?_toArray, List.getElem?_cons_zero, List.getElem?_cons_succ, List.size_toArray, List.length_cons, List.length_nil, List.length_replicate, List.set_cons_zero, List.set_cons_succ, Nat.reduceAdd, Nat.reduceMul, Nat.reduceSub, Nat.reduceLeDiff, Nat.zero_add, Nat.add_zero, Nat.zero_le, true_and, and_true, not_false_eq_true, ne_eq, Int.reduceNeg, Int.reduceEq, Int.reduceNe, Int.reduceLT, Int.reduceLE, le_refl', List.setIfInBounds_toArray, Nat.reduceLT, Array.size_setIfInBounds, if_true, if_false, reduceCtorEq, List.toArray_toList', List.drop_succ_cons, List.drop_zero, List.take_succ_cons, List.take_zero, List.nil_append, List.append_nil, List.cons_append, Bool.and_true, Bool.true_and, Bool.or_false, Bool.false_or, Bool.and_false, Bool.or_true, Bool.true_or, Bool.false_and, eq_self, pLoad_cell (hs1.cell0 rfl), pLoad_cell (hs1.cell (k := 1) rfl), pLoad_cell (hs1.cell (k := 2) rfl)]
  refine pCond_if (fun hc => ?_) (fun hc => ?_)
  · rw [byte_low]
    refine own_build1 rfl rfl fun y H2 sy e2 _ => ?_
    have hs2 := hs1.ext e2
    simp only [pPick_v, pNil_v, pNil_f, pAdd_v, pSub_v, pMul_v, pAdd_s, pQuo_v, pRem_v, pBits_v, pShl_v, pShr_v, pLt_v, pLe_v, pGt_v, pGe_v, pEq_0, pNe_0, pEq_1, pNe_1, pEq_2, pNe_2, pEq_3n, pNe_3n, pEq_3s, pNe_3s, pEq_3t, pNe_3t, pEq_5n, pNe_5n, pEq_5s, pNe_5s, pEq_5t, pNe_5t, pEq_4n, pNe_4n, pEq_4s, pNe_4s, pNot_v, pNeg_v, pCom_v, pConv_v, pConvS_v, pMin_v, pMax_v, pFieldAddr_v, pField1_v, pFieldN_v, pExtract_v, pIdxArr_v, pIdxSl_v, pIdxStr_v, pBounds_00, pBounds_10, pBounds_01, pBounds_11, pSlStr_v, pSlSl_v, pSlArr_v, pLenS_v, pLen_v, pCap_v, pBuild_n, pBuild_c, cells_int, cells_str, cells_bool, cells_ptr, cells_slice, cells_map, cells_agg, oneCell_int, oneCell_str, oneCell_bool, oneCell_ptr, oneCell_slice, oneCell_map, putL_cons, putL_nil, pAnd_pure, pOr_pure, pAnd_pureE, pOr_pureE, pAnd_false, pOr_true, pCond_true, pCond_false, add_mk, bys_mk, bys_size, cond_true, cond_false, decide_true, decide_false, decide_not', dec_and, dec_or, dec_eqt, Bool.not_true, Bool.not_false, Option.isNone_none, Option.isNone_some, Option.map_some, Option.map_none, List.getElem?_toArray, List.getElem?_cons_zero, List.getElem?_cons_succ, List.size_toArray, List.length_cons, List.length_nil, List.length_replicate, List.set_cons_zero, List.set_cons_succ, Nat.reduceAdd, Nat.reduceMul, Nat.reduceSub, Nat.reduceLeDiff, Nat.zero_add, Nat.add_zero, Nat.zero_le, true_and, and_true, not_false_eq_true, ne_eq, Int.reduceNeg, Int.reduceEq, Int.reduceNe, Int.reduceLT, Int.reduceLE, le_refl', List.setIfInBounds_toArray, Nat.reduceLT, Array.size_setIfInBounds, if_true, if_false, reduceCtorEq, List.toArray_toList', List.drop_succ_cons, List.drop_zero, List.take_succ_cons, List.take_zero, List.nil_append, List.append_nil, List.cons_append, Bool.and_true, Bool.true_and, Bool.or_false, Bool.false_or, Bool.and_false, Bool.or_true, Bool.true_or, Bool.false_and, eq_self, pLoad_cell (hs2.cell0 rfl)]
    have ho2 := ho1.ext e2
    refine ho2.append (n := D'.length) (m := 1) (by decide) rfl (sy.lenV (n := 1) rfl (by decide)) sy.cellsOf (by simp) rfl rfl (by omega) fun v3 H3 o3 i3 s3 k3 => ?_
    have hs3 : Sub H3 b o [dv', u64 acc', i64 n'] := hs2.same (i3 b hs2.lt hne1)
    have c3 : Chg b o 3 (blkS dv') (blkS v3) H1 H3 := by
      have := e2.size
      refine chg_own hs1.lt hne1 (fun i h1 h2 => by rw [i3 i (by omega) h2, e2.get i h1]) (by omega) (fun k hk => ?_)
      rcases k3 with h' | h'
      · exact .inl (h' ▸ hk)
      · right; rw [h', Option.some.injEq] at hk; omega
    have hv3 : blkOf v3 ≠ some b := fun e => by
      rcases c3.new b e with h' | h'
      · exact hne1 h'
      · have := hs1.lt; omega
    refine pStore_sub0 (F := none_) (n := 3) hs3 rfl (by simp) (own_one o3) fun H4 s4 hs4 c4 => ?_
    simp only [pPick_v, pNil_v, pNil_f, pAdd_v, pSub_v, pMul_v, pAdd_s, pQuo_v, pRem_v, pBits_v, pShl_v, pShr_v, pLt_v, pLe_v, pGt_v, pGe_v, pEq_0, pNe_0, pEq_1, pNe_1, pEq_2, pNe_2, pEq_3n, pNe_3n, pEq_3s, pNe_3s, pEq_3t, pNe_3t, pEq_5n, pNe_5n, pEq_5s, pNe_5s, pEq_5t, pNe_5t, pEq_4n, pNe_4n, pEq_4s, pNe_4s, pNot_v, pNeg_v, pCom_v, pConv_v, pConvS_v, pMin_v, pMax_v, pFieldAddr_v, pField1_v, pFieldN_v, pExtract_v, pIdxArr_v, pIdxSl_v, pIdxStr_v, pBounds_00, pBounds_10, pBounds_01, pBounds_11, pSlStr_v, pSlSl_v, pSlArr_v, pLenS_v, pLen_v, pCap_v, pBuild_n, pBuild_c, cells_int, cells_str, cells_bool, cells_ptr, cells_slice, cells_map, cells_agg, oneCell_int, oneCell_str, oneCell_bool, oneCell_ptr, oneCell_slice, oneCell_map, putL_cons, putL_nil, pAnd_pure, pOr_pure, pAnd_pureE, pOr_pureE, pAnd_false, pOr_true, pCond_true, pCond_false, add_mk, bys_mk, bys_size, cond_true, cond_false, decide_true, decide_false, decide_not', dec_and, dec_or, dec_eqt, Bool.not_true, Bool.not_false, Option.isNone_none, Option.isNone_some, Option.map_some, Option.map_none, List.getElem?_toArray, List.getElem?_cons_zero, List.getElem?_cons_succ, List.size_toArray, List.length_cons, List.length_nil, List.length_replicate, List.set_cons_zero, List.set_cons_succ, Nat.reduceAdd, Nat.reduceMul, Nat.reduceSub, Nat.reduceLeDiff, Nat.zero_add, Nat.add_zero, Nat.zero_le, true_and, and_true, not_false_eq_true, ne_eq, Int.reduceNeg, Int.reduceEq, Int.reduceNe, Int.reduceLT, Int.reduceLE, le_refl', List.setIfInBounds_toArray, Nat.reduceLT, Array.size_setIfInBounds, if_true, if_false, reduceCtorEq, List.toArray_toList', List.drop_succ_cons, List.drop_zero, List.take_succ_cons, List.take_zero, List.nil_append, List.append_nil, List.cons_append, Bool.and_true, Bool.true_and, Bool.or_false, Bool.false_or, Bool.and_false, Bool.or_true, Bool.true_or, Bool.false_and, eq_self, pLoad_cell (hs4.cell (k := 1) rfl)]
    rw [fdiv_nat (n := acc') (m := min (Int.toNat 8) IntKind.u64.bits) (j := 8) rfl]
    refine pStore_sub (F := none_) (k := 1) (n := 3) hs4 rfl (by simp) rfl fun H5 s5 hs5 c5 => ?_
    simp only [pPick_v, pNil_v, pNil_f, pAdd_v, pSub_v, pMul_v, pAdd_s, pQuo_v, pRem_v, pBits_v, pShl_v, pShr_v, pLt_v, pLe_v, pGt_v, pGe_v, pEq_0, pNe_0, pEq_1, pNe_1, pEq_2, pNe_2, pEq_3n, pNe_3n, pEq_3s, pNe_3s, pEq_3t, pNe_3t, pEq_5n, pNe_5n, pEq_5s, pNe_5s, pEq_5t, pNe_5t, pEq_4n, pNe_4n, pEq_4s, pNe_4s, pNot_v, pNeg_v, pCom_v, pConv_v, pConvS_v, pMin_v, pMax_v, pFieldAddr_v, pField1_v, pFieldN_v, pExtract_v, pIdxArr_v, pIdxSl_v, pIdxStr_v, pBounds_00, pBounds_10, pBounds_01, pBounds_11, pSlStr_v, pSlSl_v, pSlArr_v, pLenS_v, pLen_v, pCap_v, pBuild_n, pBuild_c, cells_int, cells_str, cells_bool, cells_ptr, cells_slice, cells_map, cells_agg, oneCell_int, oneCell_str, oneCell_bool, oneCell_ptr, oneCell_slice, oneCell_map, putL_cons, putL_nil, pAnd_pure, pOr_pure, pAnd_pureE, pOr_pureE, pAnd_false, pOr_true, pCond_true, pCond_false, add_mk, bys_mk, bys_size, cond_true, cond_false, decide_true, decide_false, decide_not', dec_and, dec_or, dec_eqt, Bool.not_true, Bool.not_false, Option.isNone_none, Option.isNone_some, Option.map_some, Option.map_none, List.getElem?_toArray, List.getElem?_cons_zero, List.getElem?_cons_succ, List.size_toArray, List.length_cons, List.length_nil, List.length_replicate, List.set_cons_zero, List.set_cons_succ, Nat.reduceAdd, Nat.reduceMul, Nat.reduceSub, Nat.reduceLeDiff, Nat.zero_add, Nat.add_zero, Nat.zero_le, true_and, and_true, not_false_eq_true, ne_eq, Int.reduceNeg, Int.reduceEq, Int.reduceNe, Int.reduceLT, Int.reduceLE, le_refl', List.setIfInBounds_toArray, Nat.reduceLT, Array.size_setIfInBounds, if_true, if_false, reduceCtorEq, List.toArray_toList', List.drop_succ_cons, List.drop_zero, List.take_succ_cons, List.take_zero, List.nil_append, List.append_nil, List.cons_append, Bool.and_true, Bool.true_and, Bool.or_false, Bool.false_or, Bool.and_false, Bool.or_true, Bool.true_or, Bool.false_and, eq_self, pLoad_cell (hs5.cell (k := 2) rfl)]
    rw [w64 (n := (n' : Int) - 8) (by omega) (by omega), show (n' : Int) - 8 = ((n' - 8 : Nat) : Int) by omega]
    refine pStore_sub (F := none_) (k := 2) (n := 3) hs5 rfl (by simp) rfl fun H6 s6 hs6 c6 => ?_
    have c36 := (c4.trans c5).trans c6
    have o6 : Own H6 v3 1 ((D' ++ [UInt8.ofNat (acc' % 256)]).map byteV) := by
      rw [List.map_append]
      exact c36.own o3 hv3 (fun _ _ h => h)
    refine ⟨⟨D' ++ [UInt8.ofNat (acc' % 256)], acc' / 2 ^ 8, n' - 8, v3, hs6, o6, div_lt ha1 (by omega), by omega, hv3, ?_, c1.trans (c3.trans c36.any)⟩, ?_⟩
    · rw [← he1, toBits_append, List.append_assoc, byte_low_bits (n := n') (by omega)]
    · rw [hs6.cell (k := 2) rfl, hs1.cell (k := 2) rfl]
      show ((n' - 8 : Nat) : Int).toNat < (n' : Int).toNat
      omega
  · exact h H1 dv' ⟨⟨D', acc', n', hs1, ho1, he1.symm, ha1, by omega⟩, hne1, by rw [List.length_append, bitsN_len, toBits_len]; omega⟩ c1
theorem wWrite_no {v n : Int} (hno : ¬ (1 ≤ n ∧ n ≤ 32)) (h : R (.tuple #[]) H) : CallsH Tryz.prog 22 #[at_ b o, .int .u64 v, .int .i64 n] H R := by
  refine bits_Writer_Write.vc _ _ _ _ _ ?_
  unfold bits_Writer_Write.res
  simp only [pPick_v, pNil_v, pNil_f, pAdd_v, pSub_v, pMul_v, pAdd_s, pQuo_v, pRem_v, pBits_v, pShl_v, pShr_v, pLt_v, pLe_v, pGt_v, pGe_v, pEq_0, pNe_0, pEq_1, pNe_1, pEq_2, pNe_2, pEq_3n, pNe_3n, pEq_3s, pNe_3s, pEq_3t, pNe_3t, pEq_5n, pNe_5n, pEq_5s, pNe_5s, pEq_5t, pNe_5t, pEq_4n, pNe_4n, pEq_4s, pNe_4s, pNot_v, pNeg_v, pCom_v, pConv_v, pConvS_v, pMin_v, pMax_v, pFieldAddr_v, pField1_v, pFieldN_v, pExtract_v, pIdxArr_v, pIdxSl_v, pIdxStr_v, pBounds_00, pBounds_10, pBounds_01, pBounds_11, pSlStr_v, pSlSl_v, pSlArr_v, pLenS_v, pLen_v, pCap_v, pBuild_n, pBuild_c, cells_int, cells_str, cells_bool, cells_ptr, cells_slice, cells_map, cells_agg, oneCell_int, oneCell_str, oneCell_bool, oneCell_ptr, oneCell_slice, oneCell_map, putL_cons, putL_nil, pAnd_pure, pOr_pure, pAnd_pureE, pOr_pureE, pAnd_false, pOr_true, pCond_true, pCond_false, add_mk, bys_mk, bys_size, cond_true, cond_false, decide_true, decide_false, decide_not', dec_and, dec_or, dec_eqt, Bool.not_true, Bool.not_false, Option.isNone_none, Option.isNone_some, Option.map_some, Option.map_none, List.getElem?_toArray, List.getElem?_cons_zero, List.getElem?_cons_succ, List.size_toArray, List.length_cons, List.length_nil, List.length_replicate, List.set_cons_zero, List.set_cons_succ, Nat.reduceAdd, Nat.reduceMul, Nat.reduceSub, Nat.reduceLeDiff, Nat.zero_add, Nat.add_zero, Nat.zero_le, true_and, and_true, not_false_eq_true, ne_eq, Int.reduceNeg, Int.reduceEq, Int.reduceNe, Int.reduceLT, Int.reduceLE, le_refl', List.setIfInBounds_toArray, Nat.reduceLT, Array.size_setIfInBounds, if_true, if_false, reduceCtorEq, List.toArray_toList', List.drop_succ_cons, List.drop_zero, List.take_succ_cons, List.take_zero, List.nil_append, List.append_nil, List.cons_append, Bool.and_true, Bool.true_and, Bool.or_false, Bool.false_or, Bool.and_false, Bool.or_true, Bool.true_or, Bool.false_and, eq_self]
  intros
  rw [decide_eq_true (by omega), pCond_true]
  exact h
theorem wWrite_spec {v k : Nat} (hv : v < 18446744073709551616) (hk0 : 1 ≤ k) (hk : k ≤ 32) (hw : Wr H b o dv B) (hbig : B.length + 32 ≤ 70368744177664)
    (h : ∀ H' dv', Wr H' b o dv' (B ++ bitsN v k) → Chg b o 3 (blkS dv) (blkS dv') H H' → R (.tuple #[]) H') : CallsH Tryz.prog 22 #[at_ b o, u64 v, i64 k] H R := by
  obtain ⟨⟨D, acc, n, hs, ho, rfl, ha, hn⟩, hne, hb⟩ := hw
  rw [List.length_append, bitsN_len, toBits_len] at hbig
  refine bits_Writer_Write.vc _ _ _ _ _ ?_
  unfold bits_Writer_Write.res
  simp only [pPick_v, pNil_v, pNil_f, pAdd_v, pSub_v, pMul_v, pAdd_s, pQuo_v, pRem_v, pBits_v, pShl_v, pShr_v, pLt_v, pLe_v, pGt_v, pGe_v, pEq_0, pNe_0, pEq_1, pNe_1, pEq_2, pNe_2, pEq_3n, pNe_3n, pEq_3s, pNe_3s, pEq_3t, pNe_3t, pEq_5n, pNe_5n, pEq_5s, pNe_5s, pEq_5t, pNe_5t, pEq_4n, pNe_4n, pEq_4s, pNe_4s, pNot_v, pNeg_v, pCom_v, pConv_v, pConvS_v, pMin_v, pMax_v, pFieldAddr_v, pField1_v, pFieldN_v, pExtract_v, pIdxArr_v, pIdxSl_v, pIdxStr_v, pBounds_00, pBounds_10, pBounds_01, pBounds_11, pSlStr_v, pSlSl_v, pSlArr_v, pLenS_v, pLen_v, pCap_v, pBuild_n, pBuild_c, cells_int, cells_str, cells_bool, cells_ptr, cells_slice, cells_map, cells_agg, oneCell_int, oneCell_str, oneCell_bool, oneCell_ptr, oneCell_slice, oneCell_map, putL_cons, putL_nil, pAnd_pure, pOr_pure, pAnd_pureE, pOr_pureE, pAnd_false, pOr_true, pCond_true, pCond_false, add_mk, bys_mk, bys_size, cond_true, cond_false, decide_true, decide_false, decide_not', dec_and, dec_or, dec_eqt, Bool.not_true, Bool.not_false, Option.isNone_none, Option.isNone_some, Option.map_some, Option.map_none, List.getElem?_toArray, List.getElem?_cons_zero, List.getElem?_cons_succ, List.size_toArray, List.length_cons, List.length_nil, List.length_replicate, List.set_cons_zero, List.set_cons_succ, Nat.reduceAdd, Nat.reduceMul, Nat.reduceSub, Nat.reduceLeDiff, Nat.zero_add, Nat.add_zero, Nat.zero_le, true_and, and_true, not_false_eq_true, ne_eq, Int.reduceNeg, Int.reduceEq, Int.reduceNe, Int.reduceLT, Int.reduceLE, le_refl', List.setIfInBounds_toArray, Nat.reduceLT, Array.size_setIfInBounds, if_true, if_false, reduceCtorEq, List.toArray_toList', List.drop_succ_cons, List.drop_zero, List.take_succ_cons, List.take_zero, List.nil_append, List.append_nil, List.cons_append, Bool.and_true, Bool.true_and, Bool.or_false, Bool.false_or, Bool.and_false, Bool.or_true, Bool.true_or, Bool.false_and, eq_self]
  intros
  rw [decide_eq_false (by omega), pCond_false]
  simp only [pPick_v, pNil_v, pNil_f, pAdd_v, pSub_v, pMul_v, pAdd_s, pQuo_v, pRem_v, pBits_v, pShl_v, pShr_v, pLt_v, pLe_v, pGt_v, pGe_v, pEq_0, pNe_0, pEq_1, pNe_1, pEq_2, pNe_2, pEq_3n, pNe_3n, pEq_3s, pNe_3s, pEq_3t, pNe_3t, pEq_5n, pNe_5n, pEq_5s, pNe_5s, pEq_5t, pNe_5t, pEq_4n, pNe_4n, pEq_4s, pNe_4s, pNot_v, pNeg_v, pCom_v, pConv_v, pConvS_v, pMin_v, pMax_v, pFieldAddr_v, pField1_v, pFieldN_v, pExtract_v, pIdxArr_v, pIdxSl_v, pIdxStr_v, pBounds_00, pBounds_10, pBounds_01, pBounds_11, pSlStr_v, pSlSl_v, pSlArr_v, pLenS_v, pLen_v, pCap_v, pBuild_n, pBuild_c, cells_int, cells_str, cells_bool, cells_ptr, cells_slice, cells_map, cells_agg, oneCell_int, oneCell_str, oneCell_bool, oneCell_ptr, oneCell_slice, oneCell_map, putL_cons, putL_nil, pAnd_pure, pOr_pure, pAnd_pureE, pOr_pureE, pAnd_false, pOr_true, pCond_true, pCond_false, add_mk, bys_mk, bys_size, cond_true, cond_false, decide_true, decide_false, decide_not', dec_and, dec_or, dec_eqt, Bool.not_true, Bool.not_false, Option.isNone_none, Option.isNone_some, Option.map_some, Option.map_none, List.getElem?_toArray, List.getElem?_cons_zero, List.getElem?_cons_succ, List.size_toArray, List.length_cons, List.length_nil, List.length_replicate, List.set_cons_zero, List.set_cons_succ, Nat.reduceAdd, Nat.reduceMul, Nat.reduceSub, Nat.reduceLeDiff, Nat.zero_add, Nat.add_zero, Nat.zero_le, true_and, and_true, not_false_eq_true, ne_eq, Int.reduceNeg, Int.reduceEq, Int.reduceNe, Int.reduceLT, Int.reduceLE, le_refl', List.setIfInBounds_toArray, Nat.reduceLT, Array.size_setIfInBounds, if_true, if_false, reduceCtorEq, List.toArray_toList', List.drop_succ_cons, List.drop_zero, List.take_succ_cons, List.take_zero, List.nil_append, List.append_nil, List.cons_append, Bool.and_true, Bool.true_and, Bool.or_false, Bool.false_or, Bool.and_false, Bool.or_true, Bool.true_or, Bool.false_and, eq_self, pLoad_cell (hs.cell (k := 1) rfl), pLoad_cell (hs.cell (k := 2) rfl)]
  refine ⟨by omega, ?_⟩
  rw [mask_u64 hv hk]
  refine ⟨by omega, ?_⟩
  have hpk : (2 : Nat) ^ k ≤ 2 ^ 32 := Nat.pow_le_pow_right (by decide) hk
  have hpn : (2 : Nat) ^ n ≤ 2 ^ 7 := Nat.pow_le_pow_right (by decide) (by omega)
  have hm := Nat.mod_lt v (Nat.two_pow_pos k)
  have hprod : v % 2 ^ k * 2 ^ n ≤ 2 ^ 32 * 2 ^ 7 := Nat.mul_le_mul (by omega) hpn
  rw [shl_u64 (by omega) (by omega), or_u64 (by omega) (by omega), or_disj ha]
  refine pStore_sub (F := none_) (k := 1) (n := 3) hs rfl (by simp) rfl fun H1 s1 hs1 c1 => ?_
  simp only [pPick_v, pNil_v, pNil_f, pAdd_v, pSub_v, pMul_v, pAdd_s, pQuo_v, pRem_v, pBits_v, pShl_v, pShr_v, pLt_v, pLe_v, pGt_v, pGe_v, pEq_0, pNe_0, pEq_1, pNe_1, pEq_2, pNe_2, pEq_3n, pNe_3n, pEq_3s, pNe_3s, pEq_3t, pNe_3t, pEq_5n, pNe_5n, pEq_5s, pNe_5s, pEq_5t, pNe_5t, pEq_4n, pNe_4n, pEq_4s, pNe_4s, pNot_v, pNeg_v, pCom_v, pConv_v, pConvS_v, pMin_v, pMax_v, pFieldAddr_v, pField1_v, pFieldN_v, pExtract_v, pIdxArr_v, pIdxSl_v, pIdxStr_v, pBounds_00, pBounds_10, pBounds_01, pBounds_11, pSlStr_v, pSlSl_v, pSlArr_v, pLenS_v, pLen_v, pCap_v, pBuild_n, pBuild_c, cells_int, cells_str, cells_bool, cells_ptr, cells_slice, cells_map, cells_agg, oneCell_int, oneCell_str, oneCell_bool, oneCell_ptr, oneCell_slice, oneCell_map, putL_cons, putL_nil, pAnd_pure, pOr_pure, pAnd_pureE, pOr_pureE, pAnd_false, pOr_true, pCond_true, pCond_false, add_mk, bys_mk, bys_size, cond_true, cond_false, decide_true, decide_false, decide_not', dec_and, dec_or, dec_eqt, Bool.not_true, Bool.not_false, Option.isNone_none, Option.isNone_some, Option.map_some, Option.map_none, List.getElem?_toArray, List.getElem?_cons_zero, List.getElem?_cons_succ, List.size_toArray, List.length_cons, List.length_nil, List.length_replicate, List.set_cons_zero, List.set_cons_succ, Nat.reduceAdd, Nat.reduceMul, Nat.reduceSub, Nat.reduceLeDiff, Nat.zero_add, Nat.add_zero, Nat.zero_le, true_and, and_true, not_false_eq_true, ne_eq, Int.reduceNeg, Int.reduceEq, Int.reduceNe, Int.reduceLT, Int.reduceLE, le_refl', List.setIfInBounds_toArray, Nat.reduceLT, Array.size_setIfInBounds, if_true, if_false, reduceCtorEq, List.toArray_toList', List.drop_succ_cons, List.drop_zero, List.take_succ_cons, List.take_zero, List.nil_append, List.append_nil, List.cons_append, Bool.and_true, Bool.true_and, Bool.or_false, Bool.false_or, Bool.and_false, Bool.or_true, Bool.true_or, Bool.false_and, eq_self, pLoad_cell (hs1.cell (k := 2) rfl)]
  rw [w64 (n := (n : Int) + (k : Int)) (by omega) (by omega), show (n : Int) + (k : Int) = ((n + k : Nat) : Int) by omega]
  refine pStore_sub (F := none_) (k := 2) (n := 3) hs1 rfl (by simp) rfl fun H2 s2 hs2 c2 => ?_
  have c12 := c1.trans c2
  have ho2 := c12.own ho hne (fun _ _ h => h)
  have hlt : acc + v % 2 ^ k * 2 ^ n < 2 ^ (n + k) := by
    rw [Nat.pow_add]
    have h1 : v % 2 ^ k * 2 ^ n ≤ (2 ^ k - 1) * 2 ^ n := Nat.mul_le_mul_right _ (by omega)
    rw [Nat.sub_mul, Nat.one_mul, Nat.mul_comm (2 ^ k)] at h1
    have h2 : 2 ^ n ≤ 2 ^ n * 2 ^ k := Nat.le_mul_of_pos_right _ (Nat.two_pow_pos k)
    omega
  refine wspill_spec hs2 ho2 hlt (by omega) hne (by omega) fun H3 dv' hw3 c3 => ?_
  refine h H3 dv' ?_ ((c12.any).trans c3)
  rw [bitsN_join ha, bitsN_mod, ← List.append_assoc] at hw3
  exact hw3
def padB (B : List Bool) : List Bool := B ++ List.replicate ((8 - B.length % 8) % 8) false
theorem padB_len (B : List Bool) : (padB B).length % 8 = 0 ∧ (padB B).length ≤ B.length + 7 ∧ B.length ≤ (padB B).length := by
  unfold padB; rw [List.length_append, List.length_replicate]; omega
theorem wAlign_spec (hw : Wr H b o dv B) (hbig : B.length + 32 ≤ 70368744177664) (h : ∀ H' dv', Wr H' b o dv' (padB B) → Chg b o 3 (blkS dv) (blkS dv') H H' → R (.tuple #[]) H') : CallsH Tryz.prog 7 #[at_ b o] H R := by
  have hw' := hw
  obtain ⟨⟨D, acc, n, hs, ho, he, ha, hn⟩, hne, hb⟩ := hw
  have hl : B.length = 8 * D.length + n := by rw [he, List.length_append, bitsN_len, toBits_len]
  refine bits_Writer_Align.vc _ _ _ ?_
  unfold bits_Writer_Align.res
  simp only [pPick_v, pNil_v, pNil_f, pAdd_v, pSub_v, pMul_v, pAdd_s, pQuo_v, pRem_v, pBits_v, pShl_v, pShr_v, pLt_v, pLe_v, pGt_v, pGe_v, pEq_0, pNe_0, pEq_1, pNe_1, pEq_2, pNe_2, pEq_3n, pNe_3n, pEq_3s, pNe_3s, pEq_3t, pNe_3t, pEq_5n, pNe_5n, pEq_5s, pNe_5s, pEq_5t, pNe_5t, pEq_4n, pNe_4n, pEq_4s, pNe_4s, pNot_v, pNeg_v, pCom_v, pConv_v, pConvS_v, pMin_v, pMax_v, pFieldAddr_v, pField1_v, pFieldN_v, pExtract_v, pIdxArr_v, pIdxSl_v, pIdxStr_v, pBounds_00, pBounds_10, pBounds_01, pBounds_11, pSlStr_v, pSlSl_v, pSlArr_v, pLenS_v, pLen_v, pCap_v, pBuild_n, pBuild_c, cells_int, cells_str, cells_bool, cells_ptr, cells_slice, cells_map, cells_agg, oneCell_int, oneCell_str, oneCell_bool, oneCell_ptr, oneCell_slice, oneCell_map, putL_cons, putL_nil, pAnd_pure, pOr_pure, pAnd_pureE, pOr_pureE, pAnd_false, pOr_true, pCond_true, pCond_false, add_mk, bys_mk, bys_size, cond_true, cond_false, decide_true, decide_false, decide_not', dec_and, dec_or, dec_eqt, Bool.not_true, Bool.not_false, Option.isNone_none, Option.isNone_some, Option.map_some, Option.map_none, List.getElem?_toArray, List.getElem?_cons_zero, List.getElem?_cons_succ, List.size_toArray, List.length_cons, List.length_nil, List.length_replicate, List.set_cons_zero, List.set_cons_succ, Nat.reduceAdd, Nat.reduceMul, Nat.reduceSub, Nat.reduceLeDiff, Nat.zero_add, Nat.add_zero, Nat.zero_le, true_and, and_true, not_false_eq_true, ne_eq, Int.reduceNeg, Int.reduceEq, Int.reduceNe, Int.reduceLT, Int.reduceLE, le_refl', List.setIfInBounds_toArray, Nat.reduceLT, Array.size_setIfInBounds, if_true, if_false, reduceCtorEq, List.toArray_toList', List.drop_succ_cons, List.drop_zero, List.take_succ_cons, List.take_zero, List.nil_append, List.append_nil, List.cons_append, Bool.and_true, Bool.true_and, Bool.or_false, Bool.false_or, Bool.and_false, Bool.or_true, Bool.true_or, Bool.false_and, eq_self, pLoad_cell (hs.cell (k := 2) rfl)]
  refine fun _ => pCond_if (fun hc => ?_) (fun hc => ?_)
  · rw [w64 (n := 8 - (n : Int)) (by omega) (by omega), show 8 - (n : Int) = ((8 - n : Nat) : Int) by omega]
    refine wWrite_spec (v := 0) (by decide) (by omega) (by omega) hw' hbig fun H1 dv1 hw1 c1 => ?_
    refine h H1 dv1 ?_ c1
    rw [bits_zero] at hw1
    unfold padB
    rw [show (8 - B.length % 8) % 8 = 8 - n by omega]
    exact hw1
  · refine h H dv ?_ Chg.refl
    unfold padB
    rw [show (8 - B.length % 8) % 8 = 0 by omega, List.replicate_zero, List.append_nil]
    exact hw'
theorem wLen_spec (hw : Wr H b o dv B) (h : R (i64 B.length) H) : CallsH Tryz.prog 15 #[at_ b o] H R := by
  obtain ⟨⟨D, acc, n, hs, ho, he, ha, hn⟩, hne, hb⟩ := hw
  have hl : B.length = 8 * D.length + n := by rw [he, List.length_append, bitsN_len, toBits_len]
  refine bits_Writer_Len.vc _ _ _ ?_
  unfold bits_Writer_Len.res
  simp only [pPick_v, pNil_v, pNil_f, pAdd_v, pSub_v, pMul_v, pAdd_s, pQuo_v, pRem_v, pBits_v, pShl_v, pShr_v, pLt_v, pLe_v, pGt_v, pGe_v, pEq_0, pNe_0, pEq_1, pNe_1, pEq_2, pNe_2, pEq_3n, pNe_3n, pEq_3s, pNe_3s, pEq_3t, pNe_3t, pEq_5n, pNe_5n, pEq_5s, pNe_5s, pEq_5t, pNe_5t, pEq_4n, pNe_4n, pEq_4s, pNe_4s, pNot_v, pNeg_v, pCom_v, pConv_v, pConvS_v, pMin_v, pMax_v, pFieldAddr_v, pField1_v, pFieldN_v, pExtract_v, pIdxArr_v, pIdxSl_v, pIdxStr_v, pBounds_00, pBounds_10, pBounds_01, pBounds_11, pSlStr_v, pSlSl_v, pSlArr_v, pLenS_v, pLen_v, pCap_v, pBuild_n, pBuild_c, cells_int, cells_str, cells_bool, cells_ptr, cells_slice, cells_map, cells_agg, oneCell_int, oneCell_str, oneCell_bool, oneCell_ptr, oneCell_slice, oneCell_map, putL_cons, putL_nil, pAnd_pure, pOr_pure, pAnd_pureE, pOr_pureE, pAnd_false, pOr_true, pCond_true, pCond_false, add_mk, bys_mk, bys_size, cond_true, cond_false, decide_true, decide_false, decide_not', dec_and, dec_or, dec_eqt, Bool.not_true, Bool.not_false, Option.isNone_none, Option.isNone_some, Option.map_some, Option.map_none, List.getElem?_toArray, List.getElem?_cons_zero, List.getElem?_cons_succ, List.size_toArray, List.length_cons, List.length_nil, List.length_replicate, List.set_cons_zero, List.set_cons_succ, Nat.reduceAdd, Nat.reduceMul, Nat.reduceSub, Nat.reduceLeDiff, Nat.zero_add, Nat.add_zero, Nat.zero_le, true_and, and_true, not_false_eq_true, ne_eq, Int.reduceNeg, Int.reduceEq, Int.reduceNe, Int.reduceLT, Int.reduceLE, le_refl', List.setIfInBounds_toArray, Nat.reduceLT, Array.size_setIfInBounds, if_true, if_false, reduceCtorEq, List.toArray_toList', List.drop_succ_cons, List.drop_zero, List.take_succ_cons, List.take_zero, List.nil_append, List.append_nil, List.cons_append, Bool.and_true, Bool.true_and, Bool.or_false, Bool.false_or, Bool.and_false, Bool.or_true, Bool.true_or, Bool.false_and, eq_self, pLoad_cell (hs.cell0 rfl), pLoad_cell (hs.cell (k := 2) rfl)]
  refine (ho.sl (by decide)).len (n := D.length) (by simp) (by decide) ?_
  simp only [pPick_v, pNil_v, pNil_f, pAdd_v, pSub_v, pMul_v, pAdd_s, pQuo_v, pRem_v, pBits_v, pShl_v, pShr_v, pLt_v, pLe_v, pGt_v, pGe_v, pEq_0, pNe_0, pEq_1, pNe_1, pEq_2, pNe_2, pEq_3n, pNe_3n, pEq_3s, pNe_3s, pEq_3t, pNe_3t, pEq_5n, pNe_5n, pEq_5s, pNe_5s, pEq_5t, pNe_5t, pEq_4n, pNe_4n, pEq_4s, pNe_4s, pNot_v, pNeg_v, pCom_v, pConv_v, pConvS_v, pMin_v, pMax_v, pFieldAddr_v, pField1_v, pFieldN_v, pExtract_v, pIdxArr_v, pIdxSl_v, pIdxStr_v, pBounds_00, pBounds_10, pBounds_01, pBounds_11, pSlStr_v, pSlSl_v, pSlArr_v, pLenS_v, pLen_v, pCap_v, pBuild_n, pBuild_c, cells_int, cells_str, cells_bool, cells_ptr, cells_slice, cells_map, cells_agg, oneCell_int, oneCell_str, oneCell_bool, oneCell_ptr, oneCell_slice, oneCell_map, putL_cons, putL_nil, pAnd_pure, pOr_pure, pAnd_pureE, pOr_pureE, pAnd_false, pOr_true, pCond_true, pCond_false, add_mk, bys_mk, bys_size, cond_true, cond_false, decide_true, decide_false, decide_not', dec_and, dec_or, dec_eqt, Bool.not_true, Bool.not_false, Option.isNone_none, Option.isNone_some, Option.map_some, Option.map_none, List.getElem?_toArray, List.getElem?_cons_zero, List.getElem?_cons_succ, List.size_toArray, List.length_cons, List.length_nil, List.length_replicate, List.set_cons_zero, List.set_cons_succ, Nat.reduceAdd, Nat.reduceMul, Nat.reduceSub, Nat.reduceLeDiff, Nat.zero_add, Nat.add_zero, Nat.zero_le, true_and, and_true, not_false_eq_true, ne_eq, Int.reduceNeg, Int.reduceEq, Int.reduceNe, Int.reduceLT, Int.reduceLE, le_refl', List.setIfInBounds_toArray, Nat.reduceLT, Array.size_setIfInBounds, if_true, if_false, reduceCtorEq, List.toArray_toList', List.drop_succ_cons, List.drop_zero, List.take_succ_cons, List.take_zero, List.nil_append, List.append_nil, List.cons_append, Bool.and_true, Bool.true_and, Bool.or_false, Bool.false_or, Bool.and_false, Bool.or_true, Bool.true_or, Bool.false_and, eq_self]
  rw [w64 (n := 8 * (D.length : Int)) (by omega) (by omega), w64 (by omega) (by omega), show 8 * (D.length : Int) + (n : Int) = (B.length : Int) by omega]
  exact h
theorem wDrain_spec (hw : Wr H b o dv B) (h : ∀ H' dv', Wr H' b o dv' (B.drop (8 * (B.length / 8))) → Chg b o 3 (blkS dv) (blkS dv') H H' → R (str (toBytes B)) H') : CallsH Tryz.prog 8 #[at_ b o] H R := by
  obtain ⟨⟨D, acc, n, hs, ho, he, ha, hn⟩, hne, hb⟩ := hw
  have hl : B.length = 8 * D.length + n := by rw [he, List.length_append, bitsN_len, toBits_len]
  refine bits_Writer_Drain.vc _ _ _ ?_
  unfold bits_Writer_Drain.res
  simp only [pPick_v, pNil_v, pNil_f, pAdd_v, pSub_v, pMul_v, pAdd_s, pQuo_v, pRem_v, pBits_v, pShl_v, pShr_v, pLt_v, pLe_v, pGt_v, pGe_v, pEq_0, pNe_0, pEq_1, pNe_1, pEq_2, pNe_2, pEq_3n, pNe_3n, pEq_3s, pNe_3s, pEq_3t, pNe_3t, pEq_5n, pNe_5n, pEq_5s, pNe_5s, pEq_5t, pNe_5t, pEq_4n, pNe_4n, pEq_4s, pNe_4s, pNot_v, pNeg_v, pCom_v, pConv_v, pConvS_v, pMin_v, pMax_v, pFieldAddr_v, pField1_v, pFieldN_v, pExtract_v, pIdxArr_v, pIdxSl_v, pIdxStr_v, pBounds_00, pBounds_10, pBounds_01, pBounds_11, pSlStr_v, pSlSl_v, pSlArr_v, pLenS_v, pLen_v, pCap_v, pBuild_n, pBuild_c, cells_int, cells_str, cells_bool, cells_ptr, cells_slice, cells_map, cells_agg, oneCell_int, oneCell_str, oneCell_bool, oneCell_ptr, oneCell_slice, oneCell_map, putL_cons, putL_nil, pAnd_pure, pOr_pure, pAnd_pureE, pOr_pureE, pAnd_false, pOr_true, pCond_true, pCond_false, add_mk, bys_mk, bys_size, cond_true, cond_false, decide_true, decide_false, decide_not', dec_and, dec_or, dec_eqt, Bool.not_true, Bool.not_false, Option.isNone_none, Option.isNone_some, Option.map_some, Option.map_none, List.getElem?_toArray, List.getElem?_cons_zero, List.getElem?_cons_succ, List.size_toArray, List.length_cons, List.length_nil, List.length_replicate, List.set_cons_zero, List.set_cons_succ, Nat.reduceAdd, Nat.reduceMul, Nat.reduceSub, Nat.reduceLeDiff, Nat.zero_add, Nat.add_zero, Nat.zero_le, true_and, and_true, not_false_eq_true, ne_eq, Int.reduceNeg, Int.reduceEq, Int.reduceNe, Int.reduceLT, Int.reduceLE, le_refl', List.setIfInBounds_toArray, Nat.reduceLT, Array.size_setIfInBounds, if_true, if_false, reduceCtorEq, List.toArray_toList', List.drop_succ_cons, List.drop_zero, List.take_succ_cons, List.take_zero, List.nil_append, List.append_nil, List.cons_append, Bool.and_true, Bool.true_and, Bool.or_false, Bool.false_or, Bool.and_false, Bool.or_true, Bool.true_or, Bool.false_and, eq_self, pLoad_cell (hs.cell0 rfl)]
  refine Sl.str (ho.sl (by decide)) ?_
  refine ho.cut0 fun v1 o1 k1 => ?_
  have hv1 : blkOf v1 ≠ some b := by rw [k1]; exact hne
  refine pStore_sub0 (F := none_) (n := 3) hs rfl (by simp) (own_one o1) fun H1 s1 hs1 c1 => ?_
  have h := h H1 v1 ⟨⟨[], acc, n, hs1, c1.own o1 hv1 (fun _ _ h => h), ?_, ha, hn⟩, hv1, by rw [List.length_drop]; omega⟩ (c1.any.weak (fun _ h => h) (fun k hk => .inl (by
    have hk' : blkOf v1 = some k := hk
    rw [k1] at hk'; exact hk')))
  · rw [he, toBytes_toBits D _ (by rw [bitsN_len]; omega)] at h
    exact h
  · rw [hl, show (8 * D.length + n) / 8 = D.length by omega, he, ← toBits_len D, List.drop_append_of_le_length (Nat.le_refl _), List.drop_of_length_le (Nat.le_refl _)]
    rfl
end Go.Proofs.YtameljhbkedhjaaGreatDoor
namespace Go.Proofs.YtameljhbkedhjaaGreatDoor
open Go Go.Vc Go.Proofs
set_option linter.unusedVariables false
set_option linter.unusedSimpArgs false
variable {H : Heap} {B : List Bool}
def wrT (b : Nat) (dv : Value) (B : List Bool) : Thing where
  foot k := k = b ∨ blkOf dv = some k
  holds H := Wr H b 0 dv B
  frame := fun h hf => by
    obtain ⟨⟨D, acc, n, g1, g2, g3⟩, g4, g5⟩ := h
    have hi : It.holds _ (.sl dv 1 (D.map byteV)) := ⟨by decide, g2⟩
    exact ⟨⟨D, acc, n, g1.same (hf b (.inl rfl)), (It.frame hi fun k hk => hf k (.inr hk)).2, g3⟩, g4, g5⟩
  lt := fun h hf => by
    rcases hf with rfl | hf
    · exact h.lt
    · exact h.live _ hf
theorem owns_wr {H0 H' : Heap} {L L' : List It} {b : Nat} {dv dv' : Value} {B' : List Bool} (o : Owns H0 H L) (w : Wr H' b 0 dv' B') (c : Chg b 0 3 (blkS dv) (blkS dv') H H') (hr : Rep (.thing (wrT b dv B)) (.thing (wrT b dv' B')) L L') : Owns H0 H' L' :=
  o.turn hr c.size (fun k hk hf => c.ne k hk (fun h => hf (.inl h)) (fun h => hf (.inr h))) w (fun k hk => by
    rcases hk with hk | hk
    · exact .inl (.inl hk)
    · rcases c.new k hk with h | h
      · exact .inl (.inr h)
      · exact .inr h)
theorem wr_at {H0 : Heap} {L : List It} {b : Nat} {dv : Value} (o : Owns H0 H L) (h : It.thing (wrT b dv B) ∈ L) : Wr H b 0 dv B := o.thing h
theorem wr_new {H0 : Heap} {L : List It} {b : Nat} {t : TypeId} (o : Owns H0 H (.box b [.slice none 0 0, .int .u64 0, .int .i64 0] t :: L)) : Owns H0 H (.thing (wrT b (.slice none 0 0) []) :: L) := by
  have hb := o.blk (b := b) List.mem_cons_self
  exact o.turn Rep.here (Nat.le_refl _) (fun _ _ _ => rfl) (Wr.new (Sub.all hb)) (fun k hk => by
    rcases hk with rfl | hk
    · exact .inl rfl
    · simp [blkOf] at hk)
theorem padB_ext7 (B : List Bool) : ∃ r, padB B = B ++ r ∧ r.length < 8 := ⟨_, rfl, by simp; omega⟩
end Go.Proofs.YtameljhbkedhjaaGreatDoor
namespace Go.Proofs.YtameljhbkedhjaaGreatDoor
open Go Go.Vc Go.Proofs
set_option linter.unusedVariables false
set_option linter.unusedSimpArgs false
variable {H H0 H' : Heap} {R : Value → Heap → Prop} {v : Value} {L : List It} {zs : List Int} {b : Nat} {B : List Bool}
theorem wbitsG {n : Nat} {k : Nat} {dv : Value} (hv : n < 18446744073709551616) (hk : k ≤ 32) (hbig : B.length ≤ 1000000000) (o : Owns H0 H (.thing (wrT b dv B) :: L)) (h : ∀ H' dv', Owns H0 H' (.thing (wrT b dv' (B ++ bitsN n k)) :: L) → R (.tuple #[]) H') : CallsH Tryz.prog 22 #[at_ b 0, .int .u64 (n : Int), .int .i64 (k : Int)] H R := by
  by_cases h0 : 1 ≤ k
  · exact wWrite_spec hv h0 hk (wr_at o (by repeat (first | exact List.mem_cons_self | apply List.mem_cons_of_mem))) (by omega) fun H1 dv1 w c => h H1 dv1 (owns_wr o w c Rep.here)
  · have : k = 0 := by omega
    subst this
    exact wWrite_no (by omega) (h H dv (by rw [bitsN_zero, List.append_nil]; exact o))
theorem cwrite_spec {s : Nat} {p dv : Value} (hc : HasC L zs p) (hw : hasW zs s) (hbig : B.length ≤ 1000000000) (o : Owns H0 H (.thing (wrT b dv B) :: L)) (h : ∀ H' dv', Owns H0 H' (.thing (wrT b dv' (B ++ wordB (natL zs) s)) :: L) → R (.tuple #[]) H') :
    CallsH Tryz.prog 14 #[p, at_ b 0, .int .i64 (s : Int)] H R := by
  obtain ⟨hz, cb, lv, wv, sv, rfl, hm⟩ := hc
  have hle := ok_le hz.1
  refine canon_Code_Write.vc _ _ _ _ _ ?_
  unfold canon_Code_Write.res
  refine word_spec o (lv := lv) (wv := wv) (sv := sv) (List.mem_cons_of_mem _ (hm (.box cb (codeCells lv wv (countsL (natL zs)) sv) 90 ) List.mem_cons_self)) (List.mem_cons_of_mem _ (hm (.sl wv 2 (wordsV (natL zs))) (by simp [codeIts]))) hz.1.1 ?_
  refine pExtract_to rfl ?_
  refine pExtract_to rfl ?_
  have hs : s < (natL zs).length := by rw [natL_len]; exact hw.1
  rw [wordP_in hs]
  have h15 := getD_le hle s
  have hcl := code_pow hz.2 hle hs hw.2
  have hrv : revN (codeL (natL zs) s) ((natL zs).getD s 0) < 2 ^ 15 := Nat.lt_of_lt_of_le (revN_lt _ _) (Nat.pow_le_pow_right (by decide) h15)
  refine wbitsG (by omega) (by omega) hbig o fun H1 dv1 o1 => ?_
  exact h H1 dv1 o1
theorem idx_kind {sz : Nat} {k k' : IntKind} {i : Int} {K : Value → Prop} : pIdxSl sz v (.int k i) K = pIdxSl sz v (.int k' i) K := by
  cases v <;> try rfl
  rename_i a n c
  cases a <;> rfl
structure CntOk (G : List Tok) (cs ds : List Int) : Prop where
  cl : cs.length = 286
  dl : ds.length = 30
  cr : ∀ z ∈ cs, 0 ≤ z ∧ z ≤ (G.length : Int) + 1
  dr : ∀ z ∈ ds, 0 ≤ z ∧ z ≤ (G.length : Int) + 1
  ce : 1 ≤ cs.getD 256 0
  ct : ∀ t ∈ G, if t.n = 0 then 1 ≤ cs.getD t.b.toNat 0 else 1 ≤ cs.getD (symL t.n).toNat 0 ∧ 1 ≤ ds.getD (symD t.d).toNat 0
theorem inc_get {cs : List Int} {a : Nat} (ha : a < cs.length) (s : Nat) : (cs.set a (cs[a] + 1)).getD s 0 = if s = a then cs[a] + 1 else cs.getD s 0 := by
  rw [List.getD_eq_getElem?_getD, List.getElem?_set]
  by_cases e : a = s
  · subst e; rw [if_pos rfl, if_pos ha, if_pos rfl]; rfl
  · rw [if_neg e, if_neg (fun h => e h.symm), List.getD_eq_getElem?_getD]
theorem inc_le {cs : List Int} {a : Nat} (ha : a < cs.length) (s : Nat) : cs.getD s 0 ≤ (cs.set a (cs[a] + 1)).getD s 0 := by
  rw [inc_get ha]
  split
  · rename_i e; subst e; rw [List.getD_eq_getElem?_getD, List.getElem?_eq_getElem ha]; show cs[s] ≤ _; omega
  · exact Int.le_refl _
theorem inc_rng {cs : List Int} {a : Nat} {N : Int} (ha : a < cs.length) (h : ∀ z ∈ cs, 0 ≤ z ∧ z ≤ N) : ∀ z ∈ cs.set a (cs[a] + 1), 0 ≤ z ∧ z ≤ N + 1 := fun z hz => by
  rcases List.mem_or_eq_of_mem_set hz with hz | rfl
  · have := h z hz; omega
  · have := h _ (List.getElem_mem ha); omega
theorem rng_up {cs : List Int} {N : Int} (h : ∀ z ∈ cs, 0 ≤ z ∧ z ≤ N) : ∀ z ∈ cs, 0 ≤ z ∧ z ≤ N + 1 := fun z hz => by have := h z hz; omega
theorem inc_spec {y : Value} {cs : List Int} {a : Nat} {N : Int} {M : List It} {kd : IntKind} {K : Value → Heap → Prop} (o : Owns H0 H L) (hin : It.sl y 1 (numsV cs) ∈ L) (ha : a < cs.length) (hr : ∀ z ∈ cs, 0 ≤ z ∧ z ≤ N) (hN : N ≤ 1000000)
    (hrep : Rep (.sl y 1 (numsV cs)) (.sl y 1 (numsV (cs.set a (cs[a] + 1)))) L M) (hk : ∀ H', Owns H0 H' M → K undef H') :
    pIdxSl 1 y (.int kd (a : Int)) fun x24 => pLoad H x24 fun x25 => pAdd x25 (.int .i64 1) fun x26 => pIdxSl 1 y (.int kd (a : Int)) fun x27 => pStore H x27 x26 K := by
  have hyl : (numsV cs).length = cs.length * 1 := by rw [numsV_len]; omega
  have hy := o.sl hin
  have hra := hr _ (List.getElem_mem ha)
  rw [idx_kind (k' := .i64)]
  refine hy.at_ hyl (by decide) (by omega) (by omega) fun p hp => ?_
  refine hp.load hy (w := .int .i64 cs[a]) (by rw [Int.toNat_natCast, Nat.mul_one, numsV_get ha]) ?_
  rw [pAdd_v, w64 (by omega) (by omega), idx_kind (k' := .i64)]
  refine hy.at_ hyl (by decide) (by omega) (by omega) fun p hp => ?_
  rw [Int.toNat_natCast, Nat.mul_one] at hp
  exact o.store hp hin (by rw [numsV_len]; exact ha) rfl (by rw [numsV_set]; exact hrep) fun H' o' _ => hk H' o'
theorem pField1_to {vs : List Value} {x : Value} {i : Nat} {K : Value → Prop} (hv : vs[i]? = some x) (h : K x) : pField1 i (.agg vs.toArray) K := by rw [pField1_v, hv]; exact h
theorem symL_nat {n : Int} (h0 : 3 ≤ n) (h1 : n ≤ 258) : ∃ s : Nat, symL n = s ∧ 257 ≤ s ∧ s ≤ 285 := by
  have := symL_facts h0 h1
  exact ⟨(symL n).toNat, by omega, by omega, by omega⟩
theorem symD_nat {n : Int} (h0 : 1 ≤ n) (h1 : n ≤ 32768) : ∃ s : Nat, symD n = s ∧ s ≤ 29 := by
  have := symD_facts h0 h1
  exact ⟨(symD n).toNat, by omega, by omega⟩
theorem counts_spec {G : List Tok} (hs : Sl H v 3 (toksL G)) (hlen : G.length ≤ 65535) (hg : ∀ t ∈ G, goodK t = true) (h : ∀ y z cs ds H', CntOk G cs ds → Owns H H' [.sl y 1 (numsV cs), .sl z 1 (numsV ds)] → R (.tuple #[y, z]) H') : CallsH Tryz.prog 54 #[v] H R := by
  have hvl := toksL_len G
  refine block_counts.vc _ _ _ ?_
  unfold block_counts.res
  refine ⟨fun y z H' => Owns H H' [.sl y 1 (numsV (List.replicate 286 0)), .sl z 1 (numsV (List.replicate 30 0))], ?_, ?_, ?_⟩
  · intro _ y z H1 o
    refine (o.sl (v := y) (by repeat (first | exact List.mem_cons_self | apply List.mem_cons_of_mem))).at_ (n := 286) (by rw [numsV_len, List.length_replicate]) (by decide) (by decide) (by decide) fun p hp => ?_
    refine o.store (j := 256) hp (by repeat (first | exact List.mem_cons_self | apply List.mem_cons_of_mem)) (by rw [numsV_len, List.length_replicate]; decide) rfl (by repeat (first | exact Rep.here | apply Rep.there)) fun H2 o2 _ => ?_
    rw [numsV_set] at o2
    refine hs.len hvl (by decide) ?_
    refine ⟨fun i H' => ∃ (k : Nat) (cs ds : List Int), i = .int .i64 k ∧ k ≤ G.length ∧ CntOk (G.take k) cs ds ∧ Owns H H' [.sl y 1 (numsV cs), .sl z 1 (numsV ds)], fun i _ => match i with | .int _ x => (G.length - x).toNat | _ => 0,
      ⟨0, _, _, rfl, by omega, ⟨by rw [List.length_set, List.length_replicate], List.length_replicate, ?_, ?_, ?_, fun t ht => by simp at ht⟩, o2⟩, ?_⟩
    · intro q hq
      rcases List.mem_or_eq_of_mem_set hq with hq | rfl
      · rw [List.eq_of_mem_replicate hq, List.take_zero]; decide
      · rw [List.take_zero]; decide
    · intro q hq; rw [List.eq_of_mem_replicate hq, List.take_zero]; decide
    · rw [List.getD_eq_getElem?_getD, List.getElem?_set_self (by rw [List.length_replicate]; decide)]; decide
    rintro _ _ H3 ⟨k, cs, ds, rfl, hk, c, o⟩
    rw [pLt_v]
    refine pCond_if (fun hc => ?_) (fun hc => ?_)
    · have hkn : k < G.length := by omega
      have hat := toksL_at G k _ (List.getElem?_eq_getElem hkn)
      have htk : G.take (k + 1) = G.take k ++ [G[k]] := by rw [List.take_add_one, List.getElem?_eq_getElem hkn]; rfl
      have hgk := hg _ (List.getElem_mem hkn)
      have hkl : (G.take k).length = k := by rw [List.length_take]; omega
      generalize G[k] = t at hat htk hgk
      have hs1 := hs.ext o.ext
      refine hs1.at_ hvl (by decide) (by omega) (by omega) fun p hp => ?_
      rw [Int.toNat_natCast] at hp
      refine hp.loadN hs1 (ws := t.cells) hat rfl ?_
      refine o.box fun tb H4 o4 _ => ?_
      refine o4.bstoreN (vs := t.cells) (by repeat (first | exact List.mem_cons_self | apply List.mem_cons_of_mem)) rfl rfl rfl (by repeat (first | exact Rep.here | apply Rep.there)) fun H5 o5 _ => ?_
      rw [pFieldAddr_v, add_mk]
      refine o5.bload (b := tb) (f := 0 + 1) (w := .int .i64 t.n) (by repeat (first | exact List.mem_cons_self | apply List.mem_cons_of_mem)) rfl ?_
      rw [pEq_0]
      have hcl := c.cl; have hdl := c.dl
      have cr := c.cr; have dr := c.dr
      rw [hkl] at cr dr
      refine pCond_if (fun h0 => ?_) (fun h0 => ?_)
      · have hx := t.b.toNat_lt
        rw [pFieldAddr_v, add_mk]
        refine o5.bload (b := tb) (f := 0 + 0) (w := byteV t.b) (by repeat (first | exact List.mem_cons_self | apply List.mem_cons_of_mem)) rfl ?_
        refine inc_spec (a := t.b.toNat) (kd := .u8) o5 (by repeat (first | exact List.mem_cons_self | apply List.mem_cons_of_mem)) (by omega) cr (by omega) (by repeat (first | exact Rep.here | apply Rep.there)) fun H6 o6 => ?_
        rw [pAdd_v, w64 (by omega) (by omega)]
        refine ⟨⟨k + 1, cs.set t.b.toNat (cs[t.b.toNat]'(by omega) + 1), ds, rfl, by omega, ⟨by rw [List.length_set]; exact hcl, hdl, ?_, ?_, ?_, ?_⟩, o6.arr (by repeat (first | exact Sels.nil | exact Sel.here | apply Sels.cons | apply Sel.there))⟩, by show (_ : Int).toNat < (_ : Int).toNat; omega⟩
        · rw [htk, List.length_append, hkl]; exact inc_rng (by omega) cr
        · rw [htk, List.length_append, hkl]; exact rng_up dr
        · have := inc_le (cs := cs) (a := t.b.toNat) (by omega) 256; have := c.ce; omega
        · intro u hu
          rw [htk] at hu
          rcases List.mem_append.1 hu with hu | hu
          · have := c.ct u hu
            split at this
            · rename_i e; rw [if_pos e]; have := inc_le (cs := cs) (a := t.b.toNat) (by omega) u.b.toNat; omega
            · rename_i e; rw [if_neg e]; have h5 := inc_le (cs := cs) (a := t.b.toNat) (by omega) (symL u.n).toNat; exact ⟨by omega, this.2⟩
          · rw [List.mem_singleton.1 hu, if_pos h0, inc_get (by omega), if_pos rfl]
            have := cr _ (List.getElem_mem (show t.b.toNat < cs.length by omega)); omega
      · rcases goodK_facts hgk with ⟨h, _⟩ | ⟨h1, h2, h3, h4⟩
        · exact absurd h h0
        obtain ⟨s, es, s1, s2⟩ := symL_nat h1 h2
        obtain ⟨d, ed, d1⟩ := symD_nat h3 h4
        rw [pFieldAddr_v, add_mk]
        refine o5.bload (b := tb) (f := 0 + 1) (w := .int .i64 t.n) (by repeat (first | exact List.mem_cons_self | apply List.mem_cons_of_mem)) rfl ?_
        refine length_spec fun H6 hx6 => ?_
        unfold lenX
        rw [if_neg (by omega), es]
        unfold exv
        refine pField1_to rfl ?_
        refine inc_spec (a := s) (kd := .i64) (o5.more hx6) (by repeat (first | exact List.mem_cons_self | apply List.mem_cons_of_mem)) (by omega) cr (by omega) (by repeat (first | exact Rep.here | apply Rep.there)) fun H7 o7 => ?_
        rw [pFieldAddr_v, add_mk]
        refine o7.bload (b := tb) (f := 0 + 2) (w := .int .i64 t.d) (by repeat (first | exact List.mem_cons_self | apply List.mem_cons_of_mem)) rfl ?_
        refine dist_spec fun H8 hx8 => ?_
        unfold distX
        rw [if_neg (by omega), ed]
        unfold exv
        refine pField1_to rfl ?_
        refine inc_spec (a := d) (kd := .i64) (o7.more hx8) (by repeat (first | exact List.mem_cons_self | apply List.mem_cons_of_mem)) (by omega) dr (by omega) (by repeat (first | exact Rep.here | apply Rep.there)) fun H9 o9 => ?_
        rw [pAdd_v, w64 (by omega) (by omega)]
        refine ⟨⟨k + 1, cs.set s (cs[s]'(by omega) + 1), ds.set d (ds[d]'(by omega) + 1), rfl, by omega, ⟨by rw [List.length_set]; exact hcl, by rw [List.length_set]; exact hdl, ?_, ?_, ?_, ?_⟩, o9.arr (by repeat (first | exact Sels.nil | exact Sel.here | apply Sels.cons | apply Sel.there))⟩, by show (_ : Int).toNat < (_ : Int).toNat; omega⟩
        · rw [htk, List.length_append, hkl]; exact inc_rng (by omega) cr
        · rw [htk, List.length_append, hkl]; exact inc_rng (by omega) dr
        · have := inc_le (cs := cs) (a := s) (by omega) 256; have := c.ce; omega
        · intro u hu
          rw [htk] at hu
          rcases List.mem_append.1 hu with hu | hu
          · have := c.ct u hu
            split at this
            · rename_i e; rw [if_pos e]; have := inc_le (cs := cs) (a := s) (by omega) u.b.toNat; omega
            · rename_i e; rw [if_neg e]; have h5 := inc_le (cs := cs) (a := s) (by omega) (symL u.n).toNat; have h6 := inc_le (cs := ds) (a := d) (by omega) (symD u.d).toNat; exact ⟨by omega, by omega⟩
          · rw [List.mem_singleton.1 hu, if_neg h0, es, ed, Int.toNat_natCast, Int.toNat_natCast, inc_get (by omega), if_pos rfl, inc_get (by omega), if_pos rfl]
            have := cr _ (List.getElem_mem (show s < cs.length by omega)); have := dr _ (List.getElem_mem (show d < ds.length by omega)); omega
    · have hkG : k = G.length := by omega
      rw [hkG, List.take_length] at c
      exact h _ _ _ _ _ c o
  · refine (Owns.start (H := H)).make1 (by decide) (by decide) (by decide) fun y H1 o1 => ?_
    refine o1.make1 (by decide) (by decide) (by decide) fun z H2 o2 => ?_
    rw [numsV_rep, numsV_rep] at o2
    exact o2.arr (by repeat (first | exact Sels.nil | exact Sel.here | apply Sels.cons | apply Sel.there))
  · refine (Owns.start (H := H)).make1 (by decide) (by decide) (by decide) fun z H1 o1 => ?_
    refine o1.make1 (by decide) (by decide) (by decide) fun y H2 o2 => ?_
    rw [numsV_rep, numsV_rep] at o2
    exact o2.arr (by repeat (first | exact Sels.nil | exact Sel.here | apply Sels.cons | apply Sel.there))
end Go.Proofs.YtameljhbkedhjaaGreatDoor
namespace Go.Proofs.YtameljhbkedhjaaGreatDoor
open Go Go.Vc Go.Proofs
set_option linter.unusedVariables false
set_option linter.unusedSimpArgs false
variable {H H0 H' : Heap} {R : Value → Heap → Prop} {v : Value} {L : List It} {zs : List Int} {b : Nat} {B : List Bool}
theorem bits_pow (k : Nat) : ((2 ^ k : Nat) : Int) = 2 ^ k := by push_cast; rfl
theorem lenX_ex {n : Int} (h0 : 3 ≤ n) (h1 : n ≤ 258) : ∃ s e x : Nat, symL n = s ∧ lenX n = .agg ([.int .i64 (s : Int), .int .i64 (e : Int), .int .u64 (x : Int)] : List Value).toArray ∧ lenX2 n = bitsN x e ∧ e ≤ 5 ∧ x < 2 ^ e := by
  obtain ⟨f1, f2, f3, f4, f5, f6⟩ := symL_facts h0 h1
  obtain ⟨s, hs⟩ : ∃ s : Nat, symL n = s := ⟨(symL n).toNat, by omega⟩
  rw [hs] at f1 f2 f3 f4 f5 f6
  rw [← bits_pow] at f4
  have l0 : 0 ≤ (lenOf (s : Int)).1 := by
    have := len_low ⟨s - 257, by omega⟩
    dsimp only at this
    rwa [show (257 : Int) + ((s - 257 : Nat) : Int) = (s : Int) by omega] at this
  refine ⟨s, (lenOf (s : Int)).2.toNat, (n - (lenOf (s : Int)).1).toNat, hs, ?_, by unfold lenX2; rw [hs], by omega, by omega⟩
  unfold lenX exv
  rw [if_neg (by omega), hs, w64 (by omega) (by omega), wu64 (by omega) (by omega), show (((lenOf (s : Int)).2.toNat : Nat) : Int) = (lenOf (s : Int)).2 by omega, show (((n - (lenOf (s : Int)).1).toNat : Nat) : Int) = n - (lenOf (s : Int)).1 by omega]
theorem dstX_ex {n : Int} (h0 : 1 ≤ n) (h1 : n ≤ 32768) : ∃ s e x : Nat, symD n = s ∧ distX n = .agg ([.int .i64 (s : Int), .int .i64 (e : Int), .int .u64 (x : Int)] : List Value).toArray ∧ dstX2 n = bitsN x e ∧ e ≤ 13 ∧ x < 2 ^ e := by
  obtain ⟨f1, f2, f3, f4, f5, f6⟩ := symD_facts h0 h1
  obtain ⟨s, hs⟩ : ∃ s : Nat, symD n = s := ⟨(symD n).toNat, by omega⟩
  rw [hs] at f1 f2 f3 f4 f5 f6
  rw [← bits_pow] at f4
  have l0 : 0 ≤ (distOf (s : Int)).1 := dist_low ⟨s, by omega⟩
  refine ⟨s, (distOf (s : Int)).2.toNat, (n - (distOf (s : Int)).1).toNat, hs, ?_, by unfold dstX2; rw [hs], by omega, by omega⟩
  unfold distX exv
  rw [if_neg (by omega), hs, w64 (by omega) (by omega), wu64 (by omega) (by omega), show (((distOf (s : Int)).2.toNat : Nat) : Int) = (distOf (s : Int)).2 by omega, show (((n - (distOf (s : Int)).1).toNat : Nat) : Int) = n - (distOf (s : Int)).1 by omega]
theorem wordB_le {zs : List Int} (hz : okC zs) (s : Nat) : (wordB (natL zs) s).length ≤ 15 := by rw [wordB_len]; exact getD_le (ok_le hz.1) s
theorem _root_.Go.Vc.Owns.tl {i : It} (o : Owns H0 H (i :: L)) : Owns H0 H L := o.pick (List.Sublist.cons _ (List.Sublist.refl _))
theorem tokens_spec {G : List Tok} {lv dv ps pd : Value} {rest : List Value} {cb : Nat} {ct : TypeId} {sy di : List Int} (hl : It.sl lv 3 (toksL G) ∈ L) (hcb : It.box cb (ps :: pd :: rest) ct ∈ L) (hsy : HasC L sy ps) (hdi : HasC L di pd) (he : hasW sy 256)
    (hG : ∀ t ∈ G, goodK t = true ∧ hasT sy di t) (hlen : G.length ≤ 65535) (hbig : B.length ≤ 500000000) (o : Owns H0 H (.thing (wrT b dv B) :: L)) (h : ∀ H' dv', Owns H0 H' (.thing (wrT b dv' (B ++ toksG sy di G)) :: L) → R (.tuple #[]) H') :
    CallsH Tryz.prog 26 #[.pointer (some ⟨cb, 0, none⟩), at_ b 0, lv] H R := by
  have hvl := toksL_len G
  refine block_coder_tokens.vc _ _ _ _ _ ?_
  unfold block_coder_tokens.res
  refine (o.sl (v := lv) (List.mem_cons_of_mem _ hl)).len hvl (by decide) ?_
  refine ⟨fun i H' => ∃ (k : Nat) (dv' : Value), i = .int .i64 k ∧ k ≤ G.length ∧ ((G.take k).flatMap (tokG sy di)).length ≤ 50 * k ∧ Owns H0 H' (.thing (wrT b dv' (B ++ (G.take k).flatMap (tokG sy di))) :: L), fun i _ => match i with | .int _ x => (G.length - x).toNat | _ => 0, ⟨0, dv, rfl, by omega, by simp, by simpa using o⟩, ?_⟩
  rintro _ _ H1 ⟨k, dv1, rfl, hk, hbl, o⟩
  rw [pLt_v]
  refine pCond_if (fun hc => ?_) (fun hc => ?_)
  · have hkn : k < G.length := by omega
    have hat := toksL_at G k _ (List.getElem?_eq_getElem hkn)
    have htk : (G.take (k + 1)).flatMap (tokG sy di) = (G.take k).flatMap (tokG sy di) ++ tokG sy di G[k] := by rw [List.take_add_one, List.getElem?_eq_getElem hkn, List.flatMap_append]; simp
    obtain ⟨hgk, hhk⟩ := hG _ (List.getElem_mem hkn)
    have hsl := o.sl (v := lv) (List.mem_cons_of_mem _ hl)
    generalize G[k] = t at hat htk hgk hhk
    generalize (G.take k).flatMap (tokG sy di) = X at o hbl htk
    refine hsl.at_ hvl (by decide) (by omega) (by omega) fun p hp => ?_
    rw [Int.toNat_natCast] at hp
    refine hp.loadN hsl (ws := t.cells) hat rfl ?_
    refine o.box fun tb H4 o _ => ?_
    refine o.bstoreN (vs := t.cells) (by repeat (first | exact List.mem_cons_self | apply List.mem_cons_of_mem)) rfl rfl rfl (by repeat (first | exact Rep.here | apply Rep.there)) fun H5 o _ => ?_
    rw [pFieldAddr_v, add_mk]
    refine o.bload (b := tb) (f := 0 + 1) (w := .int .i64 t.n) (by repeat (first | exact List.mem_cons_self | apply List.mem_cons_of_mem)) rfl ?_
    rw [pEq_0]
    unfold hasT at hhk
    refine pCond_if (fun h0 => ?_) (fun h0 => ?_)
    · rw [if_pos h0] at hhk
      have hx := t.b.toNat_lt
      have etk : tokG sy di t = wordB (natL sy) t.b.toNat := by unfold tokG; rw [if_pos h0]
      have hw := wordB_le hsy.1 t.b.toNat
      rw [pNil_v, pFieldAddr_v, add_mk]
      refine o.bload (b := cb) (f := 0 + 0) (cs := ps :: pd :: rest) (t := ct) (w := ps) (by simp [hcb]) rfl ?_
      rw [pFieldAddr_v, add_mk]
      refine o.bload (b := tb) (f := 0 + 0) (w := byteV t.b) (by repeat (first | exact List.mem_cons_self | apply List.mem_cons_of_mem)) rfl ?_
      refine pConv_to ?_
      rw [w64 (by omega) (by omega)]
      have o2 := o.tl
      refine cwrite_spec (s := t.b.toNat) hsy hhk (by rw [List.length_append]; omega) o2 fun H6 dv6 o6 => ?_
      rw [pAdd_v, w64 (by omega) (by omega)]
      exact ⟨⟨k + 1, dv6, rfl, by omega, by rw [htk, List.length_append, etk]; omega, by rw [htk, etk, ← List.append_assoc]; exact o6⟩, by show (_ : Int).toNat < (_ : Int).toNat; omega⟩
    · rw [if_neg h0] at hhk
      rcases goodK_facts hgk with ⟨h, _⟩ | ⟨h1, h2, h3, h4⟩
      · exact absurd h h0
      obtain ⟨s, e, x, es, el, eb, he5, hx5⟩ := lenX_ex h1 h2
      obtain ⟨d, f, z, ed, edl, edb, hf13, hz13⟩ := dstX_ex h3 h4
      rw [es, ed, Int.toNat_natCast, Int.toNat_natCast] at hhk
      have etk : tokG sy di t = wordB (natL sy) s ++ (bitsN x e ++ (wordB (natL di) d ++ bitsN z f)) := by unfold tokG; rw [if_neg h0, es, ed, Int.toNat_natCast, Int.toNat_natCast, eb, edb]
      have hw1 := wordB_le hsy.1 s
      have hw2 := wordB_le hdi.1 d
      have hp1 : 2 ^ e ≤ 2 ^ 5 := Nat.pow_le_pow_right (by decide) he5
      have hp2 : 2 ^ f ≤ 2 ^ 13 := Nat.pow_le_pow_right (by decide) hf13
      refine ⟨fun x8 y9 H' => ∃ b8 b9 : Nat, x8 = .pointer (some ⟨b8, 0, none⟩) ∧ y9 = .pointer (some ⟨b9, 0, none⟩) ∧ Owns H0 H' (.box b8 [.int .i64 (s : Int), .int .i64 (e : Int), .int .u64 (x : Int)] 106 :: .box b9 [.int .i64 (d : Int), .int .i64 (f : Int), .int .u64 (z : Int)] 106 :: .box tb t.cells 32 :: .thing (wrT b dv1 (B ++ X)) :: L), ?_, ?_⟩
      · rintro _ _ _ H8 ⟨b8, b9, rfl, rfl, o⟩
        rw [pNil_v, pFieldAddr_v, add_mk]
        refine o.bload (b := cb) (f := 0 + 0) (cs := ps :: pd :: rest) (t := ct) (w := ps) (by simp [hcb]) rfl ?_
        rw [pFieldAddr_v, add_mk]
        refine o.bload (b := b8) (f := 0 + 0) (w := .int .i64 (s : Int)) (by repeat (first | exact List.mem_cons_self | apply List.mem_cons_of_mem)) rfl ?_
        have o2 := o.arrT (L' := .thing (wrT b dv1 (B ++ X)) :: .box b8 [.int .i64 (s : Int), .int .i64 (e : Int), .int .u64 (x : Int)] 106 :: .box b9 [.int .i64 (d : Int), .int .i64 (f : Int), .int .u64 (z : Int)] 106 :: .box tb t.cells 32 :: L) (by repeat (first | exact SelsT.refl | exact Sel.here | apply SelsT.cons | apply Sel.there))
        refine cwrite_spec (s := s) hsy.cons.cons.cons hhk.1 (by rw [List.length_append]; omega) o2 fun H9 dv9 o => ?_
        rw [pFieldAddr_v, add_mk]
        refine o.bload (b := b8) (f := 0 + 2) (w := .int .u64 (x : Int)) (by repeat (first | exact List.mem_cons_self | apply List.mem_cons_of_mem)) rfl ?_
        rw [pFieldAddr_v, add_mk]
        refine o.bload (b := b8) (f := 0 + 1) (w := .int .i64 (e : Int)) (by repeat (first | exact List.mem_cons_self | apply List.mem_cons_of_mem)) rfl ?_
        refine wbitsG (n := x) (k := e) (by omega) (by omega) (by simp only [List.length_append]; omega) o fun H10 dv10 o => ?_
        rw [pNil_v, pFieldAddr_v, add_mk]
        refine o.bload (b := cb) (f := 0 + 1) (cs := ps :: pd :: rest) (t := ct) (w := pd) (by simp [hcb]) rfl ?_
        rw [pFieldAddr_v, add_mk]
        refine o.bload (b := b9) (f := 0 + 0) (w := .int .i64 (d : Int)) (by repeat (first | exact List.mem_cons_self | apply List.mem_cons_of_mem)) rfl ?_
        refine cwrite_spec (s := d) hdi.cons.cons.cons hhk.2 (by simp only [List.length_append, bitsN_len]; omega) o fun H11 dv11 o => ?_
        rw [pFieldAddr_v, add_mk]
        refine o.bload (b := b9) (f := 0 + 2) (w := .int .u64 (z : Int)) (by repeat (first | exact List.mem_cons_self | apply List.mem_cons_of_mem)) rfl ?_
        rw [pFieldAddr_v, add_mk]
        refine o.bload (b := b9) (f := 0 + 1) (w := .int .i64 (f : Int)) (by repeat (first | exact List.mem_cons_self | apply List.mem_cons_of_mem)) rfl ?_
        refine wbitsG (n := z) (k := f) (by omega) (by omega) (by simp only [List.length_append, bitsN_len]; omega) o fun H12 dv12 o => ?_
        rw [pAdd_v, w64 (by omega) (by omega)]
        refine ⟨⟨k + 1, dv12, rfl, by omega, by rw [htk, List.length_append, etk]; simp only [List.length_append, bitsN_len]; omega, ?_⟩, by show (_ : Int).toNat < (_ : Int).toNat; omega⟩
        rw [htk, etk]
        simp only [List.append_assoc] at o ⊢
        exact o.pick (List.Sublist.cons_cons _ (List.Sublist.cons _ (List.Sublist.cons _ (List.Sublist.cons _ (List.Sublist.refl _)))))
      · rw [pFieldAddr_v, add_mk]
        refine o.bload (b := tb) (f := 0 + 1) (w := .int .i64 t.n) (by repeat (first | exact List.mem_cons_self | apply List.mem_cons_of_mem)) rfl ?_
        rw [pFieldAddr_v, add_mk]
        refine o.bload (b := tb) (f := 0 + 2) (w := .int .i64 t.d) (by repeat (first | exact List.mem_cons_self | apply List.mem_cons_of_mem)) rfl ?_
        repeat' (first
          | with_reducible refine And.intro ?_ ?_
          | (with_reducible refine length_spec fun Hx hx => ?_; rw [el]; replace o := o.more hx)
          | (with_reducible refine dist_spec fun Hx hx => ?_; rw [edl]; replace o := o.more hx)
          | with_reducible refine o.box fun bb Hx o _ => ?_
          | exact o.bload (b := tb) (by repeat (first | exact List.mem_cons_self | apply List.mem_cons_of_mem)) rfl rfl
          | with_reducible refine o.bstoreN (vs := [.int .i64 (s : Int), .int .i64 (e : Int), .int .u64 (x : Int)]) (by repeat (first | exact List.mem_cons_self | apply List.mem_cons_of_mem)) rfl rfl rfl (by repeat (first | exact Rep.here | apply Rep.there)) fun Hx o _ => ?_
          | with_reducible refine o.bstoreN (vs := [.int .i64 (d : Int), .int .i64 (f : Int), .int .u64 (z : Int)]) (by repeat (first | exact List.mem_cons_self | apply List.mem_cons_of_mem)) rfl rfl rfl (by repeat (first | exact Rep.here | apply Rep.there)) fun Hx o _ => ?_
          | exact ⟨_, _, rfl, rfl, o.arrT (by repeat (first | exact SelsT.refl | exact Sel.here | apply SelsT.cons | apply Sel.there))⟩)
  · have hkG : k = G.length := by omega
    rw [hkG, List.take_length] at o hbl
    rw [pNil_v, pFieldAddr_v, add_mk]
    refine o.bload (b := cb) (f := 0 + 0) (cs := ps :: pd :: rest) (t := ct) (w := ps) (by simp [hcb]) rfl ?_
    refine cwrite_spec (s := 256) hsy he (by rw [List.length_append]; omega) o fun H6 dv6 o6 => ?_
    refine h H6 dv6 ?_
    unfold toksG
    rw [← List.append_assoc]
    exact o6
end Go.Proofs.YtameljhbkedhjaaGreatDoor
namespace Go.Proofs.YtameljhbkedhjaaGreatDoor
open Go Go.Vc Go.Proofs
set_option linter.unusedVariables false
set_option linter.unusedSimpArgs false
variable {H H0 H' : Heap} {R : Value → Heap → Prop} {v : Value} {L : List It} {zs : List Int} {b : Nat} {B : List Bool}
def viewT (v : Value) (sz : Nat) (l : List Value) : Thing where
  foot k := blkOf v = some k
  holds H := Sl H v sz l ∧ l ≠ []
  frame h hf := ⟨h.1.frame hf, h.2⟩
  lt h hk := h.1.lt h.2 hk
theorem _root_.Go.Vc.Owns.view {y : Value} {sz sz' : Nat} {l l0 : List Value} (o : Owns H0 H (.sl y sz' l0 :: L)) (hs : Sl H v sz l) (hl : l ≠ []) (hb : ∀ k, blkOf v = some k → blkOf y = some k) : Owns H0 H (.thing (viewT v sz l) :: L) :=
  o.turn (i := .sl y sz' l0) (i' := .thing (viewT v sz l)) Rep.here (Nat.le_refl _) (fun _ _ _ => rfl) ⟨hs, hl⟩ (fun k hk => .inl (hb k hk))
theorem HasC.oneB {p : Value} (h : HasC L zs p) : oneCell p = true := by obtain ⟨_, _, _, _, _, rfl, _⟩ := h; rfl
theorem Rep.app {i j : It} {L L' : List It} (h : Rep i j L L') : ∀ M : List It, Rep i j (M ++ L) (M ++ L')
  | [] => h
  | m :: M => Rep.there (Rep.app h M)
theorem share_zero : ∀ (l : List Nat), (∀ j, l.getD j 0 = 0) → shareL l 15 = 0
  | [], h => rfl
  | a :: l, h => by
    have h0 := h 0
    simp at h0; subst h0
    have := share_zero l fun j => by simpa using h (j + 1)
    unfold shareL at this ⊢
    rw [List.map_cons, List.sum_cons, this]; rfl
theorem share_take {l : List Nat} {n : Nat} (h : ∀ j, n ≤ j → l.getD j 0 = 0) : shareL (l.take n) 15 = shareL l 15 := by
  have e : shareL l 15 = shareL (l.take n) 15 + shareL (l.drop n) 15 := by
    conv => lhs; rw [← List.take_append_drop n l]
    unfold shareL
    rw [List.map_append, List.sum_append]
  rw [e, share_zero (l.drop n) (fun j => by
    rw [List.getD_eq_getElem?_getD, List.getElem?_drop, ← List.getD_eq_getElem?_getD]
    exact h _ (by omega))]
  rfl
theorem natL_take (zs : List Int) (n : Nat) : natL (zs.take n) = (natL zs).take n := by unfold natL; rw [List.map_take]
theorem why_full {xs : List Int} {loose : Bool} (hz : okZ xs) (h : shareL (natL xs) 15 = 32768) : whyL xs loose = 0 := by
  rw [why_ok hz, if_neg (by omega), if_neg (by omega)]
theorem why_slack {xs : List Int} (hz : okZ xs) (h : shareL (natL xs) 15 ≤ 32768) (hs : slackL (natL xs) = true) : whyL xs true = 0 := by
  rw [why_ok hz, if_neg (by omega), if_neg (by rw [hs]; simp)]
theorem slack_of {l : List Nat} (hn : nzL l ≤ 1) (h1 : ∀ k ∈ l, k ≤ 1) : slackL l = true := by
  have e : cntL l 1 = nzL l := by
    unfold cntL nzL
    refine List.countP_congr fun k hk => ?_
    have := h1 k hk
    simp; omega
  unfold slackL
  rw [e]
  have : nzL l = 0 ∨ nzL l = 1 := by omega
  rcases this with h | h <;> simp [h]
theorem Told.sym : ∀ {es : List Ex} {out l : List Int}, Told out es l → ∀ e ∈ es, e.1 ≤ 18
  | [], out, l, h, e, he => by simp at he
  | u :: es, out, l, h, e, he => by
    rcases List.mem_cons.1 he with rfl | he
    · rcases h.1 with h | h | h | h <;> omega
    · exact h.2.sym e he
theorem take_getD {xs : List Int} {n s : Nat} (h : s < n) : (xs.take n).getD s 0 = xs.getD s 0 := by
  rw [List.getD_eq_getElem?_getD, List.getElem?_take_of_lt h, ← List.getD_eq_getElem?_getD]
theorem okZ_of {xs : List Int} (hl : xs.length ≤ 288) (h : ∀ s, 0 ≤ xs.getD s 0 ∧ xs.getD s 0 ≤ 15) : okZ xs := ⟨hl, fun z hz => by
  obtain ⟨i, hi, rfl⟩ := List.getElem_of_mem hz
  have := h i
  rwa [List.getD_eq_getElem?_getD, List.getElem?_eq_getElem hi] at this⟩
theorem syms_why {cs xs : List Int} {a : Nat} (hx : StrOk cs 15 xs) (hl : cs.length = 286) (hz : ∀ j, a ≤ j → xs.getD j 0 = 0) (ha : a ≤ 286) : whyL (xs.take a) false = 0 := by
  have hxl := hx.len
  refine why_full (okZ_of (by rw [List.length_take]; omega) fun s => ?_) ?_
  · by_cases h : s < a
    · rw [take_getD h]; exact hx.rng s
    · rw [List.getD_eq_getElem?_getD, List.getElem?_eq_none (by rw [List.length_take]; omega)]; simp
  · rw [natL_take, share_take (fun j hj => by rw [natL_getD0, hz j hj]; rfl), hx.share]
theorem dists_why {ds ys : List Int} {n : Nat} (hy : lensOk ds 15 ys) (hl : ds.length = 30) (hz : ∀ j, n ≤ j → ys.getD j 0 = 0) (hn : n ≤ 30) : whyL (ys.take n) true = 0 := by
  have hsl := suppU_len ds ds.length
  obtain ⟨f1, f2, f3, f4, f5⟩ := lensOk_facts hy (by decide) (by decide) (by rw [hl] at hsl; rw [hl]; omega)
  have hrng : ∀ s, 0 ≤ ys.getD s 0 ∧ ys.getD s 0 ≤ 15 := fun s => by
    by_cases hs : s < ds.length
    · have := f2 s hs
      split at this <;> omega
    · rw [List.getD_eq_getElem?_getD, List.getElem?_eq_none (by omega)]; simp
  have hok : okZ (ys.take n) := okZ_of (by rw [List.length_take]; omega) fun s => by
    by_cases h : s < n
    · rw [take_getD h]; exact hrng s
    · rw [List.getD_eq_getElem?_getD, List.getElem?_eq_none (by rw [List.length_take]; omega)]; simp
  have hsh : shareL (natL (ys.take n)) 15 = shareL (natL ys) 15 := by rw [natL_take, share_take (fun j hj => by rw [natL_getD0, hz j hj]; rfl)]
  by_cases h2 : 2 ≤ (suppU ds ds.length).length
  · exact why_full hok (by rw [hsh, f3 h2])
  · obtain ⟨g1, g2⟩ := f4 (by omega)
    refine why_slack hok (by rw [hsh, g1]; omega) (slack_of ?_ fun k hk => ?_)
    · have e : nzL (natL ys) = nzL ((natL ys).take n) + nzL ((natL ys).drop n) := by rw [← nzL_append, List.take_append_drop]
      rw [natL_take]; omega
    · unfold natL at hk
      rw [List.mem_map] at hk
      obtain ⟨z, hz, rfl⟩ := hk
      obtain ⟨i, hi, rfl⟩ := List.getElem_of_mem (List.mem_of_mem_take hz)
      have := g2 i (by omega)
      rw [List.getD_eq_getElem?_getD, List.getElem?_eq_getElem hi] at this
      show (ys[i]).toNat ≤ 1
      have h3 : ys[i] ≤ 1 := this
      omega
end Go.Proofs.YtameljhbkedhjaaGreatDoor
namespace Go.Proofs.YtameljhbkedhjaaGreatDoor
open Go Go.Vc Go.Proofs
set_option linter.unusedVariables false
set_option linter.unusedSimpArgs false
variable {H H0 : Heap} {R : Value → Heap → Prop} {v : Value} {zs : List Int} {ls : List Nat} {B : List Bool} {L : List It} {b : Nat} {post : List Value} {t : TypeId}
def ordV : List Value := orderL.map fun n : Nat => i64 n
abbrev ordN (i : Nat) : Nat := orderL.getD i 0
theorem ordV_get {i : Nat} (h : i < 19) : ordV[i]? = some (i64 (orderL.getD i 0)) := by
  unfold ordV
  rw [List.getElem?_map, List.getElem?_eq_getElem (by exact h), List.getD_eq_getElem?_getD, List.getElem?_eq_getElem (by exact h)]; rfl
theorem orderL_lt : ∀ i : Fin 19, orderL.getD i.val 0 < 19 := by decide
theorem teller_spec {c : Nat} (hG : Reads H0 ⟨1, 0, none⟩ ordV) (hc : c ≤ 19) (o : Owns H0 H (rdI b post t B :: L))
    (hok : ∀ l C H' M p, tellM (orderL.take c) (List.replicate 19 0) B = .ok l C → whyL l false = 0 → HasC M l p → Owns H0 H' (rdI b post t C :: (M ++ L)) → R (.tuple #[p, .int .i64 0]) H')
    (hwhy : ∀ l C H', tellM (orderL.take c) (List.replicate 19 0) B = .ok l C → whyL l false ≠ 0 → Owns H0 H' (rdI b post t C :: L) → R (.tuple #[.pointer none, .int .i64 (whyL l false)]) H')
    (her : ∀ e C H', tellM (orderL.take c) (List.replicate 19 0) B = .er e → e ≠ 0 → Owns H0 H' (rdI b post t C :: L) → R (.tuple #[.pointer none, .int .i64 e]) H') : CallsH Tryz.prog 101 #[at_ b 0, i64 c] H R := by
  generalize hT : tellM (orderL.take c) (List.replicate 19 0) B = T at *
  refine inflate_teller.vc _ _ _ _ ?_
  unfold inflate_teller.res
  refine o.make1 (n := 19) (by decide) (by decide) (by decide) fun y H1 o => ?_
  rw [show (19 : Int).toNat = 19 from rfl, numsV_rep] at o
  rw [pSlArr_v, pBounds_01]
  refine ⟨by omega, by omega, ?_⟩
  rw [Int.toNat_natCast, Nat.sub_zero, if_neg (by decide), add_mk, pLen_v]
  refine ⟨fun u H' => ∃ (i : Nat) (l : List Int) (C : List Bool), u = i64 i ∧ i ≤ c ∧ l.length = 19 ∧ tellM ((orderL.take c).drop i) l C = T ∧ Owns H0 H' (rdI b post t C :: .sl y 1 (numsV l) :: L), fun u _ => match u with | .int _ i => (c - i).toNat | _ => 0, ⟨0, _, B, rfl, by omega, by simp, hT, o.swap⟩, ?_⟩
  rintro _ _ H2 ⟨i, l, C, rfl, hi, hl, hk, o⟩
  rw [pLt_v]
  refine pCond_if (fun hc1 => ?_) (fun hc1 => ?_)
  · have hic : i < c := by omega
    rw [pIdxSl_v]
    refine ⟨by omega, by omega, ?_⟩
    have hcell := (hG.ext o.ext) i _ (ordV_get (by omega))
    rw [add_mk, Nat.zero_add] at hcell
    rw [add_mk, Int.toNat_natCast, show 0 + 0 + i * 1 = i by omega, pLoad_cell hcell]
    have hlt := orderL_lt ⟨i, by omega⟩
    dsimp only at hlt
    have hsp : (orderL.take c).drop i = orderL.getD i 0 :: (orderL.take c).drop (i + 1) := by
      have h1 : i < (orderL.take c).length := by rw [List.length_take]; show i < min c 19; omega
      rw [List.drop_eq_getElem_cons h1, List.getElem_take, List.getD_eq_getElem?_getD, List.getElem?_eq_getElem (by show i < 19; omega)]; rfl
    rw [hsp] at hk
    unfold tellM at hk
    refine need_spec (n := 3) (by decide) o (fun x C1 H3 hx hx8 o => ?_) (fun hx => ?_)
    · refine pExtract_to rfl ?_
      refine pExtract_to rfl ?_
      refine ne_ok ?_
      rw [pCond_false]
      have hll : (numsV l).length = 19 * 1 := by rw [numsV_len, hl]
      refine (o.sl (v := y) (by repeat (first | exact List.mem_cons_self | apply List.mem_cons_of_mem))).at_ hll (by decide) (by omega) (by omega) fun p hp => ?_
      refine o.store hp (by repeat (first | exact List.mem_cons_self | apply List.mem_cons_of_mem)) (by rw [hll]; omega) rfl (by repeat (first | exact Rep.here | apply Rep.there)) fun H4 o _ => ?_
      rw [Int.toNat_natCast, Nat.mul_one, numsV_set] at o
      rw [pAdd_v, w64 (by omega) (by omega)]
      rw [hx] at hk
      exact ⟨⟨i + 1, _, C1, rfl, by omega, by rw [List.length_set, hl], hk, o⟩, by show (_ : Int).toNat < (_ : Int).toNat; omega⟩
    · refine pExtract_to rfl ?_
      refine pExtract_to rfl ?_
      refine ne_er (by decide) ?_
      rw [pCond_true]
      rw [hx] at hk
      exact her 2 C H2 hk.symm (by decide) o.drop2
  · have hic : i = c := by omega
    subst hic
    rw [List.drop_of_length_le (by rw [List.length_take]; omega)] at hk
    refine newO_spec (zs := l) o (o.sl (v := y) (by repeat (first | exact List.mem_cons_self | apply List.mem_cons_of_mem))) (by omega) (fun H3 hw o => ?_) fun H3 M p hw hp o => ?_
    · refine pExtract_to rfl ?_
      refine pExtract_to rfl ?_
      exact hwhy l C H3 hk.symm hw o.drop2
    · refine pExtract_to rfl ?_
      refine pExtract_to rfl ?_
      refine hok l C H3 M p hk.symm hw hp ?_
      exact (o.mid).pick (List.Sublist.cons_cons _ (List.Sublist.append (List.Sublist.refl M) (List.sublist_cons_self _ L)))
theorem dynamic_spec (hG : Reads H0 ⟨1, 0, none⟩ ordV) (o : Owns H0 H (rdI b post t B :: L))
    (hok : ∀ p C H' M x y, dynM B = .ok p C → HasC M p.1 x → HasC M p.2 y → Owns H0 H' (rdI b post t C :: (M ++ L)) → R (.tuple #[x, y, .int .i64 0]) H')
    (her : ∀ e C H' x y, dynM B = .er e → e ≠ 0 → oneCell x = true → oneCell y = true → Owns H0 H' (rdI b post t C :: L) → R (.tuple #[x, y, .int .i64 e]) H') : CallsH Tryz.prog 87 #[at_ b 0] H R := by
  generalize hT : dynM B = T at *
  unfold dynM at hT
  refine inflate_dynamicCodes.vc _ _ _ ?_
  unfold inflate_dynamicCodes.res
  refine need_spec (n := 14) (by decide) o (fun x C1 H1 hx hx14 o => ?_) (fun hx => ?_)
  rotate_left
  · rw [hx] at hT
    refine pExtract_to rfl ?_
    refine pExtract_to rfl ?_
    refine ne_er (by decide) ?_
    rw [pCond_true]
    exact her 2 B H _ _ hT.symm (by decide) rfl rfl o
  rw [hx] at hT
  dsimp only [Rs.bind] at hT
  refine pExtract_to rfl ?_
  refine pExtract_to rfl ?_
  refine ne_ok ?_
  rw [pCond_false, pBits_v, and_i64 (k := 5) (m := 31) (by decide) rfl, show (2 : Nat) ^ 5 = 32 from rfl, pAdd_v, show ((x % 32 : Nat) : Int) + 257 = ((x % 32 + 257 : Nat) : Int) by omega, w64 (by omega) (by omega), pShr_v]
  refine ⟨by decide, ?_⟩
  rw [fdiv_nat (m := min (Int.toNat 5) IntKind.i64.bits) (j := 5) rfl, show (2 : Nat) ^ 5 = 32 from rfl, pBits_v, and_i64 (k := 5) (m := 31) (by decide) rfl, show (2 : Nat) ^ 5 = 32 from rfl, pAdd_v, show ((x / 32 % 32 : Nat) : Int) + 1 = ((x / 32 % 32 + 1 : Nat) : Int) by omega, w64 (by omega) (by omega), pShr_v]
  refine ⟨by decide, ?_⟩
  rw [fdiv_nat (m := min (Int.toNat 10) IntKind.i64.bits) (j := 10) rfl, show (2 : Nat) ^ 10 = 1024 from rfl, pAdd_v, show ((x / 1024 : Nat) : Int) + 4 = ((x / 1024 + 4 : Nat) : Int) by omega, w64 (by omega) (by omega), pGt_v]
  have ha : 257 ≤ x % 32 + 257 := by omega
  have hcc : x / 1024 + 4 ≤ 19 := by omega
  have ha3 : x % 32 + 257 ≤ 288 := by omega
  have hd3 : x / 32 % 32 + 1 ≤ 32 := by omega
  generalize x % 32 + 257 = a at *
  generalize x / 32 % 32 + 1 = d at *
  generalize x / 1024 + 4 = c at *
  refine pOr_if (d := decide ((30 : Int) < (d : Int))) (fun _ => ?_) ?_
  · rw [pGt_v]; exact ⟨rfl, rfl⟩
  intro _
  refine pCond_b (fun hb => ?_) (fun hb => ?_)
  · rw [Bool.or_eq_true, decide_eq_true_eq, decide_eq_true_eq] at hb
    rw [if_pos (by omega)] at hT
    exact her 20 C1 H1 _ _ hT.symm (by decide) rfl rfl o
  rw [Bool.or_eq_false_iff, decide_eq_false_iff_not, decide_eq_false_iff_not] at hb
  rw [if_neg (by omega)] at hT
  have ha2 : a ≤ 286 := by omega
  have hd2 : d ≤ 30 := by omega
  refine teller_spec hG hcc o (fun tl C2 H2 M p ht hw hp o => ?_) (fun tl C2 H2 ht hw o => ?_) (fun e C2 H2 ht he o => ?_)
  rotate_left
  · rw [ht] at hT
    dsimp only [Rs.bind] at hT
    rw [if_pos hw] at hT
    refine pExtract_to rfl ?_
    refine pExtract_to rfl ?_
    refine ne_er hw ?_
    rw [pCond_true]
    exact her _ C2 H2 _ _ hT.symm hw rfl rfl o
  · rw [ht] at hT
    refine pExtract_to rfl ?_
    refine pExtract_to rfl ?_
    refine ne_er he ?_
    rw [pCond_true]
    exact her e C2 H2 _ _ hT.symm he rfl rfl o
  rw [ht] at hT
  dsimp only [Rs.bind] at hT
  rw [if_neg (fun g => g hw)] at hT
  refine pExtract_to rfl ?_
  refine pExtract_to rfl ?_
  refine ne_ok ?_
  rw [pCond_false, pAdd_v, show (a : Int) + (d : Int) = ((a + d : Nat) : Int) by omega, w64 (by omega) (by omega)]
  refine lengths_spec7 (n := a + d) (by omega) hp.appl o (fun l C3 lv H3 hl hll o => ?_) (fun e C3 H3 hl he o => ?_)
  rotate_left
  · rw [hl] at hT
    refine pExtract_to rfl ?_
    refine pExtract_to rfl ?_
    refine ne_er he ?_
    rw [pCond_true]
    exact her e C3 H3 _ _ hT.symm he rfl rfl (o.pick (List.Sublist.cons_cons _ (List.sublist_append_right M L)))
  rw [hl] at hT
  dsimp only [Rs.bind] at hT
  refine pExtract_to rfl ?_
  refine pExtract_to rfl ?_
  refine ne_ok ?_
  rw [pCond_false]
  have hlen : (numsV l).length = (a + d) * 1 := by rw [numsV_len, hll]; omega
  have hS := o.sl (v := lv) (by repeat (first | exact List.mem_cons_self | apply List.mem_cons_of_mem))
  have oL : Owns H0 H3 (rdI b post t C3 :: L) := o.pick (List.Sublist.cons_cons _ (List.Sublist.cons _ (List.sublist_append_right M L)))
  refine hS.at_ (n := a + d) hlen (by decide) (by decide) (by omega) fun p hp => ?_
  refine hp.load hS (w := .int .i64 (l.getD 256 0)) (numsV_getD (by rw [hll]; show 256 < a + d; omega)) ?_
  rw [pEq_0]
  refine pCond_if (fun hc5 => ?_) (fun hc5 => ?_)
  · rw [if_pos hc5] at hT
    exact her 12 C3 H3 _ _ hT.symm (by decide) rfl rfl oL
  rw [if_neg hc5] at hT
  refine hS.cut (by decide) (n := a + d) (lo := 0) (hi := a) hlen (by omega) (by omega) (fun v1 h1 => ?_) (.inr ⟨rfl, rfl⟩) (.inl rfl)
  rw [Nat.zero_mul, List.drop_zero, Nat.sub_zero, Nat.mul_one, numsV_take] at h1
  refine newO_spec (zs := l.take a) o h1 (by rw [List.length_take]; omega) (fun H4 hw1 o => ?_) (fun H4 M1 p1 hw1 hp1 o => ?_)
  · rw [if_pos hw1] at hT
    refine pExtract_to rfl ?_
    refine pExtract_to rfl ?_
    refine ne_er hw1 ?_
    rw [pCond_true]
    exact her _ C3 H4 _ _ hT.symm hw1 rfl rfl (o.pick (List.Sublist.cons_cons _ (List.Sublist.cons _ (List.sublist_append_right M L))))
  rw [if_neg (fun g => g hw1)] at hT
  refine pExtract_to rfl ?_
  refine pExtract_to rfl ?_
  refine ne_ok ?_
  rw [pCond_false]
  have hS4 := o.sl (v := lv) (List.mem_append_right _ (by repeat (first | exact List.mem_cons_self | apply List.mem_cons_of_mem)))
  refine hS4.cut (by decide) (n := a + d) (lo := a) (hi := a + d) hlen (by omega) (by omega) (fun v2 h2 => ?_) (.inl rfl) (.inr ⟨rfl, rfl⟩)
  rw [Nat.mul_one, Nat.mul_one, numsV_drop, List.take_of_length_le (by rw [numsV_len, List.length_drop]; omega)] at h2
  have o := (o.mid).pick (List.Sublist.cons_cons (rdI b post t C3) (List.Sublist.append (List.Sublist.refl M1) (List.Sublist.cons _ (List.sublist_append_right M L))))
  refine newO_spec (zs := l.drop a) o h2 (by rw [List.length_drop]; omega) (fun H5 hw2 o => ?_) (fun H5 M2 p2 hw2 hp2 o => ?_)
  · rw [if_pos hw2] at hT
    refine pExtract_to rfl ?_
    refine pExtract_to rfl ?_
    obtain ⟨-, cb, _, _, _, rfl, -⟩ := hp1
    exact her _ C3 H5 _ _ hT.symm hw2 rfl rfl (o.pick (List.Sublist.cons_cons _ (List.sublist_append_right M1 L)))
  · rw [if_neg (fun g => g hw2)] at hT
    refine pExtract_to rfl ?_
    refine pExtract_to rfl ?_
    refine hok _ C3 H5 (M2 ++ M1) p1 p2 hT.symm hp1.app hp2.appl ?_
    rw [List.append_assoc]
    exact o.mid
end Go.Proofs.YtameljhbkedhjaaGreatDoor
namespace Go.Proofs.YtameljhbkedhjaaGreatDoor
open Go Go.Vc Go.Proofs
set_option linter.unusedVariables false
set_option linter.unusedSimpArgs false
variable {H : Heap} {R : Value → Heap → Prop}
structure Ring (ring all : List UInt8) : Prop where
  len : ring.length = min all.length 32768
  at_ : ∀ i, i < all.length → all.length ≤ i + 32768 → ring[i % 32768]? = all[i]?
structure Win (H : Heap) (b : Nat) (rv : Value) (all : List UInt8) : Prop where
  blk : H[b]? = some (.cells #[rv, .int .i64 all.length] 70 (0, 0))
  ring : ∃ ring, Own H rv 1 (ring.map byteV) ∧ Ring ring all
  ne : blkOf rv ≠ some b
  size : all.length ≤ 1099511627776
structure Step (b : Nat) (rv : Value) (H : Heap) (rv' : Value) (H' : Heap) : Prop where
  size : H.size ≤ H'.size
  same : ∀ i, i < H.size → i ≠ b → blkOf rv ≠ some i → H'[i]? = H[i]?
  blk : ∀ k, blkOf rv' = some k → blkOf rv = some k ∨ H.size ≤ k
theorem Step.refl {b : Nat} {rv : Value} : Step b rv H rv H := ⟨Nat.le_refl _, fun _ _ _ _ => rfl, fun _ h => .inl h⟩
theorem Step.trans {b : Nat} {rv rv' rv'' : Value} {H H' H'' : Heap} (h : Step b rv H rv' H') (k : Step b rv' H' rv'' H'') : Step b rv H rv'' H'' :=
  ⟨Nat.le_trans h.size k.size, fun i hi hb hr => (k.same i (Nat.lt_of_lt_of_le hi h.size) hb (fun e => by
      rcases h.blk i e with h' | h'
      · exact hr h'
      · omega)).trans (h.same i hi hb hr), fun j hj => by
    rcases k.blk j hj with h' | h'
    · exact h.blk j h'
    · right; have := h.size; omega⟩
theorem Step.ext {A H H' : Heap} {b : Nat} {rv rv' : Value} (h : Step b rv H rv' H') (hx : Ext A H) (hb : A.size ≤ b) (hr : ∀ k, blkOf rv = some k → A.size ≤ k) : Ext A H' ∧ ∀ k, blkOf rv' = some k → A.size ≤ k :=
  ⟨⟨Nat.le_trans hx.size h.size, fun i hi => (h.same i (Nat.lt_of_lt_of_le hi hx.size) (by omega) (fun e => by have := hr i e; omega)).trans (hx.get i hi)⟩, fun k hk => by
    rcases h.blk k hk with h' | h'
    · exact hr k h'
    · have := hx.size; omega⟩
theorem Win.ext {H H' : Heap} {b : Nat} {rv : Value} {all : List UInt8} (h : Win H b rv all) (hx : Ext H H') : Win H' b rv all := by
  obtain ⟨ring, ho, hr⟩ := h.ring
  exact ⟨hx.blk h.blk, ⟨ring, ho.ext hx, hr⟩, h.ne, h.size⟩
variable {b : Nat} {rv : Value} {all : List UInt8}
end Go.Proofs.YtameljhbkedhjaaGreatDoor
namespace Go.Proofs.YtameljhbkedhjaaGreatDoor
open Go Go.Vc Go.Proofs
set_option linter.unusedVariables false
set_option linter.unusedSimpArgs false
variable {H H0 : Heap} {R : Value → Heap → Prop} {v : Value} {zs : List Int} {ls : List Nat} {B : List Bool} {L : List It} {b : Nat} {q : List Value} {t : TypeId} {all : List UInt8}
def WinO (H0 H : Heap) (b : Nat) (q : List Value) (t : TypeId) (B : List Bool) (all : List UInt8) (L : List It) : Prop :=
  ∃ rv ring, Ring ring all ∧ all.length ≤ 1099511627776 ∧ Owns H0 H (rdI b (rv :: i64 all.length :: q) t B :: .sl rv 1 (ring.map byteV) :: L)
theorem ring_len (ring : List UInt8) : (ring.map byteV).length = ring.length * 1 := by simp
theorem wlen7 (w : WinO H0 H b q t B all L) (h : R (i64 (min all.length 32768)) H) : CallsH Tryz.prog 118 #[at_ b 3] H R := by
  obtain ⟨rv, ring, hr, hs, o⟩ := w
  refine window_Window_Len.vc _ _ _ ?_
  unfold window_Window_Len.res
  rw [pEq_3s, pCond_false, pNil_v, pFieldAddr_v, add_mk]
  refine o.pl (by repeat (first | exact List.mem_cons_self | apply List.mem_cons_of_mem)) (by decide) rfl ?_
  refine o.len1 (v := rv) (by repeat (first | exact List.mem_cons_self | apply List.mem_cons_of_mem)) ?_
  rw [List.length_map, hr.len]; exact h
theorem wput7 {x : UInt8} (w : WinO H0 H b q t B all L) (hsz : all.length < 1099511627776) (h : ∀ H', WinO H0 H' b q t B (all ++ [x]) L → R (.tuple #[]) H') : CallsH Tryz.prog 92 #[at_ b 3, byteV x] H R := by
  obtain ⟨rv, ring, hr, hs, o⟩ := w
  have hlen := hr.len
  refine window_Window_Put.vc _ _ _ _ ?_
  unfold window_Window_Put.res
  rw [pEq_3s, pCond_false]
  refine ⟨fun H' => ∃ rv' ring', Ring ring' (all ++ [x]) ∧ Owns H0 H' (rdI b (rv' :: i64 all.length :: q) t B :: .sl rv' 1 (ring'.map byteV) :: L), ?_, ?_⟩
  · rintro _ H1 ⟨rv', ring', hr1, o⟩
    rw [pNil_v, pFieldAddr_v, add_mk]
    refine o.pl (by repeat (first | exact List.mem_cons_self | apply List.mem_cons_of_mem)) (by decide) rfl ?_
    rw [pAdd_v, w64 (by omega) (by omega), pNil_v, pFieldAddr_v, add_mk]
    refine o.ps (g := 3 + 1) Rep.here (by decide) (by simp) rfl fun H2 o _ => ?_
    refine h H2 ⟨rv', ring', hr1, by rw [List.length_append, List.length_singleton]; omega, ?_⟩
    have e : i64 (all ++ [x]).length = .int .i64 ((all.length : Int) + 1) := by rw [List.length_append, List.length_singleton]; rfl
    rw [e]
    exact o
  · rw [pNil_v, pFieldAddr_v, add_mk]
    refine o.pl (by repeat (first | exact List.mem_cons_self | apply List.mem_cons_of_mem)) (by decide) rfl ?_
    refine o.len1 (v := rv) (by repeat (first | exact List.mem_cons_self | apply List.mem_cons_of_mem)) ?_
    rw [List.length_map, pLt_v]
    refine pCond_if (fun hc => ?_) (fun hc => ?_)
    · rw [pNil_v, pFieldAddr_v, add_mk]
      refine o.pl (by repeat (first | exact List.mem_cons_self | apply List.mem_cons_of_mem)) (by decide) rfl ?_
      refine o.build1 (by decide) rfl rfl fun y H1 o => ?_
      refine o.app (v := rv) (x := y) (by repeat (first | exact Sel.here | apply Sel.there)) (o.sl (by repeat (first | exact List.mem_cons_self | apply List.mem_cons_of_mem))) (by rfl) (by rw [List.length_map]; show 2 * (ring.length + 1) * 1 ≤ _; omega) fun y2 H2 o => ?_
      rw [pNil_v, pFieldAddr_v, add_mk]
      have hy2 := (o.sl (v := y2) (by repeat (first | exact List.mem_cons_self | apply List.mem_cons_of_mem))).one
      refine o.ps (b := b) (post := rv :: i64 all.length :: q) (t := t) (B := B) (g := 3 + 0) (by repeat (first | exact Rep.here | apply Rep.there)) (by decide) (by simp) hy2 fun H3 o _ => ?_
      have hring : ring = all := by
        apply List.ext_getElem?
        intro i
        by_cases hi : i < all.length
        · rw [← hr.at_ i hi (by omega), Nat.mod_eq_of_lt (by omega)]
        · rw [List.getElem?_eq_none (by omega), List.getElem?_eq_none (by omega)]
      subst hring
      refine ⟨y2, ring ++ [x], ⟨by simp; omega, fun i hi _ => by rw [Nat.mod_eq_of_lt (by simp at hi; omega)]⟩, ?_⟩
      rw [List.map_append]
      exact o.drop2.swap
    · have hall : 32768 ≤ all.length := by omega
      rw [pNil_v, pFieldAddr_v, add_mk]
      refine o.pl (by repeat (first | exact List.mem_cons_self | apply List.mem_cons_of_mem)) (by decide) rfl ?_
      rw [pNil_v, pFieldAddr_v, add_mk]
      refine o.pl (by repeat (first | exact List.mem_cons_self | apply List.mem_cons_of_mem)) (by decide) rfl ?_
      rw [pRem_v]
      refine ⟨by decide, ?_⟩
      rw [Int.tmod_eq_emod_of_nonneg (by omega)]
      have hm : ((all.length : Int) % 32768).toNat * 1 = all.length % 32768 := by omega
      refine (o.sl (v := rv) (by repeat (first | exact List.mem_cons_self | apply List.mem_cons_of_mem))).at_ (ring_len ring) (by decide) (by omega) (by omega) fun p hp => ?_
      refine o.store hp (by repeat (first | exact List.mem_cons_self | apply List.mem_cons_of_mem)) (by rw [List.length_map]; omega) rfl (by repeat (first | exact Rep.here | apply Rep.there)) fun H1 o _ => ?_
      rw [hm] at o
      refine ⟨rv, ring.set (all.length % 32768) x, ⟨by simp; omega, fun i hi hi2 => ?_⟩, by rw [List.map_set]; exact o⟩
      rw [List.length_append, List.length_singleton] at hi hi2
      by_cases he : i = all.length
      · subst he
        rw [List.getElem?_set_self (by omega), List.getElem?_append_right (Nat.le_refl _), Nat.sub_self]
        rfl
      · rw [List.getElem?_set_ne (by omega), List.getElem?_append_left (by omega)]
        exact hr.at_ i (by omega) (by omega)
theorem wback7 {d : Int} (w : WinO H0 H b q t B all L) (hd1 : 1 ≤ d) (hd2 : d ≤ (min all.length 32768 : Nat)) (h : R (.tuple #[byteV (all.getD (all.length - d.toNat) 0), .bool true]) H) : CallsH Tryz.prog 119 #[at_ b 3, .int .i64 d] H R := by
  have w0 := w
  obtain ⟨rv, ring, hr, hs, o⟩ := w
  refine window_Window_Back.vc _ _ _ _ ?_
  unfold window_Window_Back.res
  rw [pLt_v, decide_eq_false (by omega)]
  refine pOr_false ?_
  refine wlen7 w0 ?_
  rw [pGt_v, decide_eq_false (by omega)]
  intro _
  rw [pCond_false, pNil_v, pFieldAddr_v, add_mk]
  refine o.pl (by repeat (first | exact List.mem_cons_self | apply List.mem_cons_of_mem)) (by decide) rfl ?_
  rw [pNil_v, pFieldAddr_v, add_mk]
  refine o.pl (by repeat (first | exact List.mem_cons_self | apply List.mem_cons_of_mem)) (by decide) rfl ?_
  rw [pSub_v, w64 (by omega) (by omega), pRem_v]
  refine ⟨by decide, ?_⟩
  rw [Int.tmod_eq_emod_of_nonneg (by omega)]
  have hlen := hr.len
  have hm : (((all.length : Int) - d) % 32768).toNat * 1 = (all.length - d.toNat) % 32768 := by omega
  have hS := o.sl (v := rv) (by repeat (first | exact List.mem_cons_self | apply List.mem_cons_of_mem))
  refine hS.at_ (ring_len ring) (by decide) (by omega) (by omega) fun p hp => ?_
  refine hp.load hS (w := byteV (all.getD (all.length - d.toNat) 0)) ?_ h
  rw [hm, List.getElem?_map, hr.at_ _ (by omega) (by omega), List.getElem?_eq_getElem (by omega), List.getD_eq_getElem?_getD, List.getElem?_eq_getElem (by omega)]
  rfl
theorem wadd7 {s : List UInt8} (w : WinO H0 H b q t B all L) (hsz : all.length + s.length ≤ 1099511627776) (h : ∀ H', WinO H0 H' b q t B (all ++ s) L → R (.tuple #[]) H') : CallsH Tryz.prog 88 #[at_ b 3, str s] H R := by
  refine window_Window_Add.vc _ _ _ _ ?_
  unfold window_Window_Add.res
  refine pLenS_to ?_
  refine ⟨fun v H' => ∃ (i : Nat), v = .int .i64 i ∧ i ≤ s.length ∧ WinO H0 H' b q t B (all ++ s.take i) L, fun v _ => match v with | .int _ i => (s.length - i).toNat | _ => 0, ⟨0, rfl, by omega, by simpa using w⟩, ?_⟩
  rintro _ _ H1 ⟨i, rfl, hi, w⟩
  rw [pLt_v]
  refine pCond_if (fun hc => ?_) (fun hc => ?_)
  · rw [pIdxStr_v, bys_mk]
    refine ⟨by omega, by omega, ?_⟩
    rw [Int.toNat_natCast]
    refine wput7 w (by rw [List.length_append, List.length_take]; omega) fun H2 w => ?_
    rw [pAdd_v, w64 (by omega) (by omega)]
    refine ⟨⟨i + 1, rfl, by omega, ?_⟩, by show (_ : Int).toNat < (_ : Int).toNat; omega⟩
    rw [List.take_add_one, List.getElem?_eq_getElem (by omega), ← List.append_assoc]
    rw [List.getD_eq_getElem?_getD, List.getElem?_eq_getElem (by omega)] at w
    exact w
  · have : i = s.length := by omega
    subst this
    rw [List.take_length] at w
    exact h _ w
theorem wcopy_no7 {n d : Nat} (w : WinO H0 H b q t B all L) (hn : n ≤ 258) (hno : d < 1 ∨ min all.length 32768 < d) (h : R (.tuple #[str [], .bool false]) H) : CallsH Tryz.prog 105 #[at_ b 3, i64 n, i64 d] H R := by
  refine window_Window_Copy.vc _ _ _ _ _ ?_
  unfold window_Window_Copy.res
  rw [pLt_v, decide_eq_false (by omega)]
  refine pOr_false ?_
  rw [pGt_v, decide_eq_false (by omega)]
  intro _
  refine pOr_false ?_
  rw [pLt_v]
  intro _
  refine pOr_if (d := decide (((min all.length 32768 : Nat) : Int) < d)) (fun _ => ?_) ?_
  · refine wlen7 w ?_
    rw [pGt_v]
    exact ⟨rfl, rfl⟩
  intro _
  refine pCond_b (fun _ => h) (fun hc => ?_)
  simp only [Bool.or_eq_false_iff, decide_eq_false_iff_not] at hc
  omega
theorem WinO.slow {i : It} (w : WinO H0 H b q t B all (i :: L)) : ∃ rv ring, Ring ring all ∧ all.length ≤ 1099511627776 ∧ Owns H0 H (i :: rdI b (rv :: i64 all.length :: q) t B :: .sl rv 1 (ring.map byteV) :: L) := by
  obtain ⟨rv, ring, hr, hs, o⟩ := w
  refine ⟨rv, ring, hr, hs, o.perm ?_⟩
  exact List.Perm.trans (List.Perm.swap ..) (List.Perm.cons _ (List.Perm.swap ..))
theorem WinO.fast {i : It} {rv : Value} {ring : List UInt8} (hr : Ring ring all) (hs : all.length ≤ 1099511627776) (o : Owns H0 H (i :: rdI b (rv :: i64 all.length :: q) t B :: .sl rv 1 (ring.map byteV) :: L)) : WinO H0 H b q t B all (i :: L) := by
  refine ⟨rv, ring, hr, hs, o.perm ?_⟩
  exact List.Perm.trans (List.Perm.cons _ (List.Perm.swap ..)) (List.Perm.swap ..)
theorem wcopy7 {n d : Nat} (w : WinO H0 H b q t B all L) (hn1 : n ≤ 258) (hd0 : 1 ≤ d) (hd1 : d ≤ min all.length 32768) (hsz : all.length + 258 ≤ 1099511627776)
    (h : ∀ H', WinO H0 H' b q t B (copyN n all d) L → R (.tuple #[str ((copyN n all d).drop all.length), .bool true]) H') : CallsH Tryz.prog 105 #[at_ b 3, i64 n, i64 d] H R := by
  refine window_Window_Copy.vc _ _ _ _ _ ?_
  unfold window_Window_Copy.res
  rw [pLt_v, decide_eq_false (by omega)]
  refine pOr_false ?_
  rw [pGt_v, decide_eq_false (by omega)]
  intro _
  refine pOr_false ?_
  rw [pLt_v, decide_eq_false (by omega)]
  intro _
  refine pOr_false ?_
  refine wlen7 w ?_
  rw [pGt_v, decide_eq_false (by omega)]
  intro _
  rw [pCond_false]
  obtain ⟨rv, ring, hr, hs, o⟩ := w
  refine o.make1 (by omega) (by omega) (by omega) fun ov H1 o => ?_
  rw [Int.toNat_natCast] at o
  have w := WinO.fast hr hs o
  refine o.len1 (v := ov) (by repeat (first | exact List.mem_cons_self | apply List.mem_cons_of_mem)) ?_
  rw [List.length_replicate]
  refine ⟨fun v H' => ∃ (i : Nat) (out : List Value), v = .int .i64 i ∧ i ≤ n ∧ WinO H0 H' b q t B (copyN i all d) (.sl ov 1 out :: L) ∧ out.length = n ∧ out.take i = ((copyN i all d).drop all.length).map byteV,
    fun v _ => match v with | .int _ i => (n - i).toNat | _ => 0, ⟨0, _, rfl, by omega, w, by simp, by simp [copyN]⟩, ?_⟩
  rintro _ _ H2 ⟨i, out, rfl, hi, w2, hol, hot⟩
  have hl := copyN_len i all d
  rw [pLt_v]
  refine pCond_if (fun hc => ?_) (fun hc => ?_)
  · refine wback7 (d := d) w2 (by omega) (by rw [hl]; omega) ?_
    refine pExtract_to rfl ?_
    refine pExtract_to rfl ?_
    rw [Int.toNat_natCast]
    generalize hx : (copyN i all d).getD ((copyN i all d).length - d) 0 = x
    obtain ⟨rv, ring, hr, hs2, o⟩ := w2.slow
    refine (o.sl (v := ov) (by repeat (first | exact List.mem_cons_self | apply List.mem_cons_of_mem))).at_ (n := n) (by omega) (by decide) (by omega) (by omega) fun p hp => ?_
    refine o.store hp (by repeat (first | exact List.mem_cons_self | apply List.mem_cons_of_mem)) (by omega) rfl (by repeat (first | exact Rep.here | apply Rep.there)) fun H3 o _ => ?_
    rw [Int.toNat_natCast, Nat.mul_one] at o
    have hS := o.sl (v := ov) (by repeat (first | exact List.mem_cons_self | apply List.mem_cons_of_mem))
    refine hS.at_ (n := n) (by rw [List.length_set]; omega) (by decide) (by omega) (by omega) fun p hp => ?_
    refine hp.load hS (w := byteV x) (by rw [Int.toNat_natCast, Nat.mul_one, List.getElem?_set_self (by omega)]) ?_
    refine wput7 (WinO.fast hr hs2 o) (by rw [hl]; omega) fun H4 w => ?_
    rw [pAdd_v, w64 (by omega) (by omega)]
    refine ⟨⟨i + 1, out.set i (byteV x), rfl, by omega, ?_, by simpa using hol, ?_⟩, by show (_ : Int).toNat < (_ : Int).toNat; omega⟩
    · rw [copyN_end, hx]; exact w
    · rw [copyN_end, hx, List.drop_append_of_le_length (by rw [hl]; omega), List.map_append, ← hot]
      rw [List.take_add_one, List.getElem?_set_self (by omega), List.take_set_of_le (by omega)]
      rfl
  · have hi2 : i = n := by omega
    subst hi2
    rw [List.take_of_length_le (by omega)] at hot
    rw [hot] at w2
    obtain ⟨rv, ring, hr, hs2, o⟩ := w2.slow
    refine Sl.str (o.sl (v := ov) (by repeat (first | exact List.mem_cons_self | apply List.mem_cons_of_mem))) ?_
    exact h _ ⟨rv, ring, hr, hs2, o.pick (List.sublist_cons_self _ _)⟩
theorem WinO.pl {K : Value → Prop} {g : Nat} {x : Value} (w : WinO H0 H b q t B all L) (h5 : 5 ≤ g) (hx : q[g - 5]? = some x) (hk : K x) : pLoad H (at_ b g) K := by
  obtain ⟨rv, ring, hr, hs, o⟩ := w
  refine o.pl (w := x) (by repeat (first | exact List.mem_cons_self | apply List.mem_cons_of_mem)) (by omega) ?_ hk
  obtain ⟨j, rfl⟩ : ∃ j, g = j + 5 := ⟨g - 5, by omega⟩
  simp only [Nat.add_sub_cancel] at hx
  rw [show j + 5 - 3 = j + 1 + 1 by omega]
  exact hx
theorem WinO.ps {K : Value → Heap → Prop} {g : Nat} {x : Value} (w : WinO H0 H b q t B all L) (h5 : 5 ≤ g) (hg : g - 5 < q.length) (hx : oneCell x = true) (hk : ∀ H', WinO H0 H' b (q.set (g - 5) x) t B all L → K undef H') : pStore H (at_ b g) x K := by
  obtain ⟨rv, ring, hr, hs, o⟩ := w
  refine o.ps (g := g) Rep.here (by omega) (by simp; omega) hx fun H' o _ => hk H' ⟨rv, ring, hr, hs, ?_⟩
  obtain ⟨j, rfl⟩ : ∃ j, g = j + 5 := ⟨g - 5, by omega⟩
  rw [show j + 5 - 3 = j + 1 + 1 by omega] at o
  exact o
end Go.Proofs.YtameljhbkedhjaaGreatDoor
set_option linter.unusedVariables false
namespace Go.Proofs
open Go.Shelf Go.RowKit
set_option maxHeartbeats 1000000 in
set_option maxRecDepth 100000 in
theorem Tryz.copyCheck_used (b f : Nat) (w : World) (h0 : w.cell? ⟨b, f, none⟩ = some (.pointer (some ⟨b, f, none⟩))) :
    Calls Tryz.prog 103 #[.pointer (some ⟨b, f, none⟩)] w fun e w' => e = .returned (.tuple #[]) ∧ w' = w := by
  obtain ⟨j, hj, hjs⟩ := Option.map_eq_some_iff.1 (show (Tryz.prog.info? 73).map (·.size) = some 2 by kernel_rfl)
  go_enter Tryz.func103, Tryz.f103
  go_wp2
  rw [Lib.run_neq_ptr_same w _ Tryz.underlying71 hj]
  go_wp2
  go_end0
  exact ⟨rfl, rfl⟩
set_option maxHeartbeats 1000000 in
set_option maxRecDepth 100000 in
theorem Tryz.copyCheck_fresh (b : Nat) (w : World) (h0 : w.cell? ⟨b, 5, none⟩ = some (.pointer none)) (hsh : w.shape? b = some (76, 14)) (hfz : w.frozen? ⟨b, 5, none⟩ = false) :
    Calls Tryz.prog 103 #[.pointer (some ⟨b, 5, none⟩)] w fun e w' => e = .returned (.tuple #[]) ∧ w' = w.setCell ⟨b, 5, none⟩ (.pointer (some ⟨b, 5, none⟩)) := by
  obtain ⟨j, hj, hjs⟩ := Option.map_eq_some_iff.1 (show (Tryz.prog.info? 73).map (·.size) = some 2 by kernel_rfl)
  have hlies : liesAt Tryz.prog Tryz.prog.depth 76 (14 / Tryz.prog.cellsOf 76) 5 73 1 = true := by kernel_rfl
  go_enter Tryz.func103, Tryz.f103
  go_wp2
  rw [Lib.run_to_unsafe w ⟨b, 5, none⟩ Tryz.underlying71 Tryz.underlying175 hj (by rw [hjs]; decide) hsh (show 5 < 14 by decide)]
  simp only [Result.andThen]
  rw [Oper.upon_value]
  go_wp2
  rw [run_callFunc_extern Tryz.func117 (by kernel_rfl) (by kernel_rfl) (by kernel_rfl) (e := Extern.AbiNoEscape.same) (by kernel_rfl)]
  rw [Lib.run_noEscape]
  simp only [Result.andThen]
  rw [Oper.upon_value]
  go_wp2
  rw [Lib.run_from_unsafe w ⟨b, 5, none⟩ Tryz.underlying175 Tryz.underlying71 hj hsh hlies]
  simp only [Result.andThen]
  rw [Oper.upon_value]
  go_wp2
  go_end0
  exact ⟨rfl, rfl⟩
set_option maxHeartbeats 1000000 in
set_option maxRecDepth 100000 in
theorem Tryz.String_some (b g cap : Nat) (cur : Array Value) (fr : Nat × Nat) (l : List UInt8) (w : World) (h1 : w.cell? ⟨b, 6, none⟩ = some (.slice (some ⟨g, 0, none⟩) l.length cap)) (hg : w.heap[g]? = some (.cells cur 5 fr)) (h0 : l ≠ []) (hl : l.length ≤ cap) (hm : l.length ≤ 9223372036854775807) (hn : l.length ≤ cur.size)
    (hc : ∀ (j : Nat) (x : UInt8), l[j]? = some x → cur[j]? = some (Value.int .u8 x.toNat)) :
    Calls Tryz.prog 31 #[.pointer (some ⟨b, 5, none⟩)] w fun e w' => e = .returned (.string ⟨l.toArray⟩) ∧ w' = w.drew.freeze ⟨g, 0, none⟩ l.length := by
  have hl0 : l.length ≠ 0 := by simpa using h0
  have c1 : w.drew.cell? ⟨b, 6, none⟩ = some (.slice (some ⟨g, 0, none⟩) l.length cap) := h1
  have hSD : (Builtin.unsafeSliceData_ #[24 ] 116 #[.slice (some ⟨g, 0, none⟩) l.length cap]).run Tryz.prog w.drew = .ok (.pointer (some ⟨g, 0, none⟩)) w.drew :=
    Lib.run_unsafeSliceData_row _ _ _ _ _ _ (by omega)
  have hUS : (Builtin.unsafeString_ #[116, 3 ] 9 #[.pointer (some ⟨g, 0, none⟩), .int .i64 l.length]).run Tryz.prog w.drew = .ok (.string ⟨l.toArray⟩) (w.drew.freeze ⟨g, 0, none⟩ l.length) := by
    refine Lib.run_unsafeString_row w.drew 116 3 9 5 Tryz.underlying116 (by kernel_rfl) g cur.size (by have hg' : w.drew.heap[g]? = some (.cells cur 5 fr) := hg; simp [World.shape?, hg']) l h0 hn hm ?_
    intro j x hx
    have hg' : w.drew.heap[g]? = some (.cells cur 5 fr) := hg
    have := hc j x hx
    rw [show (⟨g, 0, none⟩ : Addr).add j = ⟨g, j, none⟩ from by cases j <;> simp [Addr.add], Lib.cell_of_heap hg']
    exact this
  go_enter Tryz.func31, Tryz.f31
  go_wp2
  go_region
  all_goals (go_wp2; go_ret; exact ⟨rfl, rfl⟩)
set_option maxHeartbeats 1000000 in
set_option maxRecDepth 100000 in
theorem Tryz.String_nil (b : Nat) (w : World) (h1 : w.cell? ⟨b, 6, none⟩ = some (.slice none 0 0)) :
    Calls Tryz.prog 31 #[.pointer (some ⟨b, 5, none⟩)] w fun e w' => e = .returned (.string ⟨#[]⟩) ∧ w' = w.drew := by
  have c1 : w.drew.cell? ⟨b, 6, none⟩ = some (.slice none 0 0) := h1
  have hSD : (Builtin.unsafeSliceData_ #[24 ] 116 #[.slice none 0 0]).run Tryz.prog w.drew = .ok (.pointer none) w.drew := rfl
  have hUS : ∀ (W : World) (q : Option Addr), (Builtin.unsafeString_ #[116, 3 ] 9 #[.pointer q, .int .i64 0]).run Tryz.prog W = .ok (.string .empty) W := fun W q => Lib.run_unsafeString_none W _ _ _ q
  go_enter Tryz.func31, Tryz.f31
  go_wp2
  go_region
  all_goals (go_wp2; go_ret; exact ⟨rfl, rfl⟩)
end Go.Proofs
namespace Go.Proofs.YtameljhbkedhjaaGreatDoor
open Go Go.Vc Go.Proofs
set_option linter.unusedVariables false
set_option linter.unusedSimpArgs false
variable {H H0 : Heap} {R : Value → Heap → Prop} {v : Value} {B : List Bool} {L M : List It} {b : Nat} {q : List Value} {W out : List UInt8}
def bufT (v : Value) (out : List UInt8) : Thing where
  foot k := blkOf v = some k
  holds H := (v = .slice none 0 0 ∧ out = []) ∨ (out ≠ [] ∧ ∃ (g cap : Nat) (sp : List Value) (fr : Nat × Nat), v = .slice (some ⟨g, 0, none⟩) out.length cap ∧ H[g]? = some (.cells (out.map byteV ++ sp).toArray 5 fr) ∧ Thawed fr cap ∧ out.length + sp.length = cap)
  frame := fun h hf => by
    rcases h with h | ⟨h0, g, cap, sp, fr, rfl, h1, h2⟩
    · exact .inl h
    · exact .inr ⟨h0, g, cap, sp, fr, rfl, (hf g rfl).trans h1, h2⟩
  lt := fun h hf => by
    rcases h with ⟨rfl, _⟩ | ⟨h0, g, cap, sp, fr, rfl, h1, h2⟩
    · simp [blkOf] at hf
    · simp only [blkOf, Option.some.injEq] at hf; subst hf; exact lt_of_blk h1
theorem bytes_one (l : List UInt8) : (l.map byteV).all oneCell = true := by simp [oneCell]
theorem buf_app {K : Value → Heap → Prop} {x : Value} {new : List UInt8} (o : Owns H0 H L) (hin : Sel (.thing (bufT v out)) L M) (hlen : lenV x = some new.length) (hcells : cellsOf H 1 x = some (new.map byteV)) (hsize : out.length + new.length ≤ 140737488355328)
    (hk : ∀ v' H', Owns H0 H' (.thing (bufT v' (out ++ new)) :: M) → K v' H') : pAppend H 5 1 1 [.int .u8 0] v x K := by
  have o1 := o.front hin
  have hh := o1.thing (T := bufT v out) List.mem_cons_self
  have key : ∀ v' H', H.size ≤ H'.size → (∀ k, k < H.size → blkOf v ≠ some k → H'[k]? = H[k]?) → (bufT v' (out ++ new)).holds H' → (∀ k, blkOf v' = some k → blkOf v = some k ∨ H.size ≤ k) → K v' H' :=
    fun v' H' h1 h2 h3 h4 => hk v' H' (o1.turn Rep.here h1 h2 h3 h4)
  rcases hh with ⟨rfl, rfl⟩ | ⟨h0, g, cap, sp, fr, rfl, hb, hf, hc⟩
  · simp only [pAppend, hlen, hcells]
    refine ⟨fun hle => ?_, fun hlt => ?_⟩
    · have : new = [] := List.length_eq_zero_iff.1 (by omega)
      subst this
      exact key _ H (Nat.le_refl _) (fun _ _ _ => rfl) (.inl ⟨rfl, rfl⟩) (fun k hk => .inl hk)
    · refine ⟨by simp at hsize; omega, ?_⟩
      simp only [cellsOf, List.nil_append]
      intro c hc
      refine key _ _ (by simp) (fun i hi _ => get_push_lt hi) (.inr ⟨by intro e; rw [List.append_eq_nil_iff] at e; rw [e.2] at hlt; simp at hlt, H.size, c, repL [.int .u8 0] (c - (0 + new.length)), (0, 0), by simp, ?_, .inl rfl, ?_⟩) (fun k hk => ?_)
      · exact get_push_self
      · rw [repL_len]; simp; omega
      · simp only [blkOf, Option.some.injEq] at hk; right; omega
  · simp only [pAppend, hlen, hcells]
    refine ⟨fun hle => ?_, fun hlt => ?_⟩
    · simp only [add_mk, Nat.zero_add, Nat.mul_one]
      have hsp : new.length ≤ sp.length := by omega
      rw [setsAt_thaw hf (new.map byteV) H out.length 0 (out.map byteV ++ sp) hb (bytes_one new) (by simp; omega) (by simp; omega)]
      simp only [Nat.add_zero]
      have hp := putL_mid (new.map byteV) (out.map byteV) sp (by simpa using hsp)
      rw [List.length_map] at hp
      rw [hp, List.length_map]
      refine key _ _ (by simp) (fun i hi hne => get_set_ne (by intro e; subst e; exact hne rfl)) (.inr ⟨by simp [h0], g, cap, sp.drop new.length, fr, by simp, ?_, hf, ?_⟩) (fun k hk => .inl hk)
      · rw [List.map_append]; exact get_set_self (lt_of_blk hb)
      · rw [List.length_append, List.length_drop]; omega
    · refine ⟨by omega, ?_⟩
      have hr : cellsOf H 1 (.slice (some ⟨g, 0, none⟩) out.length cap) = some (out.map byteV) := by
        have := (Own.sl (by decide) (.inr ⟨g, out.length, cap, sp, rfl, ⟨⟨_, fr, hb, by simpa using hf⟩, by simp, by simp; omega⟩⟩ : Own H (.slice (some ⟨g, 0, none⟩) out.length cap) 1 (out.map byteV))).cellsOf
        exact this
      rw [hr]
      intro c hc2
      refine key _ _ (by simp) (fun i hi _ => get_push_lt hi) (.inr ⟨by simp [h0], H.size, c, repL [.int .u8 0] (c - (out.length + new.length)), (0, 0), by simp, ?_, .inl rfl, ?_⟩) (fun k hk => ?_)
      · rw [List.map_append]; exact get_push_self
      · rw [repL_len, List.length_append]; simp; omega
      · simp only [blkOf, Option.some.injEq] at hk; right; omega
def Dc (H0 H : Heap) (b : Nat) (q : List Value) (B : List Bool) (W out : List UInt8) (L : List It) : Prop :=
  ∃ bp bv, (bp = .pointer none ∨ bp = at_ b 5) ∧ oneCell bv = true ∧ WinO H0 H b (bp :: bv :: q) 76 B W (.thing (bufT bv out) :: L)
def Idle (H0 H : Heap) (b : Nat) (q : List Value) (B : List Bool) (W : List UInt8) (L : List It) : Prop :=
  ∃ bp bv, oneCell bp = true ∧ oneCell bv = true ∧ WinO H0 H b (bp :: bv :: q) 76 B W L
theorem pStore_setAt {K : Value → Heap → Prop} {a : Addr} {x : Value} (h : pStore H (.pointer (some a)) x K) : K undef (setAt H (a.add 0) x) := by
  simp only [pStore, setsAt] at h
  cases hc : cellAt H (a.add 0) with
  | none => simp only [hc] at h
  | some y =>
    simp only [hc] at h
    cases hq : frozenAt H (a.add 0) with
    | true => simp only [hq, cond_true] at h
    | false =>
      cases ho : oneCell x with
      | false => simp only [hq, ho, cond_false] at h
      | true => simpa only [hq, ho, cond_false, cond_true] using h
theorem copyCheck_spec {bp bv : Value} (hq : q.length = 7) (hbp : bp = .pointer none ∨ bp = at_ b 5) (w : WinO H0 H b (bp :: bv :: q) 76 B W L)
    (h : ∀ H', WinO H0 H' b (at_ b 5 :: bv :: q) 76 B W L → R (.tuple #[]) H') : CallsH Tryz.prog 103 #[at_ b 5] H R := by
  obtain ⟨rv, ring, hr, hs, o⟩ := id w
  obtain ⟨rest, acc, n, h1, -⟩ := o.thing (T := rdP b (rv :: i64 W.length :: bp :: bv :: q) 76 B) (by repeat (first | exact List.mem_cons_self | apply List.mem_cons_of_mem))
  intro wd hw
  subst hw
  have hc := Lib.cell_of_heap h1 5
  rcases hbp with rfl | rfl
  · have hst := w.ps (K := fun _ H' => R (.tuple #[]) H') (g := 5) (x := at_ b 5) (by decide) (by simp) rfl (fun H' w' => h H' w')
    have := pStore_setAt hst
    refine (Tryz.copyCheck_fresh b wd hc ?_ (Lib.frozen_of_heap h1 5)).mono fun e w' ⟨he, hw'⟩ => ⟨_, he, ?_, ?_⟩
    · simp [World.shape?, h1, hq]
    · subst hw'; exact ⟨rfl, rfl, rfl, by first | exact Nat.le_refl _ | exact Nat.le_succ _⟩
    · subst hw'; exact this
  · exact (Tryz.copyCheck_used b 5 wd hc).mono fun e w' ⟨he, hw'⟩ => ⟨_, he, by subst hw'; exact Rest.refl _, by subst hw'; exact h _ w⟩
theorem buf_one (o : Owns H0 H L) (h : It.thing (bufT v out) ∈ L) : oneCell v = true := by
  rcases o.thing h with ⟨rfl, _⟩ | ⟨_, _, _, _, _, rfl, _⟩ <;> rfl
theorem bwrite_core {x : Value} {new : List UInt8} {bv : Value} (hq : q.length = 7) (hn : out.length + new.length ≤ 140737488355328) (w : WinO H0 H b (at_ b 5 :: bv :: q) 76 B W (.thing (bufT bv out) :: L))
    (hlen : lenV x = some new.length) (hcells : cellsOf H 1 x = some (new.map byteV)) (h : ∀ H', Dc H0 H' b q B W (out ++ new) L → R undef H') :
    pNil (at_ b 5) fun x10 => pFieldAddr 1 x10 fun x11 => pLoad H x11 fun x12 => pAppend H 5 1 1 [(.int .u8 0)] x12 x fun x14 H_2 => pNil (at_ b 5) fun x15 => pFieldAddr 1 x15 fun x16 => pStore H_2 x16 x14 R := by
  rw [pNil_v, pFieldAddr_v, add_mk]
  refine w.pl (g := 5 + 1) (x := bv) (by decide) rfl ?_
  obtain ⟨rv, ring, hr, hs, o⟩ := w.slow
  refine buf_app o (by repeat (first | exact Sel.here | apply Sel.there)) hlen hcells hn fun v' H2 o => ?_
  have h1 := buf_one o (by repeat (first | exact List.mem_cons_self | apply List.mem_cons_of_mem))
  have w := WinO.fast hr hs o
  rw [pNil_v, pFieldAddr_v, add_mk]
  refine w.ps (g := 5 + 1) (by decide) (by simp) h1 fun H3 w => ?_
  exact h H3 ⟨_, v', .inr rfl, h1, w⟩
theorem bwriteS7 {s : List UInt8} (hq : q.length = 7) (hs : out.length + s.length ≤ 140737488355328) (d : Dc H0 H b q B W out L) (h : ∀ H', Dc H0 H' b q B W (out ++ s) L → R (.tuple #[i64 s.length, .nilIface]) H') : CallsH Tryz.prog 89 #[at_ b 5, str s] H R := by
  obtain ⟨bp, bv, hbp, hbv, w⟩ := d
  refine strings_Builder_WriteString.vc _ _ _ _ ?_
  unfold strings_Builder_WriteString.res
  refine copyCheck_spec hq hbp w fun H1 w => ?_
  refine bwrite_core (x := str s) (new := s) hq hs w (by simp [lenV, bys_mk]) (by simp [cellsOf, bys_mk]) fun H2 d => ?_
  refine pLenS_to ?_
  exact h H2 d
theorem bwriteB7 {x : UInt8} (hq : q.length = 7) (hs : out.length + 1 ≤ 140737488355328) (d : Dc H0 H b q B W out L) (h : ∀ H', Dc H0 H' b q B W (out ++ [x]) L → R .nilIface H') : CallsH Tryz.prog 93 #[at_ b 5, byteV x] H R := by
  obtain ⟨bp, bv, hbp, hbv, w⟩ := d
  refine strings_Builder_WriteByte.vc _ _ _ _ ?_
  unfold strings_Builder_WriteByte.res
  refine copyCheck_spec hq hbp w fun H1 w => ?_
  rw [pNil_v, pFieldAddr_v, add_mk]
  refine w.pl (g := 5 + 1) (x := bv) (by decide) rfl ?_
  obtain ⟨rv, ring, hr, hs2, o⟩ := w.slow
  refine o.build1 (sz := 1) (by decide) rfl rfl fun y H2 o => ?_
  have hS := o.sl (v := y) (by repeat (first | exact List.mem_cons_self | apply List.mem_cons_of_mem))
  refine buf_app (new := [x]) o (by repeat (first | exact Sel.here | apply Sel.there)) (hS.lenV (n := 1) rfl (by decide)) hS.cellsOf hs fun v' H2 o => ?_
  have h1 := buf_one o (by repeat (first | exact List.mem_cons_self | apply List.mem_cons_of_mem))
  have w := WinO.fast hr hs2 o.drop2
  rw [pNil_v, pFieldAddr_v, add_mk]
  refine w.ps (g := 5 + 1) (by decide) (by simp) h1 fun H3 w => ?_
  exact h H3 ⟨_, v', .inr rfl, h1, w⟩
theorem breset7 (hq : q.length = 7) (d : Idle H0 H b q B W L) (h : ∀ H', Dc H0 H' b q B W [] L → R (.tuple #[]) H') : CallsH Tryz.prog 29 #[at_ b 5] H R := by
  obtain ⟨bp, bv, hbp, hbv, w⟩ := d
  refine strings_Builder_Reset.vc _ _ _ ?_
  unfold strings_Builder_Reset.res
  rw [pNil_v, pFieldAddr_v, add_mk]
  refine w.ps (g := 5 + 0) (by decide) (by simp) rfl fun H1 w => ?_
  rw [pNil_v, pFieldAddr_v, add_mk]
  refine w.ps (g := 5 + 1) (by decide) (by simp) rfl fun H2 w => ?_
  refine h H2 ⟨.pointer none, .slice none 0 0, .inl rfl, rfl, ?_⟩
  obtain ⟨rv, ring, hr, hs, o⟩ := w
  refine WinO.fast (rv := rv) hr hs ?_
  exact o.add (Ext.refl _) (i := .thing (bufT (.slice none 0 0) [])) (.inl ⟨rfl, rfl⟩) (by intro k hk; simp [It.foot, bufT, blkOf] at hk)
def noneT : Thing where
  foot _ := False
  holds _ := True
  frame := fun _ _ => trivial
  lt := fun _ h => h.elim
theorem bstring7 (hq : q.length = 7) (hs : out.length ≤ 140737488355328) (d : Dc H0 H b q B W out L) (h : ∀ H', Idle H0 H' b q B W L → R (str out) H') : CallsH Tryz.prog 31 #[at_ b 5] H R := by
  obtain ⟨bp, bv, hbp, hbv, w⟩ := d
  have hbp1 : oneCell bp = true := by rcases hbp with rfl | rfl <;> rfl
  obtain ⟨rv, ring, hr, hs2, o⟩ := w.slow
  obtain ⟨rest, acc, n, h1, -⟩ := o.thing (T := rdP b (rv :: i64 W.length :: bp :: bv :: q) 76 B) (by repeat (first | exact List.mem_cons_self | apply List.mem_cons_of_mem))
  intro wd hw
  subst hw
  have hc : wd.cell? ⟨b, 6, none⟩ = some bv := Lib.cell_of_heap h1 6
  rcases o.thing (T := bufT bv out) (by repeat (first | exact List.mem_cons_self | apply List.mem_cons_of_mem)) with ⟨rfl, rfl⟩ | ⟨h0, g, cap, sp, fr, rfl, hg, hf, hcap⟩
  · refine (Tryz.String_nil b wd hc).mono fun e w' ⟨he, hw'⟩ => ⟨_, he, by subst hw'; exact ⟨rfl, rfl, rfl, by first | exact Nat.le_refl _ | exact Nat.le_succ _⟩, ?_⟩
    subst hw'
    exact h _ ⟨bp, _, hbp1, rfl, rv, ring, hr, hs2, o.pick (List.sublist_cons_self _ _)⟩
  · have hl0 : out.length ≠ 0 := by simpa using h0
    have hfz : (wd.drew.freeze ⟨g, 0, none⟩ out.length).heap = wd.heap.modify g fun
        | .cells c elem (lo, hi) => .cells c elem (if lo == hi then (0, 0 + out.length) else (min lo 0, max hi (0 + out.length)))
        | o => o := by
      unfold World.freeze
      rw [if_neg hl0]
      rfl
    refine (Tryz.String_some b g cap _ fr out wd hc hg h0 (by omega) (by omega) (by simp) ?_).mono fun e w' ⟨he, hw'⟩ => ⟨_, he, ?_, ?_⟩
    · intro j x hx
      have hj := (List.getElem?_eq_some_iff.1 hx).1
      rw [List.getElem?_toArray, List.getElem?_append_left (by simpa using hj), List.getElem?_map, hx]; rfl
    · subst hw'
      unfold World.freeze
      rw [if_neg hl0]
      exact ⟨rfl, rfl, rfl, by first | exact Nat.le_refl _ | exact Nat.le_succ _⟩
    · subst hw'
      have o2 : Owns H0 (wd.drew.freeze ⟨g, 0, none⟩ out.length).heap (.thing noneT :: rdI b (rv :: i64 W.length :: bp :: .slice (some ⟨g, 0, none⟩) out.length cap :: q) 76 B :: .sl rv 1 (ring.map byteV) :: L) := by
        rw [hfz]
        refine o.turn Rep.here (by simp) (fun k hk hne => ?_) trivial (fun k hk => hk.elim)
        rw [Array.getElem?_modify, if_neg]
        intro e
        exact hne (by simp [It.foot, bufT, blkOf, e])
      exact h _ ⟨bp, _, hbp1, rfl, rv, ring, hr, hs2, o2.pick (List.sublist_cons_self _ _)⟩
end Go.Proofs.YtameljhbkedhjaaGreatDoor
namespace Go.Proofs.YtameljhbkedhjaaGreatDoor
open Go Go.Vc Go.Proofs
set_option linter.unusedVariables false
set_option linter.unusedSimpArgs false
variable {H H0 : Heap} {R : Value → Heap → Prop} {v fed : Value} {B : List Bool} {L M : List It} {b : Nat} {q : List Value} {W out : List UInt8}
theorem inf_xor {a b : Nat} (ha : a < 4611686018427387904) (hb : b < 4611686018427387904) : bitsOf .xor .i64 (a : Int) (b : Int) = ((a ^^^ b : Nat) : Int) := by
  have hlt : a ^^^ b < 2 ^ 62 := Nat.xor_lt_two_pow (by simpa using ha) (by simpa using hb)
  have e : ((BitVec.ofInt 64 (a : Int)) ^^^ (BitVec.ofInt 64 (b : Int))).toNat = a ^^^ b := by
    rw [BitVec.toNat_xor, BitVec.ofInt_natCast, BitVec.ofInt_natCast, BitVec.toNat_ofNat, BitVec.toNat_ofNat, Nat.mod_eq_of_lt (by omega), Nat.mod_eq_of_lt (by omega)]
  show IntKind.i64.wrap ((((BitVec.ofInt 64 (a : Int)) ^^^ (BitVec.ofInt 64 (b : Int))).toNat : Nat) : Int) = _
  rw [e, w64 (by omega) (by omega)]
def AnyQ (fed : Value) (q : List Value) : Prop := ∃ (n : Nat) (last left sy di : Value), q = [i64 n, last, left, sy, di, fed, .int .i64 0] ∧ n < 3 ∧ oneCell last = true ∧ oneCell left = true ∧ oneCell sy = true ∧ oneCell di = true
def StQ (L : List It) (fed : Value) (s : St) (q : List Value) : Prop := ∃ (st last left sy di : Value), q = [st, last, left, sy, di, fed, .int .i64 0] ∧ oneCell last = true ∧ oneCell left = true ∧ oneCell sy = true ∧ oneCell di = true ∧ match s with
  | .hd => st = i64 0
  | .cp n l => st = i64 1 ∧ last = .bool l ∧ left = i64 n
  | .tl zs zd l => st = i64 2 ∧ last = .bool l ∧ HasC L zs sy ∧ HasC L zd di
  | .dn => st = i64 3
theorem StQ.len {s : St} (h : StQ L fed s q) : q.length = 7 := by obtain ⟨_, _, _, _, _, rfl, _⟩ := h; rfl
theorem AnyQ.len (h : AnyQ fed q) : q.length = 7 := by obtain ⟨_, _, _, _, _, rfl, _⟩ := h; rfl
theorem StQ.mono {L' : List It} {s : St} (h : StQ L fed s q) (hm : ∀ i ∈ L, i ∈ L') : StQ L' fed s q := by
  obtain ⟨st, last, left, sy, di, h1, h2, h3, h4, h5, h6⟩ := h
  refine ⟨st, last, left, sy, di, h1, h2, h3, h4, h5, ?_⟩
  cases s with
  | tl zs zd l => exact ⟨h6.1, h6.2.1, h6.2.2.1.mono hm, h6.2.2.2.mono hm⟩
  | _ => exact h6
theorem HasC.one {zs : List Int} {p : Value} (h : HasC L zs p) : oneCell p = true := by obtain ⟨_, _, _, _, _, rfl, _⟩ := h; rfl
theorem Dc.pl {K : Value → Prop} {g : Nat} {x : Value} (d : Dc H0 H b q B W out L) (h7 : 7 ≤ g) (hx : q[g - 7]? = some x) (hk : K x) : pLoad H (at_ b g) K := by
  obtain ⟨bp, bv, hbp, hbv, w⟩ := d
  refine w.pl (x := x) (by omega) ?_ hk
  obtain ⟨j, rfl⟩ : ∃ j, g = j + 7 := ⟨g - 7, by omega⟩
  simp only [Nat.add_sub_cancel] at hx
  rw [show j + 7 - 5 = j + 1 + 1 by omega]
  exact hx
theorem Dc.ps {K : Value → Heap → Prop} {g : Nat} {x : Value} (d : Dc H0 H b q B W out L) (h7 : 7 ≤ g) (hg : g - 7 < q.length) (hx : oneCell x = true) (hk : ∀ H', Dc H0 H' b (q.set (g - 7) x) B W out L → K undef H') : pStore H (at_ b g) x K := by
  obtain ⟨bp, bv, hbp, hbv, w⟩ := d
  refine w.ps (by omega) (by simp; omega) hx fun H' w => hk H' ⟨bp, bv, hbp, hbv, ?_⟩
  obtain ⟨j, rfl⟩ : ∃ j, g = j + 7 := ⟨g - 7, by omega⟩
  rw [show j + 7 - 5 = j + 1 + 1 by omega] at w
  exact w
theorem Dc.rd (d : Dc H0 H b q B W out L) : ∃ (post : List Value) (rv bv : Value) (ring : List UInt8), Owns H0 H (rdI b post 76 B :: .sl rv 1 (ring.map byteV) :: .thing (bufT bv out) :: L) ∧ ∀ H' C M, Owns H0 H' (rdI b post 76 C :: .sl rv 1 (ring.map byteV) :: .thing (bufT bv out) :: M) → Dc H0 H' b q C W out M := by
  obtain ⟨bp, bv, hbp, hbv, rv, ring, hr, hs, o⟩ := d
  exact ⟨_, rv, bv, ring, o, fun H' C M o => ⟨bp, bv, hbp, hbv, rv, ring, hr, hs, o⟩⟩
theorem owns_m2 {M : List It} {i j k : It} (o : Owns H0 H (i :: (M ++ j :: k :: L))) : Owns H0 H (i :: j :: k :: (M ++ L)) := by
  refine o.perm (List.Perm.cons _ ?_)
  refine List.Perm.symm (List.perm_middle.trans (List.Perm.cons _ List.perm_middle))
theorem stored_spec (d : Dc H0 H b q B W out L)
    (hok : ∀ x C H', needM 32 (alB B) = .ok x C → (x % 65536) ^^^ (x / 65536) = 65535 → Dc H0 H' b q C W out L → R (.tuple #[i64 (x % 65536), .int .i64 0]) H')
    (hbad : ∀ x C H', needM 32 (alB B) = .ok x C → (x % 65536) ^^^ (x / 65536) ≠ 65535 → Dc H0 H' b q C W out L → R (.tuple #[i64 (x % 65536), .int .i64 8]) H')
    (her : ∀ H', needM 32 (alB B) = .er 2 → Dc H0 H' b q (alB B) W out L → R (.tuple #[i64 0, .int .i64 2]) H') : CallsH Tryz.prog 85 #[at_ b 0] H R := by
  obtain ⟨post, rv, bv, ring, o, back⟩ := d.rd
  refine inflate_storedLength.vc _ _ _ ?_
  unfold inflate_storedLength.res
  refine rAlign_spec (rdP_rd o (by repeat (first | exact List.mem_cons_self | apply List.mem_cons_of_mem))) fun H1 w c => ?_
  have o := o.rd w c Rep.here
  change Owns H0 H1 (rdI b post 76 (alB B) :: _) at o
  refine need_spec (n := 32) (by decide) o (fun x C H2 hx hx32 o => ?_) (fun hx => ?_)
  · refine pExtract_to rfl ?_
    refine pExtract_to rfl ?_
    have a1 := and_i64 (v := x) (k := 16) (m := 65535) (by decide) rfl
    rw [show (2 : Nat) ^ 16 = 65536 from rfl] at a1
    have e1 : bitsOf .xor .i64 ((x % 65536 : Nat) : Int) ((x / 65536 : Nat) : Int) = (((x % 65536) ^^^ (x / 65536) : Nat) : Int) := inf_xor (by omega) (by omega)
    refine ⟨fun e H' => H2 = H' ∧ e = if (x % 65536) ^^^ (x / 65536) ≠ 65535 then .int .i64 8 else .int .i64 0, ?_, ?_⟩
    · rintro _ _ _ ⟨rfl, rfl⟩
      rw [pBits_v, a1]
      by_cases hb : (x % 65536) ^^^ (x / 65536) ≠ 65535
      · rw [if_pos hb]; exact hbad x C H2 hx hb (back _ _ _ o)
      · rw [if_neg hb]; exact hok x C H2 hx (Decidable.not_not.1 hb) (back _ _ _ o)
    · rw [pEq_0, decide_eq_true rfl]
      refine pAnd_true ?_
      rw [pBits_v, a1, pShr_v]
      refine ⟨by decide, ?_⟩
      rw [fdiv_nat (m := min (Int.toNat 16) IntKind.i64.bits) (j := 16) rfl, show (2 : Nat) ^ 16 = 65536 from rfl, pBits_v, e1, pNe_0]
      intro _
      by_cases hb : (x % 65536) ^^^ (x / 65536) ≠ 65535
      · rw [decide_eq_true (by omega), pCond_true, if_pos hb]; exact ⟨rfl, rfl⟩
      · rw [decide_eq_false (by omega), pCond_false, if_neg hb]; exact ⟨rfl, rfl⟩
  · refine pExtract_to rfl ?_
    refine pExtract_to rfl ?_
    refine ⟨fun e H' => H1 = H' ∧ e = .int .i64 2, ?_, ?_⟩
    · rintro _ _ _ ⟨rfl, rfl⟩
      rw [pBits_v]
      exact her H1 hx (back _ _ _ o)
    · rw [pEq_0, decide_eq_false (by decide), pAnd_false]
      intro _
      rw [pCond_false]
      exact ⟨rfl, rfl⟩
theorem head_spec7 (hG : Reads H0 ⟨1, 0, none⟩ ordV) (hq : AnyQ fed q) (d : Dc H0 H b q B W out L)
    (hok : ∀ st C H' M q', headM B = .ok st C → Dc H0 H' b q' C W out (M ++ L) → StQ (M ++ L) fed st q' → R (.int .i64 0) H')
    (her : ∀ e H' C q', headM B = .er e → e ≠ 0 → Dc H0 H' b q' C W out L → AnyQ fed q' → R (.int .i64 e) H') : CallsH Tryz.prog 60 #[at_ b 0] H R := by
  obtain ⟨n, last, left, sy, di, rfl, hn3, hla, hle, hsy, hdi⟩ := hq
  generalize hT : headM B = T at *
  unfold headM at hT
  refine inflate_Decoder_head.vc _ _ _ ?_
  unfold inflate_Decoder_head.res
  rw [pNil_v, pFieldAddr_v, add_mk]
  obtain ⟨post, rv, bv, ring, o, back⟩ := d.rd
  refine need_spec (n := 3) (by decide) o (fun x C1 H1 hx hx3 o => ?_) (fun hx => ?_)
  rotate_left
  · rw [hx] at hT
    refine pExtract_to rfl ?_
    refine pExtract_to rfl ?_
    refine ne_er (by decide) ?_
    rw [pCond_true]
    exact her 2 H B _ hT.symm (by decide) d ⟨n, last, left, sy, di, rfl, hn3, hla, hle, hsy, hdi⟩
  rw [hx] at hT
  dsimp only [Rs.bind] at hT
  have d := back _ _ _ o
  refine pExtract_to rfl ?_
  refine pExtract_to rfl ?_
  refine ne_ok ?_
  rw [pCond_false]
  have hx8 : x < 8 := hx3
  have a1 := and_i64 (v := x) (k := 1) (m := 1) (by decide) rfl
  rw [show (2 : Nat) ^ 1 = 2 from rfl] at a1
  refine ⟨fun e H' => ∃ q' C M, Dc H0 H' b q' C W out (M ++ L) ∧ ((e = .int .i64 0 ∧ ∀ lastV, ∃ st, lastV = .bool (decide (x % 2 = 1)) → T = .ok st C ∧ StQ (M ++ L) fed st (q'.set 1 lastV)) ∨ (∃ ev, e = .int .i64 ev ∧ T = .er ev ∧ ev ≠ 0 ∧ AnyQ fed q' ∧ M = [])), ?_, ?_⟩
  · rintro _ _ H2 ⟨q', C, M, d, hd⟩
    rw [pBits_v, a1, pEq_0, pNil_v, pFieldAddr_v, add_mk]
    have hl7 : 7 = q'.length := by
      rcases hd with ⟨_, h⟩ | ⟨ev, _, _, _, h, _⟩
      · obtain ⟨st, h⟩ := h (.bool (decide (x % 2 = 1)))
        have := (h rfl).2.len
        rw [List.length_set] at this
        exact this.symm
      · exact h.len.symm
    refine d.ps (g := 0 + 8) (by decide) (by omega) rfl fun H3 d => ?_
    have eb : (decide (((x % 2 : Nat) : Int) = 1)) = decide (x % 2 = 1) := by rw [Bool.eq_iff_iff, decide_eq_true_eq, decide_eq_true_eq]; omega
    rw [eb] at d
    rcases hd with ⟨rfl, h⟩ | ⟨ev, rfl, h1, h2, h3, rfl⟩
    · obtain ⟨st, h⟩ := h (.bool (decide (x % 2 = 1)))
      obtain ⟨h1, h2⟩ := h rfl
      exact hok st C H3 M _ h1 d h2
    · refine her ev H3 C _ h1 h2 d ?_
      obtain ⟨n, last, left, sy, di, rfl, g1, g2, g3, g4, g5⟩ := h3
      exact ⟨n, _, left, sy, di, rfl, g1, rfl, g3, g4, g5⟩
  rw [pShr_v]
  refine ⟨by decide, ?_⟩
  rw [fdiv_nat (m := min (Int.toNat 1) IntKind.i64.bits) (j := 1) rfl, show (2 : Nat) ^ 1 = 2 from rfl, pEq_0]
  refine pCond_if (fun h0 => ?_) (fun h0 => ?_)
  · rw [if_pos (by omega)] at hT
    rw [pNil_v, pFieldAddr_v, add_mk]
    have fin : ∀ (nv : Nat) (ev : Int) (C : List Bool) (H2 : Heap), Dc H0 H2 b [i64 n, last, left, sy, di, fed, .int .i64 0] C W out L → ((ev = 0 ∧ T = .ok (.cp nv (decide (x % 2 = 1))) C) ∨ (T = .er ev ∧ ev ≠ 0)) →
        pNil (at_ b 0) fun x27 => pFieldAddr 9 x27 fun x28 => pStore H2 x28 (i64 nv) fun _ H_6 => pNil (at_ b 0) fun x30 => pFieldAddr 7 x30 fun x31 => pStore H_6 x31 (.int .i64 1) fun _ H_7 =>
        (∃ q' C M, Dc H0 H_7 b q' C W out (M ++ L) ∧ (((.int .i64 ev : Value) = .int .i64 0 ∧ ∀ lastV, ∃ st, lastV = .bool (decide (x % 2 = 1)) → T = .ok st C ∧ StQ (M ++ L) fed st (q'.set 1 lastV)) ∨ (∃ ev', (.int .i64 ev : Value) = .int .i64 ev' ∧ T = .er ev' ∧ ev' ≠ 0 ∧ AnyQ fed q' ∧ M = []))) := by
      intro nv ev C H2 d hh
      rw [pNil_v, pFieldAddr_v, add_mk]
      refine d.ps (g := 0 + 9) (by decide) (by simp) rfl fun H3 d => ?_
      rw [pNil_v, pFieldAddr_v, add_mk]
      refine d.ps (g := 0 + 7) (by decide) (by simp) rfl fun H4 d => ?_
      refine ⟨_, C, [], d, ?_⟩
      rcases hh with ⟨rfl, h⟩ | ⟨h1, h2⟩
      · exact .inl ⟨rfl, fun lastV => ⟨.cp nv (decide (x % 2 = 1)), fun e => by subst e; exact ⟨h, _, _, _, _, _, rfl, rfl, rfl, hsy, hdi, rfl, rfl, rfl⟩⟩⟩
      · exact .inr ⟨ev, rfl, h1, h2, ⟨1, last, i64 nv, sy, di, rfl, by decide, hla, rfl, hsy, hdi⟩, rfl⟩
    refine stored_spec d (fun y C H2 hy hxor d => ?_) (fun y C H2 hy hxor d => ?_) (fun H2 hy d => ?_)
    · refine pExtract_to rfl ?_
      refine pExtract_to rfl ?_
      rw [hy] at hT
      dsimp only [Rs.bind] at hT
      rw [if_neg (fun g => g hxor)] at hT
      exact fin (y % 65536) 0 C H2 d (.inl ⟨rfl, hT.symm⟩)
    · refine pExtract_to rfl ?_
      refine pExtract_to rfl ?_
      rw [hy] at hT
      dsimp only [Rs.bind] at hT
      rw [if_pos hxor] at hT
      exact fin (y % 65536) 8 C H2 d (.inr ⟨hT.symm, by decide⟩)
    · refine pExtract_to rfl ?_
      refine pExtract_to rfl ?_
      rw [hy] at hT
      exact fin 0 2 _ H2 d (.inr ⟨hT.symm, by decide⟩)
  rw [if_neg (by omega)] at hT
  rw [pEq_0]
  refine pCond_if (fun h1 => ?_) (fun h1 => ?_)
  · rw [if_pos (by omega)] at hT
    refine fixed_spec o fun H2 M p r hp hr o => ?_
    have d := back H2 C1 (M ++ L) (owns_m2 o.mid |> fun o => o.perm (by
      refine List.Perm.cons _ (List.Perm.cons _ ?_)
      exact List.Perm.refl _))
    refine pExtract_to rfl ?_
    refine pExtract_to rfl ?_
    rw [pNil_v, pFieldAddr_v, add_mk]
    refine d.ps (g := 0 + 10) (by decide) (by simp) hp.one fun H3 d => ?_
    rw [pNil_v, pFieldAddr_v, add_mk]
    refine d.ps (g := 0 + 11) (by decide) (by simp) hr.one fun H4 d => ?_
    rw [pNil_v, pFieldAddr_v, add_mk]
    refine d.ps (g := 0 + 7) (by decide) (by simp) rfl fun H5 d => ?_
    exact ⟨_, C1, M, d, .inl ⟨rfl, fun lastV => ⟨.tl fixL fixD (decide (x % 2 = 1)), fun e => by subst e; exact ⟨hT.symm, _, _, _, _, _, rfl, rfl, hle, hp.one, hr.one, rfl, rfl, hp.appl, hr.appl⟩⟩⟩⟩
  rw [if_neg (by omega)] at hT
  rw [pEq_0]
  refine pCond_if (fun h2 => ?_) (fun h2 => ?_)
  · rw [if_pos (by omega)] at hT
    rw [pNil_v, pFieldAddr_v, add_mk]
    refine dynamic_spec hG o (fun p C H2 M y z hd hy hz o => ?_) (fun e C H2 y z hd he hy hz o => ?_)
    · rw [hd] at hT
      dsimp only [Rs.bind] at hT
      have d := back H2 C (M ++ L) (owns_m2 o)
      refine pExtract_to rfl ?_
      refine pExtract_to rfl ?_
      refine pExtract_to rfl ?_
      rw [pNil_v, pFieldAddr_v, add_mk]
      refine d.ps (g := 0 + 10) (by decide) (by simp) hy.one fun H3 d => ?_
      rw [pNil_v, pFieldAddr_v, add_mk]
      refine d.ps (g := 0 + 11) (by decide) (by simp) hz.one fun H4 d => ?_
      rw [pNil_v, pFieldAddr_v, add_mk]
      refine d.ps (g := 0 + 7) (by decide) (by simp) rfl fun H5 d => ?_
      exact ⟨_, C, M, d, .inl ⟨rfl, fun lastV => ⟨.tl p.1 p.2 (decide (x % 2 = 1)), fun e => by subst e; exact ⟨hT.symm, _, _, _, _, _, rfl, rfl, hle, hy.one, hz.one, rfl, rfl, hy.appl, hz.appl⟩⟩⟩⟩
    · rw [hd] at hT
      dsimp only [Rs.bind] at hT
      have d := back H2 C L o
      refine pExtract_to rfl ?_
      refine pExtract_to rfl ?_
      refine pExtract_to rfl ?_
      rw [pNil_v, pFieldAddr_v, add_mk]
      refine d.ps (g := 0 + 10) (by decide) (by simp) hy fun H3 d => ?_
      rw [pNil_v, pFieldAddr_v, add_mk]
      refine d.ps (g := 0 + 11) (by decide) (by simp) hz fun H4 d => ?_
      rw [pNil_v, pFieldAddr_v, add_mk]
      refine d.ps (g := 0 + 7) (by decide) (by simp) rfl fun H5 d => ?_
      exact ⟨_, C, [], d, .inr ⟨e, rfl, hT.symm, he, ⟨2, last, left, y, z, rfl, by decide, hla, hle, hy, hz⟩, rfl⟩⟩
  · rw [if_neg (by omega)] at hT
    exact her 3 H1 C1 _ hT.symm (by decide) d ⟨n, last, left, sy, di, rfl, hn3, hla, hle, hsy, hdi⟩
end Go.Proofs.YtameljhbkedhjaaGreatDoor
namespace Go.Proofs.YtameljhbkedhjaaGreatDoor
open Go Go.Vc Go.Proofs
set_option linter.unusedVariables false
set_option linter.unusedSimpArgs false
variable {H H0 : Heap} {R : Value → Heap → Prop} {v fed : Value} {B : List Bool} {L M : List It} {b : Nat} {q : List Value} {W out : List UInt8}
theorem ended_spec {st left sy di : Value} {l : Bool} (h1 : oneCell left = true) (h2 : oneCell sy = true) (h3 : oneCell di = true) (d : Dc H0 H b [st, .bool l, left, sy, di, fed, .int .i64 0] B W out L)
    (h : ∀ H' q', Dc H0 H' b q' (endM l B W).B (endM l B W).W out L → StQ L fed (endM l B W).st q' → R (.tuple #[]) H') : CallsH Tryz.prog 90 #[at_ b 0] H R := by
  refine inflate_Decoder_ended.vc _ _ _ ?_
  unfold inflate_Decoder_ended.res
  rw [pNil_v, pFieldAddr_v, add_mk]
  refine d.ps (g := 0 + 7) (by decide) (by simp) rfl fun H1 d => ?_
  rw [pNil_v, pFieldAddr_v, add_mk]
  refine d.pl (g := 0 + 8) (x := .bool l) (by decide) rfl ?_
  cases l with
  | true =>
    rw [pCond_true, pNil_v, pFieldAddr_v, add_mk]
    refine d.ps (g := 0 + 7) (by decide) (by simp) rfl fun H2 d => ?_
    rw [pNil_v, pFieldAddr_v, add_mk]
    obtain ⟨post, rv, bv, ring, o, back⟩ := d.rd
    refine rAlign_spec (rdP_rd o (by repeat (first | exact List.mem_cons_self | apply List.mem_cons_of_mem))) fun H3 w c => ?_
    have o := o.rd w c Rep.here
    exact h H3 _ (back H3 (alB B) L o) ⟨_, _, _, _, _, rfl, rfl, h1, h2, h3, rfl⟩
  | false =>
    rw [pCond_false]
    exact h H1 _ d ⟨_, _, _, _, _, rfl, rfl, h1, h2, h3, rfl⟩
theorem toBytes_k {l : List Bool} {k : Nat} (h : l.length = 8 * k) : (toBytes l).length = k := toBytes_len k l (by omega)
theorem copied_spec {left : Nat} {last : Bool} (hq : StQ L fed (.cp left last) q) (hl : left ≤ 65535) (hsz : W.length + 258 * B.length ≤ 1000000000000) (ho : out.length ≤ W.length) (d : Dc H0 H b q B W out L)
    (hgo : ∀ D' o H' q', stepM ⟨.cp left last, B, W⟩ = .go D' o → Dc H0 H' b q' D'.B D'.W (out ++ o) L → StQ L fed D'.st q' → R (.int .i64 0) H')
    (hwt : ∀ D' o H' q', stepM ⟨.cp left last, B, W⟩ = .wait D' o → Dc H0 H' b q' D'.B D'.W (out ++ o) L → StQ L fed D'.st q' → R (.int .i64 2) H') : CallsH Tryz.prog 61 #[at_ b 0] H R := by
  obtain ⟨_, _, _, sy, di, rfl, -, -, h4, h5, rfl, rfl, rfl⟩ := hq
  have hq7 : ([i64 1, .bool last, i64 left, sy, di, fed, .int .i64 0] : List Value).length = 7 := rfl
  have hal := alB_len B
  refine inflate_Decoder_copied.vc _ _ _ ?_
  unfold inflate_Decoder_copied.res
  rw [pNil_v, pFieldAddr_v, add_mk, pNil_v, pFieldAddr_v, add_mk]
  refine d.pl (g := 0 + 9) (x := i64 left) (by decide) rfl ?_
  obtain ⟨post, rv, bv, ring, o, back⟩ := d.rd
  refine rTake_spec (n := (left : Int)) (by omega) (rdP_rd o (by repeat (first | exact List.mem_cons_self | apply List.mem_cons_of_mem))) fun H1 k hk w c => ?_
  change k = min (left : Int).toNat ((B.length - B.length % 8) / 8) at hk
  rw [← hal.2, Int.toNat_natCast] at hk
  change Rd H1 b 0 ((alB B).drop (8 * k)) at w
  change pNil (at_ b 0) _
  rw [show List.drop (B.length % 8) B = alB B from rfl]
  have d := back H1 _ L (o.rd w c Rep.here)
  have hkl : 8 * k ≤ (alB B).length := by omega
  have htl : (toBytes ((alB B).take (8 * k))).length = k := toBytes_k (by rw [List.length_take]; omega)
  rw [pNil_v, pFieldAddr_v, add_mk]
  refine d.pl (g := 0 + 9) (x := i64 left) (by decide) rfl ?_
  refine pLenS_to ?_
  rw [htl, pSub_v, show (left : Int) - (k : Int) = ((left - k : Nat) : Int) by omega, w64 (by omega) (by omega), pNil_v, pFieldAddr_v, add_mk]
  refine d.ps (g := 0 + 9) (by decide) (by simp) rfl fun H2 d => ?_
  rw [pNil_v, pFieldAddr_v, add_mk]
  obtain ⟨bp, bv, hbp, hbv, w⟩ := d
  refine wadd7 w (by rw [htl]; omega) fun H3 w => ?_
  have d : Dc H0 H3 b _ _ _ out L := ⟨bp, bv, hbp, hbv, w⟩
  rw [pNil_v, pFieldAddr_v, add_mk]
  refine bwriteS7 (by rfl) (by rw [htl]; omega) d fun H4 d => ?_
  rw [pNil_v, pFieldAddr_v, add_mk]
  refine d.pl (g := 0 + 9) (x := i64 (left - k)) (by decide) rfl ?_
  rw [pGt_v]
  have e1 : stepM ⟨.cp left last, B, W⟩ = if min left ((alB B).length / 8) < left then .wait ⟨.cp (left - min left ((alB B).length / 8)) last, (alB B).drop (8 * min left ((alB B).length / 8)), W ++ toBytes ((alB B).take (8 * min left ((alB B).length / 8)))⟩ (toBytes ((alB B).take (8 * min left ((alB B).length / 8))))
      else .go (endM last ((alB B).drop (8 * left)) (W ++ toBytes ((alB B).take (8 * left)))) (toBytes ((alB B).take (8 * left))) := rfl
  rw [← hk] at e1
  refine pCond_if (fun hc => ?_) (fun hc => ?_)
  · rw [if_pos (by omega)] at e1
    exact hwt _ _ H4 _ e1 d ⟨_, _, _, _, _, rfl, rfl, rfl, h4, h5, rfl, rfl, rfl⟩
  · have hkk : k = left := by omega
    rw [if_neg (by omega)] at e1
    rw [hkk] at d
    refine ended_spec (left := i64 (left - left)) (sy := sy) (di := di) rfl h4 h5 d fun H5 q' d hs => ?_
    exact hgo _ _ H5 _ e1 d hs
theorem lens_facts : ∀ k : Fin 29, 3 ≤ (lenOf (257 + ((k.val : Nat) : Int))).1 ∧ 0 ≤ (lenOf (257 + ((k.val : Nat) : Int))).2 ∧ (lenOf (257 + ((k.val : Nat) : Int))).2 ≤ 5 ∧ (lenOf (257 + ((k.val : Nat) : Int))).1.toNat + 2 ^ (lenOf (257 + ((k.val : Nat) : Int))).2.toNat ≤ 259 := by decide +kernel
theorem dists_facts : ∀ k : Fin 30, 1 ≤ (distOf ((k.val : Nat) : Int)).1 ∧ 0 ≤ (distOf ((k.val : Nat) : Int)).2 ∧ (distOf ((k.val : Nat) : Int)).2 ≤ 13 ∧ (distOf ((k.val : Nat) : Int)).1.toNat + 2 ^ (distOf ((k.val : Nat) : Int)).2.toNat ≤ 32769 := by decide +kernel
theorem extra_spec {least n : Nat} (hn : n ≤ 32) (hl : least ≤ 100000) (d : Dc H0 H b q B W out L)
    (hok : ∀ x C H', needM n B = .ok x C → x < 2 ^ n → Dc H0 H' b q C W out L → R (.tuple #[i64 (least + x), .int .i64 0]) H')
    (her : needM n B = .er 2 → R (.tuple #[i64 least, .int .i64 2]) H) : CallsH Tryz.prog 104 #[at_ b 0, i64 least, i64 n, .bool true] H R := by
  refine inflate_Decoder_extra.vc _ _ _ _ _ _ ?_
  unfold inflate_Decoder_extra.res
  rw [pNot_v, Bool.not_true, pCond_false, pNil_v, pFieldAddr_v, add_mk]
  obtain ⟨post, rv, bv, ring, o, back⟩ := d.rd
  refine need_spec hn o (fun x C H1 hx hxn o => ?_) (fun hx => ?_)
  · refine pExtract_to rfl ?_
    refine pExtract_to rfl ?_
    have : 2 ^ n ≤ 2 ^ 32 := Nat.pow_le_pow_right (by decide) hn
    rw [pAdd_v, show (least : Int) + (x : Int) = ((least + x : Nat) : Int) by omega, w64 (by omega) (by omega)]
    exact hok x C H1 hx hxn (back _ _ _ o)
  · refine pExtract_to rfl ?_
    refine pExtract_to rfl ?_
    rw [pAdd_v, Int.add_zero, w64 (by omega) (by omega)]
    exact her hx
theorem extra_no {x y : Int} (h : R (.tuple #[.int .i64 0, .int .i64 4]) H) : CallsH Tryz.prog 104 #[at_ b 0, .int .i64 x, .int .i64 y, .bool false] H R := by
  refine inflate_Decoder_extra.vc _ _ _ _ _ _ ?_
  unfold inflate_Decoder_extra.res
  rw [pNot_v, Bool.not_false, pCond_true]
  exact h
theorem match_spec7 {zd : List Int} {s : Nat} {st last left sy di e : Value} (hs : 257 ≤ s) (hsz : W.length + 258 * B.length ≤ 1000000000000) (hB : 0 < B.length ∨ W.length + 258 ≤ 1000000000000) (ho : out.length ≤ W.length) (hc : HasC L zd di) (d : Dc H0 H b [st, last, left, sy, di, fed, e] B W out L)
    (hok : ∀ p C H', matchM zd s B = .ok p C → 1 ≤ p.2 ∧ p.2 ≤ min W.length 32768 → Dc H0 H' b [st, last, left, sy, di, fed, e] C (copyN p.1 W p.2) (out ++ (copyN p.1 W p.2).drop W.length) L → R (.int .i64 0) H')
    (hfar : ∀ p C H', matchM zd s B = .ok p C → ¬ (1 ≤ p.2 ∧ p.2 ≤ min W.length 32768) → Dc H0 H' b [st, last, left, sy, di, fed, e] C W out L → R (.int .i64 6) H')
    (her : ∀ ev C H', matchM zd s B = .er ev → ev ≠ 0 → Dc H0 H' b [st, last, left, sy, di, fed, e] C W out L → R (.int .i64 ev) H') : CallsH Tryz.prog 91 #[at_ b 0, i64 s] H R := by
  generalize hT : matchM zd s B = T at *
  unfold matchM at hT
  rcases Nat.lt_or_ge 285 s with h285 | h285
  · rw [if_pos h285] at hT
    refine inflate_Decoder_match.vc _ _ _ _ ?_
    unfold inflate_Decoder_match.res
    refine lengthOf_spec ?_
    rw [if_pos (.inr (by omega))]
    refine pExtract_to rfl ?_
    refine pExtract_to rfl ?_
    refine pExtract_to rfl ?_
    refine extra_no ?_
    refine pExtract_to rfl ?_
    refine pExtract_to rfl ?_
    refine ne_er (by decide) ?_
    rw [pCond_true]
    exact her 4 B H hT.symm (by decide) d
  rw [if_neg (by omega)] at hT
  refine inflate_Decoder_match.vc _ _ _ _ ?_
  unfold inflate_Decoder_match.res
  refine lengthOf_spec ?_
  rw [if_neg (by omega)]
  refine pExtract_to rfl ?_
  refine pExtract_to rfl ?_
  refine pExtract_to rfl ?_
  obtain ⟨f1, f2, f3, f4⟩ := lens_facts ⟨s - 257, by omega⟩
  have es : (257 : Int) + ((s - 257 : Nat) : Int) = (s : Int) := by omega
  dsimp only at f1 f2 f3 f4
  rw [es] at f1 f2 f3 f4
  have p5 : 0 < 2 ^ (lenOf (s : Int)).2.toNat := Nat.pow_pos (by decide)
  obtain ⟨l1, hl1⟩ : ∃ l1 : Nat, (lenOf (s : Int)).1 = l1 := ⟨_, (Int.toNat_of_nonneg (by omega)).symm⟩
  obtain ⟨n1, hn1⟩ : ∃ n1 : Nat, (lenOf (s : Int)).2 = n1 := ⟨_, (Int.toNat_of_nonneg (by omega)).symm⟩
  rw [hl1] at f1 f4
  rw [hn1] at f2 f3 f4 p5
  rw [hl1, hn1] at hT ⊢
  rw [Int.toNat_natCast, Int.toNat_natCast] at f4 hT
  rw [Int.toNat_natCast] at p5
  refine extra_spec (least := l1) (n := n1) (by omega) (by omega) d (fun x C1 H1 hx hx2 d => ?_) (fun hx => ?_)
  rotate_left
  · rw [hx] at hT
    refine pExtract_to rfl ?_
    refine pExtract_to rfl ?_
    refine ne_er (by decide) ?_
    rw [pCond_true]
    exact her 2 B H hT.symm (by decide) d
  rw [hx] at hT
  dsimp only [Rs.bind] at hT
  refine pExtract_to rfl ?_
  refine pExtract_to rfl ?_
  refine ne_ok ?_
  rw [pCond_false, pNil_v, pFieldAddr_v, add_mk]
  refine d.pl (g := 0 + 11) (x := di) (by decide) rfl ?_
  rw [pNil_v, pFieldAddr_v, add_mk]
  obtain ⟨post, rv, bv, ring, o, back⟩ := d.rd
  refine nextC_spec hc.cons.cons o (fun k C2 H2 hk hkl o => ?_) (fun ev H2 hk he o => ?_)
  rotate_left
  · rw [hk] at hT
    dsimp only [Rs.bind] at hT
    refine pExtract_to rfl ?_
    refine pExtract_to rfl ?_
    refine ne_er he ?_
    rw [pCond_true]
    exact her ev C1 H2 hT.symm he (back _ _ _ o)
  rw [hk] at hT
  dsimp only [Rs.bind] at hT
  have d := back H2 C2 L o
  refine pExtract_to rfl ?_
  refine pExtract_to rfl ?_
  refine ne_ok ?_
  rw [pCond_false]
  refine distOf_spec ?_
  rcases Nat.lt_or_ge 29 k with h29 | h29
  · rw [if_pos h29] at hT
    rw [if_pos (.inr (by omega))]
    refine pExtract_to rfl ?_
    refine pExtract_to rfl ?_
    refine pExtract_to rfl ?_
    refine extra_no ?_
    refine pExtract_to rfl ?_
    refine pExtract_to rfl ?_
    refine ne_er (by decide) ?_
    rw [pCond_true]
    exact her 4 C2 H2 hT.symm (by decide) d
  rw [if_neg (by omega)] at hT
  rw [if_neg (by omega)]
  refine pExtract_to rfl ?_
  refine pExtract_to rfl ?_
  refine pExtract_to rfl ?_
  obtain ⟨g1, g2, g3, g4⟩ := dists_facts ⟨k, by omega⟩
  dsimp only at g1 g2 g3 g4
  obtain ⟨l2, hl2⟩ : ∃ l2 : Nat, (distOf (k : Int)).1 = l2 := ⟨_, (Int.toNat_of_nonneg (by omega)).symm⟩
  obtain ⟨n2, hn2⟩ : ∃ n2 : Nat, (distOf (k : Int)).2 = n2 := ⟨_, (Int.toNat_of_nonneg (by omega)).symm⟩
  have p6 : 0 < 2 ^ (distOf (k : Int)).2.toNat := Nat.pow_pos (by decide)
  rw [hl2] at g1 g4
  rw [hn2] at g2 g3 g4 p6
  rw [hl2, hn2] at hT ⊢
  rw [Int.toNat_natCast, Int.toNat_natCast] at g4 hT
  rw [Int.toNat_natCast] at p6
  refine extra_spec (least := l2) (n := n2) (by omega) (by omega) d (fun y C3 H3 hy hy2 d => ?_) (fun hy => ?_)
  rotate_left
  · rw [hy] at hT
    refine pExtract_to rfl ?_
    refine pExtract_to rfl ?_
    refine ne_er (by decide) ?_
    rw [pCond_true]
    exact her 2 C2 H2 hT.symm (by decide) d
  rw [hy] at hT
  dsimp only [Rs.bind] at hT
  refine pExtract_to rfl ?_
  refine pExtract_to rfl ?_
  refine ne_ok ?_
  rw [pCond_false, pNil_v, pFieldAddr_v, add_mk]
  obtain ⟨bp, bv, hbp, hbv, w⟩ := d
  have hsum : l1 + x ≤ 258 := by omega
  by_cases hd : 1 ≤ l2 + y ∧ l2 + y ≤ min W.length 32768
  · refine wcopy7 w hsum hd.1 hd.2 (by rcases hB with h | h <;> omega) fun H4 w => ?_
    refine pExtract_to rfl ?_
    refine pExtract_to rfl ?_
    rw [pNot_v, Bool.not_true, pCond_false, pNil_v, pFieldAddr_v, add_mk]
    have hcl := copyN_len (l1 + x) W (l2 + y)
    refine bwriteS7 (by rfl) (by rw [List.length_drop, hcl]; rcases hB with h | h <;> omega) ⟨bp, bv, hbp, hbv, w⟩ fun H5 d => ?_
    exact hok (l1 + x, l2 + y) C3 H5 hT.symm hd d
  · refine wcopy_no7 w hsum (by omega) ?_
    refine pExtract_to rfl ?_
    refine pExtract_to rfl ?_
    rw [pNot_v, Bool.not_false, pCond_true]
    exact hfar (l1 + x, l2 + y) C3 H3 hT.symm hd ⟨bp, bv, hbp, hbv, w⟩
theorem symbol_spec7 {zs zd : List Int} {l : Bool} (hq : StQ L fed (.tl zs zd l) q) (hsz : W.length + 258 * B.length ≤ 1000000000000) (ho : out.length ≤ W.length) (d : Dc H0 H b q B W out L)
    (hgo : ∀ D' o H' q', stepM ⟨.tl zs zd l, B, W⟩ = .go D' o → Dc H0 H' b q' D'.B D'.W (out ++ o) L → StQ L fed D'.st q' → R (.int .i64 0) H')
    (her : ∀ e C H', stepM ⟨.tl zs zd l, B, W⟩ = SR.of ⟨.tl zs zd l, B, W⟩ e → e ≠ 0 → Dc H0 H' b q C W out L → R (.int .i64 e) H') : CallsH Tryz.prog 62 #[at_ b 0] H R := by
  have hq0 := hq
  obtain ⟨_, _, left, sy, di, rfl, -, h3, h4, h5, rfl, rfl, hc1, hc2⟩ := hq
  have e1 : stepM ⟨.tl zs zd l, B, W⟩ = match nextM zs B with
    | .er e => SR.of ⟨.tl zs zd l, B, W⟩ e
    | .ok s B2 => if s = 256 then .go (endM l B2 W) [] else if s < 256 then .go ⟨.tl zs zd l, B2, W ++ [UInt8.ofNat s]⟩ [UInt8.ofNat s] else match matchM zd s B2 with
      | .er e => SR.of ⟨.tl zs zd l, B, W⟩ e
      | .ok p B2 => if 1 ≤ p.2 ∧ p.2 ≤ min W.length 32768 then .go ⟨.tl zs zd l, B2, copyN p.1 W p.2⟩ ((copyN p.1 W p.2).drop W.length) else .bad 6 := rfl
  refine inflate_Decoder_symbol.vc _ _ _ ?_
  unfold inflate_Decoder_symbol.res
  rw [pNil_v, pFieldAddr_v, add_mk]
  refine d.pl (g := 0 + 10) (x := sy) (by decide) rfl ?_
  rw [pNil_v, pFieldAddr_v, add_mk]
  obtain ⟨post, rv, bv, ring, o, back⟩ := d.rd
  refine nextC_spec hc1.cons.cons o (fun s C1 H1 hs hsl o => ?_) (fun ev H1 hs he o => ?_)
  rotate_left
  · rw [hs] at e1
    refine pExtract_to rfl ?_
    refine pExtract_to rfl ?_
    refine ne_er he ?_
    rw [pCond_true]
    exact her ev B H1 e1 he (back _ _ _ o)
  have hone := nextM_one hs
  rw [hs] at e1
  dsimp only at e1
  have d := back H1 C1 L o
  refine pExtract_to rfl ?_
  refine pExtract_to rfl ?_
  refine ne_ok ?_
  rw [pCond_false, pEq_0]
  refine pCond_if (fun h256 => ?_) (fun h256 => ?_)
  · rw [if_pos (by omega)] at e1
    refine ended_spec h3 h4 h5 d fun H2 q' d hs => ?_
    exact hgo _ _ H2 _ e1 (by rw [List.append_nil]; exact d) hs
  rw [if_neg (by omega)] at e1
  rw [pGt_v]
  refine pCond_if (fun hgt => ?_) (fun hgt => ?_)
  · rw [if_neg (by omega)] at e1
    refine match_spec7 (by omega) (by omega) (.inr (by omega)) ho hc2 d (fun p C H2 hm hp d => ?_) (fun p C H2 hm hp d => ?_) (fun ev C H2 hm he d => ?_)
    · rw [hm] at e1
      dsimp only at e1
      rw [if_pos hp] at e1
      exact hgo _ _ H2 _ e1 d hq0
    · rw [hm] at e1
      dsimp only at e1
      rw [if_neg hp] at e1
      refine her 6 C H2 (by rw [e1]; rfl) (by decide) d
    · rw [hm] at e1
      exact her ev C H2 e1 he d
  · rw [if_pos (by omega)] at e1
    rw [pNil_v, pFieldAddr_v, add_mk]
    refine pConv_to ?_
    have eb : Value.int .u8 (IntKind.u8.wrap (s : Int)) = byteV (UInt8.ofNat s) := by
      have := byte_low (v := s)
      rw [Nat.mod_eq_of_lt (by omega)] at this
      exact this
    rw [eb]
    obtain ⟨bp, bv, hbp, hbv, w⟩ := d
    refine wput7 w (by omega) fun H2 w => ?_
    rw [pNil_v, pFieldAddr_v, add_mk]
    refine pConv_to ?_
    rw [eb]
    refine bwriteB7 (by rfl) (by omega) ⟨bp, bv, hbp, hbv, w⟩ fun H3 d => ?_
    exact hgo _ _ H3 _ e1 d hq0
end Go.Proofs.YtameljhbkedhjaaGreatDoor
namespace Go.Proofs.YtameljhbkedhjaaGreatDoor
open Go Go.Vc Go.Proofs
set_option linter.unusedVariables false
set_option linter.unusedSimpArgs false
variable {H H0 : Heap} {R : Value → Heap → Prop} {v fed : Value} {B : List Bool} {L M : List It} {b : Nat} {q : List Value} {W out : List UInt8}
theorem StQ.any {s : St} (h : StQ L fed s q) (hd : s.isDn = false) : AnyQ fed q := by
  obtain ⟨st, last, left, sy, di, rfl, h2, h3, h4, h5, h6⟩ := h
  cases s with
  | hd => subst h6; exact ⟨0, _, _, _, _, rfl, by decide, h2, h3, h4, h5⟩
  | cp n l => obtain ⟨rfl, rfl, rfl⟩ := h6; exact ⟨1, _, _, _, _, rfl, by decide, h2, h3, h4, h5⟩
  | tl zs zd l => obtain ⟨rfl, rfl, _⟩ := h6; exact ⟨2, _, _, _, _, rfl, by decide, h2, h3, h4, h5⟩
  | dn => cases hd
theorem i64_inj {a c : Nat} (h : i64 a = i64 c) : a = c := by
  simp only [Value.int.injEq, true_and] at h; omega
def leftOk : St → Prop
  | .cp n _ => n ≤ 65535
  | _ => True
theorem Dc.items {v' : It} (d : Dc H0 H b q B W out (M ++ v' :: L)) : Dc H0 H b q B W out (M ++ L) := by
  obtain ⟨post, rv, bv, ring, o, back⟩ := d.rd
  exact back H B _ (o.pick (List.Sublist.cons_cons _ (List.Sublist.cons_cons _ (List.Sublist.cons_cons _ (List.Sublist.append (List.Sublist.refl M) (List.sublist_cons_self _ _))))))
theorem HasC.strike {zs : List Int} {p : Value} {c : Nat} {cs : List Value} (h : HasC (M ++ .box c cs 52 :: L) zs p) : HasC (M ++ L) zs p := by
  obtain ⟨h1, cb, lv, wv, sv, h2, h3⟩ := h
  refine ⟨h1, cb, lv, wv, sv, h2, fun i hi => ?_⟩
  rcases List.mem_append.1 (h3 i hi) with g | g
  · exact List.mem_append_left _ g
  · rcases List.mem_cons.1 g with rfl | g
    · simp only [codeIts, List.mem_cons, List.not_mem_nil, or_false, It.box.injEq, reduceCtorEq, or_self] at hi
      exact absurd hi.2.2 (by decide)
    · exact List.mem_append_right _ g
theorem StQ.strike {s : St} {c : Nat} {cs : List Value} (h : StQ (M ++ .box c cs 52 :: L) fed s q) : StQ (M ++ L) fed s q := by
  obtain ⟨st, last, left, sy, di, h1, h2, h3, h4, h5, h6⟩ := h
  refine ⟨st, last, left, sy, di, h1, h2, h3, h4, h5, ?_⟩
  cases s with
  | tl zs zd l => exact ⟨h6.1, h6.2.1, h6.2.2.1.strike, h6.2.2.2.strike⟩
  | _ => exact h6
theorem step_spec7 {D : DM} (hG : Reads H0 ⟨1, 0, none⟩ ordV) (hq : StQ L fed D.st q) (hd : D.st.isDn = false) (hlo : leftOk D.st) (hsz : D.W.length + 258 * D.B.length ≤ 1000000000000) (ho : out.length ≤ D.W.length) (d : Dc H0 H b q D.B D.W out L)
    (hgo : ∀ D' o H' M q', stepM D = .go D' o → Dc H0 H' b q' D'.B D'.W (out ++ o) (M ++ L) → StQ (M ++ L) fed D'.st q' → R (.int .i64 0) H')
    (hwt : ∀ D' o H' q', stepM D = .wait D' o → Dc H0 H' b q' D'.B D'.W (out ++ o) L → StQ L fed D'.st q' → R (.int .i64 2) H')
    (hbd : ∀ e H' C q', stepM D = .bad e → e ≠ 0 → e ≠ 2 → Dc H0 H' b q' C D.W out L → AnyQ fed q' → R (.int .i64 e) H') : CallsH Tryz.prog 30 #[at_ b 0] H R := by
  obtain ⟨s, B, W⟩ := D
  dsimp only at hq hd hlo hsz ho d hbd
  have hany := hq.any hd
  obtain ⟨n0, last, left, sy, di, rfl, hn3, hla, hle, hsy, hdi⟩ := hany
  refine inflate_Decoder_step.vc _ _ _ ?_
  unfold inflate_Decoder_step.res
  rw [pNil_v, pFieldAddr_v, add_mk]
  obtain ⟨post, rv, bv, ring, o, back⟩ := d.rd
  obtain ⟨rest, acc, n, h1, hB, hacc, hn40, hbig⟩ := o.thing (T := rdP b post 76 B) (by repeat (first | exact List.mem_cons_self | apply List.mem_cons_of_mem))
  have hR : ∀ {H' : Heap}, H'[b]? = H[b]? → Reads H' ⟨b, 0, none⟩ [str rest, u64 acc, i64 n] := fun {H'} he i x hx => by
    have hs := (Sub.all (he.trans h1)).part (x := []) (y := [str rest, u64 acc, i64 n]) (z := post)
    rw [add_mk]
    have := hs.cell (k := i) hx
    simpa using this
  refine (hR rfl).loadN (n := 3) rfl ?_
  rw [pNil_v, pFieldAddr_v, add_mk]
  refine d.pl (g := 0 + 7) (x := i64 n0) (by decide) rfl ?_
  refine pBox_ext fun H1 s1 e1 b1 => ?_
  have hbH := lt_of_blk h1
  have o1 := o.add (i := .box H.size [.string ⟨#[]⟩, .int .u64 0, .int .i64 0] 52) e1 b1 (fun k hk => by simp only [It.foot] at hk; omega)
  have o1 : Owns H0 H1 (rdI b post 76 B :: .sl rv 1 (ring.map byteV) :: .thing (bufT bv out) :: .box H.size [.string ⟨#[]⟩, .int .u64 0, .int .i64 0] 52 :: L) := o1.arrT (by repeat (first | exact SelsT.refl | exact Sel.here | apply SelsT.cons | apply Sel.there))
  have d1 := back H1 B _ o1
  refine ⟨(hR (e1.get b hbH)).loadN (n := 3) rfl rfl, d1.pl (g := 0 + 7) (x := i64 n0) (by decide) rfl rfl, ?_⟩
  have hpost := o1
  refine o1.bstoreN (b := H.size) (vs := [str rest, u64 acc, i64 n]) (by repeat (first | exact List.mem_cons_self | apply List.mem_cons_of_mem)) rfl rfl rfl (by repeat (first | exact Rep.here | apply Rep.there)) fun H2 o2 _ => ?_
  have d2 := back H2 B _ o2
  refine ⟨d2.pl (g := 0 + 7) (x := i64 n0) (by decide) rfl rfl, ?_⟩
  have hqb : StQ (.box H.size [str rest, u64 acc, i64 n] 52 :: L) fed s [i64 n0, last, left, sy, di, fed, .int .i64 0] := hq.mono fun _ => List.mem_cons_of_mem _
  generalize hbx : It.box H.size [str rest, u64 acc, i64 n] 52 = bx at *
  refine ⟨fun e H' => (e = .int .i64 0 ∧ ∃ D' o M q', stepM ⟨s, B, W⟩ = .go D' o ∧ Dc H0 H' b q' D'.B D'.W (out ++ o) (M ++ bx :: L) ∧ StQ (M ++ bx :: L) fed D'.st q') ∨
      (e = .int .i64 2 ∧ stepM ⟨s, B, W⟩ = .wait ⟨s, B, W⟩ [] ∧ ∃ C q', Dc H0 H' b q' C W out (bx :: L) ∧ StQ L fed s (q'.set 0 (i64 n0))) ∨
      (∃ ev C q', e = .int .i64 ev ∧ ev ≠ 0 ∧ ev ≠ 2 ∧ stepM ⟨s, B, W⟩ = .bad ev ∧ Dc H0 H' b q' C W out (bx :: L) ∧ AnyQ fed q'), ?_, ?_⟩
  · rintro _ _ H3 (⟨rfl, D', o, M, q', hs, d, hq'⟩ | ⟨rfl, hs, C, q', d, hq'⟩ | ⟨ev, C, q', rfl, h0, h2, hs, d, hq'⟩)
    · rw [pEq_0, decide_eq_false (by decide), pCond_false]
      subst hbx
      exact hgo D' o H3 M q' hs d.items hq'.strike
    · rw [pEq_0, decide_eq_true rfl, pCond_true]
      obtain ⟨post, rv, bv, ring, o, back⟩ := d.rd
      refine o.bloadN (b := H.size) (cs := [str rest, u64 acc, i64 n]) (t := 52) (n := 3) (by subst hbx; repeat (first | exact List.mem_cons_self | apply List.mem_cons_of_mem)) rfl ?_
      rw [pNil_v, pFieldAddr_v, add_mk]
      refine o.p3s (B' := B) Rep.here hB hacc hn40 hbig fun H4 o _ => ?_
      have d := back H4 B _ o
      rw [pNil_v, pFieldAddr_v, add_mk]
      have hl := hq'.len
      rw [List.length_set] at hl
      refine d.ps (g := 0 + 7) (by decide) (by omega) rfl fun H5 d => ?_
      exact hwt _ [] H5 _ hs (by rw [List.append_nil]; exact Dc.items (M := []) d) hq'
    · rw [pEq_0, decide_eq_false h2, pCond_false]
      exact hbd ev H3 C q' hs h0 h2 (Dc.items (M := []) d) hq'
  · have bad : ∀ {e : Int}, e ≠ 0 → e ≠ 2 → stepM ⟨s, B, W⟩ = SR.of ⟨s, B, W⟩ e → stepM ⟨s, B, W⟩ = .bad e := fun _ h hh => by rw [hh]; unfold SR.of; rw [if_neg h]
    have wt : ∀ {e : Int}, e = 2 → stepM ⟨s, B, W⟩ = SR.of ⟨s, B, W⟩ e → stepM ⟨s, B, W⟩ = .wait ⟨s, B, W⟩ [] := fun h hh => by rw [hh]; unfold SR.of; rw [if_pos h]
    rw [pNil_v, pFieldAddr_v, add_mk]
    refine d2.pl (g := 0 + 7) (x := i64 n0) (by decide) rfl ?_
    cases s with
    | hd =>
      have hn0 : n0 = 0 := by obtain ⟨_, _, _, _, _, hqe, _, _, _, _, hst⟩ := hq; exact i64_inj ((List.cons.inj hqe).1.trans hst)
      subst hn0
      rw [pEq_0, decide_eq_true (p := ((0 : Nat) : Int) = 0) rfl, pCond_true]
      refine head_spec7 hG ⟨0, last, left, sy, di, rfl, by decide, hla, hle, hsy, hdi⟩ d2 (fun st C H3 M q' hh d hs => ?_) (fun e H3 C q' hh he d hs => ?_)
      · exact .inl ⟨rfl, ⟨st, C, W⟩, [], M, q', by unfold stepM; rw [hh], by rw [List.append_nil]; exact d, hs⟩
      · have hst : stepM ⟨.hd, B, W⟩ = SR.of ⟨.hd, B, W⟩ e := by conv => lhs; unfold stepM; rw [hh]
        by_cases h2 : e = 2
        · refine .inr (.inl ⟨by rw [h2], wt h2 hst, C, q', d, ?_⟩)
          obtain ⟨n', last, left, sy, di, rfl, g1, g2, g3, g4, g5⟩ := hs
          exact ⟨_, _, _, _, _, rfl, g2, g3, g4, g5, rfl⟩
        · exact .inr (.inr ⟨e, C, q', rfl, he, h2, bad he h2 hst, d, hs⟩)
    | cp nl l =>
      have hn0 : n0 = 1 := by obtain ⟨_, _, _, _, _, hqe, _, _, _, _, hst, _⟩ := hq; exact i64_inj ((List.cons.inj hqe).1.trans hst)
      subst hn0
      rw [pEq_0, decide_eq_false (by decide), pCond_false, pEq_0, decide_eq_true (p := ((1 : Nat) : Int) = 1) rfl, pCond_true]
      refine copied_spec hqb hlo hsz ho d2 (fun D' o H3 q' hh d hs => ?_) (fun D' o H3 q' hh d hs => ?_)
      · subst hbx; exact hgo D' o H3 [] q' hh (Dc.items (M := []) d) (StQ.strike (M := []) hs)
      · subst hbx; exact hwt D' o H3 q' hh (Dc.items (M := []) d) (StQ.strike (M := []) hs)
    | tl zs zd l =>
      have hn0 : n0 = 2 := by obtain ⟨_, _, _, _, _, hqe, _, _, _, _, hst, _⟩ := hq; exact i64_inj ((List.cons.inj hqe).1.trans hst)
      subst hn0
      rw [pEq_0, decide_eq_false (by decide), pCond_false, pEq_0, decide_eq_false (by decide), pCond_false, pEq_0, decide_eq_true (p := ((2 : Nat) : Int) = 2) rfl, pCond_true]
      refine symbol_spec7 hqb hsz ho d2 (fun D' o H3 q' hh d hs => ?_) (fun e C H3 hh he d => ?_)
      · exact .inl ⟨rfl, D', o, [], q', hh, d, hs⟩
      · by_cases h2 : e = 2
        · exact .inr (.inl ⟨by rw [h2], wt h2 hh, C, _, d, hq⟩)
        · exact .inr (.inr ⟨e, C, _, rfl, he, h2, bad he h2 hh, d, hq.any rfl⟩)
    | dn => cases hd
end Go.Proofs.YtameljhbkedhjaaGreatDoor
