/- Contracts of package crc. -/
import Derived.Test.YtaopejkbnohiiaaCrcNum
import Derived.Test.YtaopejkbnohiiaaBitList
import Derived.Test.YtaopejkbnohiiaaVcOwn
import Derived.Test.YtaopejkbnohiiaaResCrc
namespace Go.Proofs.Ytaopejkbnohiiaa
open Go Go.Vc Go.Proofs
set_option linter.unusedVariables false
set_option linter.unusedSimpArgs false
variable {H : Heap} {R : Value → Heap → Prop}
/-- numbers of 32 bits as values -/
abbrev n32 (n : Nat) : Value := .int .u32 (n : Int)
theorem shr_nat {k k' : IntKind} {n : Nat} {j : Int} {K : Value → Prop} (h0 : 0 ≤ j) (h1 : j.toNat ≤ k.bits) : pShr (.int k (n : Int)) (.int k' j) K = K (.int k ((n / 2 ^ j.toNat : Nat) : Int)) := by
  rw [pShr_v, Nat.min_eq_left h1, Int.fdiv_eq_ediv_of_nonneg _ (Int.le_of_lt (Int.pow_pos (by decide)))]
  rw [show ((2 : Int) ^ j.toNat) = ((2 ^ j.toNat : Nat) : Int) by rw [Int.natCast_pow]; rfl, ← Int.natCast_ediv]
  exact propext ⟨fun h => h.2, fun h => ⟨h0, h⟩⟩
theorem sh1_32 {n : Nat} : ((n : Nat) : Int).fdiv (2 ^ min (Int.toNat 1) IntKind.u32.bits) = ((n / 2 ^ 1 : Nat) : Int) := fdiv_nat rfl
theorem sh8_32 {n : Nat} : ((n : Nat) : Int).fdiv (2 ^ min (Int.toNat 8) IntKind.u32.bits) = ((n / 2 ^ 8 : Nat) : Int) := fdiv_nat rfl
theorem sh1_64 {n : Nat} : ((n : Nat) : Int).fdiv (2 ^ min (Int.toNat 1) IntKind.i64.bits) = ((n / 2 ^ 1 : Nat) : Int) := fdiv_nat rfl
theorem t1_odd {s : Nat} (h : s % 2 = 1) : t1 s = s / 2 ^ 1 ^^^ 3988292384 := by unfold t1; rw [decide_eq_true h]; rfl
theorem t1_even {s : Nat} (h : ¬ s % 2 = 1) : t1 s = s / 2 ^ 1 := by unfold t1; rw [decide_eq_false h]; simp
theorem and_one (n : Nat) : n &&& 1 = n % 2 := Nat.and_one_is_mod n
/-- the table's cells -/
def tabL : List Value := (List.range 256).map fun i => n32 (tn 8 i)
def tabPart (k : Nat) : List Value := (List.range 256).map fun i => n32 (if i < k then tn 8 i else 0)
structure Tab (H : Heap) (b : Nat) : Prop where
  blk : H[b]? = some (.cells tabL.toArray 93 (0, 0))
theorem Tab.ext {H' : Heap} {b : Nat} (h : Tab H b) (hx : Ext H H') : Tab H' b := ⟨hx.blk h.blk⟩
abbrev tptr (b : Nat) : Value := .pointer (some ⟨b, 0, none⟩)
theorem tabPart_zero : tabPart 0 = List.replicate 256 (n32 0) := by
  apply List.ext_getElem?
  intro i
  unfold tabPart
  by_cases hi : i < 256
  · rw [List.getElem?_map, List.getElem?_range hi, List.getElem?_replicate, if_pos hi]; rfl
  · rw [List.getElem?_eq_none (by rw [List.length_map, List.length_range]; omega), List.getElem?_eq_none (by rw [List.length_replicate]; omega)]
theorem tabPart_set {k : Nat} (hk : k < 256) : (tabPart k).set k (n32 (tn 8 k)) = tabPart (k + 1) := by
  apply List.ext_getElem?
  intro i
  unfold tabPart
  by_cases hi : i < 256
  · rw [List.getElem?_map, List.getElem?_range hi]
    by_cases h : i = k
    · subst h
      rw [List.getElem?_set_self (by simp; exact hi)]
      simp
    · rw [List.getElem?_set_ne (fun e => h e.symm), List.getElem?_map, List.getElem?_range hi]
      have : (i < k + 1) ↔ i < k := by omega
      simp [this]
  · rw [List.getElem?_eq_none (by simp; omega), List.getElem?_eq_none (by simp; omega)]
theorem tMake_spec (h : ∀ H' b, Tab H' b → Ext H H' → H.size ≤ b → R (tptr b) H') : CallsH Try.prog 31 #[] H R := by
  refine crc_Make.vc _ _ ?_
  unfold crc_Make.res
  refine pBox_ext fun H1 s1 e1 b1 => ?_
  refine ⟨fun v H' => ∃ k : Nat, v = .int .i64 k ∧ k ≤ 256 ∧ Ext H H' ∧ H'[H.size]? = some (.cells (tabPart k).toArray 93 (0, 0)), fun v _ => match v with | .int _ k => (256 - k).toNat | _ => 0, ⟨0, rfl, by omega, e1, ?_⟩, ?_⟩
  · rw [b1, tabPart_zero]; rfl
  rintro _ _ H2 ⟨k, rfl, hk, e2, b2⟩
  simp only [pPick_v, pNil_v, pNil_f, pAdd_v, pSub_v, pMul_v, pAdd_s, pQuo_v, pRem_v, pBits_v, pShl_v, pShr_v, pLt_v, pLe_v, pGt_v, pGe_v, pEq_0, pNe_0, pEq_1, pNe_1, pEq_2, pNe_2, pEq_3n, pNe_3n, pEq_3s, pNe_3s, pEq_3t, pNe_3t, pEq_5n, pNe_5n, pEq_5s, pNe_5s, pEq_5t, pNe_5t, pEq_4n, pNe_4n, pEq_4s, pNe_4s, pNot_v, pNeg_v, pCom_v, pConv_v, pConvS_v, pMin_v, pMax_v, pFieldAddr_v, pField1_v, pFieldN_v, pExtract_v, pIdxArr_v, pIdxSl_v, pIdxStr_v, pBounds_00, pBounds_10, pBounds_01, pBounds_11, pSlStr_v, pSlSl_v, pSlArr_v, pLenS_v, pLen_v, pCap_v, pBuild_n, pBuild_c, cells_int, cells_str, cells_bool, cells_ptr, cells_slice, cells_map, cells_agg, oneCell_int, oneCell_str, oneCell_bool, oneCell_ptr, oneCell_slice, oneCell_map, putL_cons, putL_nil, pAnd_pure, pOr_pure, pAnd_pureE, pOr_pureE, pAnd_false, pOr_true, pCond_true, pCond_false, add_mk, bys_mk, bys_size, cond_true, cond_false, decide_true, decide_false, decide_not', dec_and, dec_or, dec_eqt, Bool.not_true, Bool.not_false, Option.isNone_none, Option.isNone_some, Option.map_some, Option.map_none, List.getElem?_toArray, List.getElem?_cons_zero, List.getElem?_cons_succ, List.size_toArray, List.length_cons, List.length_nil, List.length_replicate, List.set_cons_zero, List.set_cons_succ, Nat.reduceAdd, Nat.reduceMul, Nat.reduceSub, Nat.reduceLeDiff, Nat.zero_add, Nat.add_zero, Nat.zero_le, true_and, and_true, not_false_eq_true, ne_eq, Int.reduceNeg, Int.reduceEq, Int.reduceNe, Int.reduceLT, Int.reduceLE, le_refl', List.setIfInBounds_toArray, Nat.reduceLT, Array.size_setIfInBounds, if_true, if_false, reduceCtorEq, List.toArray_toList', List.drop_succ_cons, List.drop_zero, List.take_succ_cons, List.take_zero, List.nil_append, List.append_nil, List.cons_append, Bool.and_true, Bool.true_and, Bool.or_false, Bool.false_or, Bool.and_false, Bool.or_true, Bool.true_or, Bool.false_and, eq_self]
  refine pCond_if (fun hc => ?_) (fun hc => ?_)
  · rw [wu32 (by omega) (by omega)]
    refine ⟨fun v u H' => ∃ j : Nat, u = .int .i64 j ∧ j ≤ 8 ∧ v = n32 (tn j k) ∧ H2 = H', fun v u _ => match u with | .int _ k => (8 - k).toNat | _ => 0, ⟨0, rfl, by omega, rfl, rfl⟩, ?_⟩
    rintro _ _ _ _ ⟨j, rfl, hj, rfl, rfl⟩
    have hlt := tn_lt j (s := k) (by omega)
    simp only [pPick_v, pNil_v, pNil_f, pAdd_v, pSub_v, pMul_v, pAdd_s, pQuo_v, pRem_v, pBits_v, pShl_v, pShr_v, pLt_v, pLe_v, pGt_v, pGe_v, pEq_0, pNe_0, pEq_1, pNe_1, pEq_2, pNe_2, pEq_3n, pNe_3n, pEq_3s, pNe_3s, pEq_3t, pNe_3t, pEq_5n, pNe_5n, pEq_5s, pNe_5s, pEq_5t, pNe_5t, pEq_4n, pNe_4n, pEq_4s, pNe_4s, pNot_v, pNeg_v, pCom_v, pConv_v, pConvS_v, pMin_v, pMax_v, pFieldAddr_v, pField1_v, pFieldN_v, pExtract_v, pIdxArr_v, pIdxSl_v, pIdxStr_v, pBounds_00, pBounds_10, pBounds_01, pBounds_11, pSlStr_v, pSlSl_v, pSlArr_v, pLenS_v, pLen_v, pCap_v, pBuild_n, pBuild_c, cells_int, cells_str, cells_bool, cells_ptr, cells_slice, cells_map, cells_agg, oneCell_int, oneCell_str, oneCell_bool, oneCell_ptr, oneCell_slice, oneCell_map, putL_cons, putL_nil, pAnd_pure, pOr_pure, pAnd_pureE, pOr_pureE, pAnd_false, pOr_true, pCond_true, pCond_false, add_mk, bys_mk, bys_size, cond_true, cond_false, decide_true, decide_false, decide_not', dec_and, dec_or, dec_eqt, Bool.not_true, Bool.not_false, Option.isNone_none, Option.isNone_some, Option.map_some, Option.map_none, List.getElem?_toArray, List.getElem?_cons_zero, List.getElem?_cons_succ, List.size_toArray, List.length_cons, List.length_nil, List.length_replicate, List.set_cons_zero, List.set_cons_succ, Nat.reduceAdd, Nat.reduceMul, Nat.reduceSub, Nat.reduceLeDiff, Nat.zero_add, Nat.add_zero, Nat.zero_le, true_and, and_true, not_false_eq_true, ne_eq, Int.reduceNeg, Int.reduceEq, Int.reduceNe, Int.reduceLT, Int.reduceLE, le_refl', List.setIfInBounds_toArray, Nat.reduceLT, Array.size_setIfInBounds, if_true, if_false, reduceCtorEq, List.toArray_toList', List.drop_succ_cons, List.drop_zero, List.take_succ_cons, List.take_zero, List.nil_append, List.append_nil, List.cons_append, Bool.and_true, Bool.true_and, Bool.or_false, Bool.false_or, Bool.and_false, Bool.or_true, Bool.true_or, Bool.false_and, eq_self]
    refine pCond_if (fun hc2 => ?_) (fun hc2 => ?_)
    · rw [show (1 : Int) = ((1 : Nat) : Int) from rfl, and_u32 hlt (by decide), and_one]
      rw [show ((1 : Nat) : Int) = (1 : Int) from rfl]
      rw [sh1_32]
      refine pCond_if (fun hc3 => ?_) (fun hc3 => ?_)
      · rw [show (3988292384 : Int) = ((3988292384 : Nat) : Int) from rfl, xor_u32 (by omega) (by decide), ← t1_odd (by omega), w64 (by omega) (by omega)]
        exact ⟨⟨j + 1, rfl, by omega, by rw [tn_succ]⟩, by show (_ : Int).toNat < (_ : Int).toNat; omega⟩
      · rw [← t1_even (by omega), w64 (by omega) (by omega)]
        exact ⟨⟨j + 1, rfl, by omega, by rw [tn_succ]⟩, by show (_ : Int).toNat < (_ : Int).toNat; omega⟩
    · have hje : j = 8 := by omega
      subst hje
      refine ⟨by omega, by omega, ?_⟩
      simp only [pPick_v, pNil_v, pNil_f, pAdd_v, pSub_v, pMul_v, pAdd_s, pQuo_v, pRem_v, pBits_v, pShl_v, pShr_v, pLt_v, pLe_v, pGt_v, pGe_v, pEq_0, pNe_0, pEq_1, pNe_1, pEq_2, pNe_2, pEq_3n, pNe_3n, pEq_3s, pNe_3s, pEq_3t, pNe_3t, pEq_5n, pNe_5n, pEq_5s, pNe_5s, pEq_5t, pNe_5t, pEq_4n, pNe_4n, pEq_4s, pNe_4s, pNot_v, pNeg_v, pCom_v, pConv_v, pConvS_v, pMin_v, pMax_v, pFieldAddr_v, pField1_v, pFieldN_v, pExtract_v, pIdxArr_v, pIdxSl_v, pIdxStr_v, pBounds_00, pBounds_10, pBounds_01, pBounds_11, pSlStr_v, pSlSl_v, pSlArr_v, pLenS_v, pLen_v, pCap_v, pBuild_n, pBuild_c, cells_int, cells_str, cells_bool, cells_ptr, cells_slice, cells_map, cells_agg, oneCell_int, oneCell_str, oneCell_bool, oneCell_ptr, oneCell_slice, oneCell_map, putL_cons, putL_nil, pAnd_pure, pOr_pure, pAnd_pureE, pOr_pureE, pAnd_false, pOr_true, pCond_true, pCond_false, add_mk, bys_mk, bys_size, cond_true, cond_false, decide_true, decide_false, decide_not', dec_and, dec_or, dec_eqt, Bool.not_true, Bool.not_false, Option.isNone_none, Option.isNone_some, Option.map_some, Option.map_none, List.getElem?_toArray, List.getElem?_cons_zero, List.getElem?_cons_succ, List.size_toArray, List.length_cons, List.length_nil, List.length_replicate, List.set_cons_zero, List.set_cons_succ, Nat.reduceAdd, Nat.reduceMul, Nat.reduceSub, Nat.reduceLeDiff, Nat.zero_add, Nat.add_zero, Nat.zero_le, true_and, and_true, not_false_eq_true, ne_eq, Int.reduceNeg, Int.reduceEq, Int.reduceNe, Int.reduceLT, Int.reduceLE, le_refl', List.setIfInBounds_toArray, Nat.reduceLT, Array.size_setIfInBounds, if_true, if_false, reduceCtorEq, List.toArray_toList', List.drop_succ_cons, List.drop_zero, List.take_succ_cons, List.take_zero, List.nil_append, List.append_nil, List.cons_append, Bool.and_true, Bool.true_and, Bool.or_false, Bool.false_or, Bool.and_false, Bool.or_true, Bool.true_or, Bool.false_and, eq_self, Int.toNat_natCast, Nat.mul_one]
      refine pStore_upd b2 (by simp [tabPart]; omega) rfl fun H3 s3 u3 => ?_
      rw [w64 (by omega) (by omega)]
      refine ⟨⟨k + 1, rfl, by omega, u3.ext e2 (Nat.le_refl _), ?_⟩, by show (_ : Int).toNat < (_ : Int).toNat; omega⟩
      rw [u3.at_, List.setIfInBounds_toArray, tabPart_set (by omega)]
  · have hke : k = 256 := by omega
    subst hke
    refine h H2 _ ⟨?_⟩ e2 (Nat.le_refl _)
    have : tabPart 256 = tabL := by
      unfold tabPart tabL
      apply List.map_congr_left
      intro i hi
      rw [if_pos (List.mem_range.1 hi)]
    rw [b2, this]
theorem com_u32 {n : Nat} (h : n < 4294967296) : bitsOf .xor .u32 4294967295 (n : Int) = ((4294967295 - n : Nat) : Int) := by
  rw [show (4294967295 : Int) = ((4294967295 : Nat) : Int) from rfl, xor_u32 (by decide) h, com_xor h]
theorem xor_u8 {a b : Nat} (ha : a < 256) (hb : b < 256) : bitsOf .xor .u8 (a : Int) (b : Int) = ((a ^^^ b : Nat) : Int) := by
  have hlt : a ^^^ b < 2 ^ 8 := Nat.xor_lt_two_pow (by simpa using ha) (by simpa using hb)
  have e : ((BitVec.ofInt 8 (a : Int)) ^^^ (BitVec.ofInt 8 (b : Int))).toNat = a ^^^ b := by
    rw [BitVec.toNat_xor, BitVec.ofInt_natCast, BitVec.ofInt_natCast, BitVec.toNat_ofNat, BitVec.toNat_ofNat, Nat.mod_eq_of_lt (by omega), Nat.mod_eq_of_lt (by omega)]
  show IntKind.u8.wrap ((((BitVec.ofInt 8 (a : Int)) ^^^ (BitVec.ofInt 8 (b : Int))).toNat : Nat) : Int) = _
  rw [e, wu8 (by omega) (by omega)]
/-- a byte's step by the table -/
theorem tab_step (s : Nat) (x : UInt8) : tn 8 (s % 256 ^^^ x.toNat) ^^^ s / 2 ^ 8 = tn 8 (s ^^^ x.toNat) := by
  have e : s = s % 256 ^^^ 2 ^ 8 * (s / 2 ^ 8) := by
    apply Nat.eq_of_testBit_eq
    intro i
    rw [Nat.testBit_xor, show (256 : Nat) = 2 ^ 8 by rfl, Nat.testBit_mod_two_pow, Nat.testBit_two_pow_mul]
    by_cases hi : i < 8
    · simp [hi, show ¬ 8 ≤ i by omega]
    · rw [Nat.testBit_div_two_pow]
      simp [hi, show 8 ≤ i by omega]
  have e2 : s ^^^ x.toNat = (s % 256 ^^^ x.toNat) ^^^ 2 ^ 8 * (s / 2 ^ 8) := by
    conv => lhs; rw [e]
    rw [Nat.xor_assoc, Nat.xor_comm (2 ^ 8 * (s / 2 ^ 8)), ← Nat.xor_assoc]
  rw [e2, tn_xor 8 (s % 256 ^^^ x.toNat), tn_dbl]
theorem tMore_spec {b : Nat} {s : Nat} {l : List UInt8} (hs : s < 4294967296) (hl : l.length ≤ 9223372036854775807) (ht : Tab H b) (h : R (n32 (more32 s l)) H) : CallsH Try.prog 48 #[tptr b, n32 s, str l] H R := by
  refine crc_Table_More.vc _ _ _ _ _ ?_
  unfold crc_Table_More.res
  simp only [pPick_v, pNil_v, pNil_f, pAdd_v, pSub_v, pMul_v, pAdd_s, pQuo_v, pRem_v, pBits_v, pShl_v, pShr_v, pLt_v, pLe_v, pGt_v, pGe_v, pEq_0, pNe_0, pEq_1, pNe_1, pEq_2, pNe_2, pEq_3n, pNe_3n, pEq_3s, pNe_3s, pEq_3t, pNe_3t, pEq_5n, pNe_5n, pEq_5s, pNe_5s, pEq_5t, pNe_5t, pEq_4n, pNe_4n, pEq_4s, pNe_4s, pNot_v, pNeg_v, pCom_v, pConv_v, pConvS_v, pMin_v, pMax_v, pFieldAddr_v, pField1_v, pFieldN_v, pExtract_v, pIdxArr_v, pIdxSl_v, pIdxStr_v, pBounds_00, pBounds_10, pBounds_01, pBounds_11, pSlStr_v, pSlSl_v, pSlArr_v, pLenS_v, pLen_v, pCap_v, pBuild_n, pBuild_c, cells_int, cells_str, cells_bool, cells_ptr, cells_slice, cells_map, cells_agg, oneCell_int, oneCell_str, oneCell_bool, oneCell_ptr, oneCell_slice, oneCell_map, putL_cons, putL_nil, pAnd_pure, pOr_pure, pAnd_pureE, pOr_pureE, pAnd_false, pOr_true, pCond_true, pCond_false, add_mk, bys_mk, bys_size, cond_true, cond_false, decide_true, decide_false, decide_not', dec_and, dec_or, dec_eqt, Bool.not_true, Bool.not_false, Option.isNone_none, Option.isNone_some, Option.map_some, Option.map_none, List.getElem?_toArray, List.getElem?_cons_zero, List.getElem?_cons_succ, List.size_toArray, List.length_cons, List.length_nil, List.length_replicate, List.set_cons_zero, List.set_cons_succ, Nat.reduceAdd, Nat.reduceMul, Nat.reduceSub, Nat.reduceLeDiff, Nat.zero_add, Nat.add_zero, Nat.zero_le, true_and, and_true, not_false_eq_true, ne_eq, Int.reduceNeg, Int.reduceEq, Int.reduceNe, Int.reduceLT, Int.reduceLE, le_refl', List.setIfInBounds_toArray, Nat.reduceLT, Array.size_setIfInBounds, if_true, if_false, reduceCtorEq, List.toArray_toList', List.drop_succ_cons, List.drop_zero, List.take_succ_cons, List.take_zero, List.nil_append, List.append_nil, List.cons_append, Bool.and_true, Bool.true_and, Bool.or_false, Bool.false_or, Bool.and_false, Bool.or_true, Bool.true_or, Bool.false_and, eq_self]
  rw [show (if IntKind.u32.signed = true then (-1 : Int) else IntKind.u32.max) = 4294967295 by decide, com_u32 hs]
  refine ⟨fun v u H' => ∃ j : Nat, u = .int .i64 j ∧ j ≤ l.length ∧ v = n32 (fold32 (4294967295 - s) (l.take j)) ∧ H = H', fun v u _ => match u with | .int _ k => (l.length - k).toNat | _ => 0, ⟨0, rfl, by omega, by rw [List.take_zero]; rfl, rfl⟩, ?_⟩
  rintro _ _ _ _ ⟨j, rfl, hj, rfl, rfl⟩
  have hlt := fold32_lt (l.take j) (s := 4294967295 - s) (by omega)
  simp only [pPick_v, pNil_v, pNil_f, pAdd_v, pSub_v, pMul_v, pAdd_s, pQuo_v, pRem_v, pBits_v, pShl_v, pShr_v, pLt_v, pLe_v, pGt_v, pGe_v, pEq_0, pNe_0, pEq_1, pNe_1, pEq_2, pNe_2, pEq_3n, pNe_3n, pEq_3s, pNe_3s, pEq_3t, pNe_3t, pEq_5n, pNe_5n, pEq_5s, pNe_5s, pEq_5t, pNe_5t, pEq_4n, pNe_4n, pEq_4s, pNe_4s, pNot_v, pNeg_v, pCom_v, pConv_v, pConvS_v, pMin_v, pMax_v, pFieldAddr_v, pField1_v, pFieldN_v, pExtract_v, pIdxArr_v, pIdxSl_v, pIdxStr_v, pBounds_00, pBounds_10, pBounds_01, pBounds_11, pSlStr_v, pSlSl_v, pSlArr_v, pLenS_v, pLen_v, pCap_v, pBuild_n, pBuild_c, cells_int, cells_str, cells_bool, cells_ptr, cells_slice, cells_map, cells_agg, oneCell_int, oneCell_str, oneCell_bool, oneCell_ptr, oneCell_slice, oneCell_map, putL_cons, putL_nil, pAnd_pure, pOr_pure, pAnd_pureE, pOr_pureE, pAnd_false, pOr_true, pCond_true, pCond_false, add_mk, bys_mk, bys_size, cond_true, cond_false, decide_true, decide_false, decide_not', dec_and, dec_or, dec_eqt, Bool.not_true, Bool.not_false, Option.isNone_none, Option.isNone_some, Option.map_some, Option.map_none, List.getElem?_toArray, List.getElem?_cons_zero, List.getElem?_cons_succ, List.size_toArray, List.length_cons, List.length_nil, List.length_replicate, List.set_cons_zero, List.set_cons_succ, Nat.reduceAdd, Nat.reduceMul, Nat.reduceSub, Nat.reduceLeDiff, Nat.zero_add, Nat.add_zero, Nat.zero_le, true_and, and_true, not_false_eq_true, ne_eq, Int.reduceNeg, Int.reduceEq, Int.reduceNe, Int.reduceLT, Int.reduceLE, le_refl', List.setIfInBounds_toArray, Nat.reduceLT, Array.size_setIfInBounds, if_true, if_false, reduceCtorEq, List.toArray_toList', List.drop_succ_cons, List.drop_zero, List.take_succ_cons, List.take_zero, List.nil_append, List.append_nil, List.cons_append, Bool.and_true, Bool.true_and, Bool.or_false, Bool.false_or, Bool.and_false, Bool.or_true, Bool.true_or, Bool.false_and, eq_self]
  refine pCond_if (fun hc => ?_) (fun hc => ?_)
  · refine ⟨by omega, by omega, ?_⟩
    have hjl : j < l.length := by omega
    rw [Int.toNat_natCast, List.getD_eq_getElem?_getD, List.getElem?_eq_getElem hjl, Option.getD_some]
    have hstep : fold32 (4294967295 - s) (l.take (j + 1)) = tn 8 (fold32 (4294967295 - s) (l.take j) ^^^ (l[j]).toNat) := by
      rw [List.take_add_one, List.getElem?_eq_getElem hjl, fold32_append]; rfl
    generalize fold32 (4294967295 - s) (l.take j) = f at *
    generalize l[j] = x at *
    have hx : x.toNat < 256 := x.toNat_lt
    rw [wu8_mod, show ((f : Int) % 256) = ((f % 256 : Nat) : Int) by omega, xor_u8 (by omega) hx]
    have hxl : f % 256 ^^^ x.toNat < 2 ^ 8 := Nat.xor_lt_two_pow (by omega) (by omega)
    refine ⟨by omega, by omega, ?_⟩
    simp only [pPick_v, pNil_v, pNil_f, pAdd_v, pSub_v, pMul_v, pAdd_s, pQuo_v, pRem_v, pBits_v, pShl_v, pShr_v, pLt_v, pLe_v, pGt_v, pGe_v, pEq_0, pNe_0, pEq_1, pNe_1, pEq_2, pNe_2, pEq_3n, pNe_3n, pEq_3s, pNe_3s, pEq_3t, pNe_3t, pEq_5n, pNe_5n, pEq_5s, pNe_5s, pEq_5t, pNe_5t, pEq_4n, pNe_4n, pEq_4s, pNe_4s, pNot_v, pNeg_v, pCom_v, pConv_v, pConvS_v, pMin_v, pMax_v, pFieldAddr_v, pField1_v, pFieldN_v, pExtract_v, pIdxArr_v, pIdxSl_v, pIdxStr_v, pBounds_00, pBounds_10, pBounds_01, pBounds_11, pSlStr_v, pSlSl_v, pSlArr_v, pLenS_v, pLen_v, pCap_v, pBuild_n, pBuild_c, cells_int, cells_str, cells_bool, cells_ptr, cells_slice, cells_map, cells_agg, oneCell_int, oneCell_str, oneCell_bool, oneCell_ptr, oneCell_slice, oneCell_map, putL_cons, putL_nil, pAnd_pure, pOr_pure, pAnd_pureE, pOr_pureE, pAnd_false, pOr_true, pCond_true, pCond_false, add_mk, bys_mk, bys_size, cond_true, cond_false, decide_true, decide_false, decide_not', dec_and, dec_or, dec_eqt, Bool.not_true, Bool.not_false, Option.isNone_none, Option.isNone_some, Option.map_some, Option.map_none, List.getElem?_toArray, List.getElem?_cons_zero, List.getElem?_cons_succ, List.size_toArray, List.length_cons, List.length_nil, List.length_replicate, List.set_cons_zero, List.set_cons_succ, Nat.reduceAdd, Nat.reduceMul, Nat.reduceSub, Nat.reduceLeDiff, Nat.zero_add, Nat.add_zero, Nat.zero_le, true_and, and_true, not_false_eq_true, ne_eq, Int.reduceNeg, Int.reduceEq, Int.reduceNe, Int.reduceLT, Int.reduceLE, le_refl', List.setIfInBounds_toArray, Nat.reduceLT, Array.size_setIfInBounds, if_true, if_false, reduceCtorEq, List.toArray_toList', List.drop_succ_cons, List.drop_zero, List.take_succ_cons, List.take_zero, List.nil_append, List.append_nil, List.cons_append, Bool.and_true, Bool.true_and, Bool.or_false, Bool.false_or, Bool.and_false, Bool.or_true, Bool.true_or, Bool.false_and, eq_self, Int.toNat_natCast, Nat.mul_one]
    refine pLoad_l ht.blk (v := n32 (tn 8 (f % 256 ^^^ x.toNat))) (by unfold tabL; rw [List.getElem?_map, List.getElem?_range (by omega)]; rfl) ?_
    rw [sh8_32]
    simp only [pPick_v, pNil_v, pNil_f, pAdd_v, pSub_v, pMul_v, pAdd_s, pQuo_v, pRem_v, pBits_v, pShl_v, pShr_v, pLt_v, pLe_v, pGt_v, pGe_v, pEq_0, pNe_0, pEq_1, pNe_1, pEq_2, pNe_2, pEq_3n, pNe_3n, pEq_3s, pNe_3s, pEq_3t, pNe_3t, pEq_5n, pNe_5n, pEq_5s, pNe_5s, pEq_5t, pNe_5t, pEq_4n, pNe_4n, pEq_4s, pNe_4s, pNot_v, pNeg_v, pCom_v, pConv_v, pConvS_v, pMin_v, pMax_v, pFieldAddr_v, pField1_v, pFieldN_v, pExtract_v, pIdxArr_v, pIdxSl_v, pIdxStr_v, pBounds_00, pBounds_10, pBounds_01, pBounds_11, pSlStr_v, pSlSl_v, pSlArr_v, pLenS_v, pLen_v, pCap_v, pBuild_n, pBuild_c, cells_int, cells_str, cells_bool, cells_ptr, cells_slice, cells_map, cells_agg, oneCell_int, oneCell_str, oneCell_bool, oneCell_ptr, oneCell_slice, oneCell_map, putL_cons, putL_nil, pAnd_pure, pOr_pure, pAnd_pureE, pOr_pureE, pAnd_false, pOr_true, pCond_true, pCond_false, add_mk, bys_mk, bys_size, cond_true, cond_false, decide_true, decide_false, decide_not', dec_and, dec_or, dec_eqt, Bool.not_true, Bool.not_false, Option.isNone_none, Option.isNone_some, Option.map_some, Option.map_none, List.getElem?_toArray, List.getElem?_cons_zero, List.getElem?_cons_succ, List.size_toArray, List.length_cons, List.length_nil, List.length_replicate, List.set_cons_zero, List.set_cons_succ, Nat.reduceAdd, Nat.reduceMul, Nat.reduceSub, Nat.reduceLeDiff, Nat.zero_add, Nat.add_zero, Nat.zero_le, true_and, and_true, not_false_eq_true, ne_eq, Int.reduceNeg, Int.reduceEq, Int.reduceNe, Int.reduceLT, Int.reduceLE, le_refl', List.setIfInBounds_toArray, Nat.reduceLT, Array.size_setIfInBounds, if_true, if_false, reduceCtorEq, List.toArray_toList', List.drop_succ_cons, List.drop_zero, List.take_succ_cons, List.take_zero, List.nil_append, List.append_nil, List.cons_append, Bool.and_true, Bool.true_and, Bool.or_false, Bool.false_or, Bool.and_false, Bool.or_true, Bool.true_or, Bool.false_and, eq_self]
    rw [xor_u32 (tn_lt 8 (by omega)) (by omega), w64 (by omega) (by omega), tab_step]
    exact ⟨⟨j + 1, rfl, by omega, by rw [hstep]⟩, by show (_ : Int).toNat < (_ : Int).toNat; omega⟩
  · have hje : j = l.length := by omega
    subst hje
    rw [show (if IntKind.u32.signed = true then (-1 : Int) else IntKind.u32.max) = 4294967295 by decide, com_u32 hlt]
    rw [List.take_length]
    exact h
theorem tSum_spec {b : Nat} {l : List UInt8} (hl : l.length ≤ 9223372036854775807) (ht : Tab H b) (h : R (n32 (more32 0 l)) H) : CallsH Try.prog 32 #[tptr b, str l] H R := by
  refine crc_Table_Sum.vc _ _ _ _ ?_
  unfold crc_Table_Sum.res
  exact tMore_spec (s := 0) (by decide) hl ht h
end Go.Proofs.Ytaopejkbnohiiaa
