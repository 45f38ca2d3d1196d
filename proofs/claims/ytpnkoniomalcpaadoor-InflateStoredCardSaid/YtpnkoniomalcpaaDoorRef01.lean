/- Contracts of the document's answer for bits: lists of 0 and 1. -/
import Derived.Test.YtpnkoniomalcpaaDoorBitList
import Derived.Test.YtpnkoniomalcpaaDoorVcLib
import Derived.Test.YtpnkoniomalcpaaDoorResB
namespace Go.Proofs.YtpnkoniomalcpaaDoor
-- only what is there
open Go Go.Vc Go.Proofs
set_option linter.unusedVariables false
set_option linter.unusedSimpArgs false
variable {H : Heap} {R : Value → Heap → Prop}
/-- bits as the document's numbers -/
def bitsV (l : List Bool) : List Value := l.map fun b => .int .i64 ((b.toNat : Nat) : Int)
theorem bitsV_len (l : List Bool) : (bitsV l).length = l.length := by simp [bitsV]
theorem bitsV_append (l m : List Bool) : bitsV (l ++ m) = bitsV l ++ bitsV m := by simp [bitsV]
theorem bitsV_one (l : List Bool) : (bitsV l).all oneCell = true := by
  rw [List.all_eq_true]; intro x hx; obtain ⟨y, _, rfl⟩ := List.mem_map.1 hx; rfl
/-- what a function has made: it is fresh -/
def Fresh (H : Heap) (v : Value) : Prop := ∀ k, blkOf v = some k → H.size ≤ k
theorem testBit_nat (v : Nat) : (v.testBit 0).toNat = v % 2 := by
  rw [Nat.testBit_zero]
  rcases Nat.mod_two_eq_zero_or_one v with h | h <;> simp [h]
theorem bitsN_end (v n : Nat) : bitsN v (n + 1) = bitsN v n ++ [(v / 2 ^ n).testBit 0] := by
  rw [bitsN_add]; rfl
theorem refBits_spec {s : List UInt8} (hs : s.length ≤ 1000000000) (h : ∀ H' w, Own H' w 1 (bitsV (toBits s)) → Ext H H' → Fresh H w → R w H') : CallsH Tryd.prog 57 #[str s] H R := by
  refine lighterref01_Bits.vc _ _ _ ?_
  unfold lighterref01_Bits.res
  refine ⟨fun w i1 H' => ∃ i : Nat, i1 = .int .i64 i ∧ i ≤ s.length ∧ Own H' w 1 (bitsV (toBits (s.take i))) ∧ Ext H H' ∧ Fresh H w, fun _ i1 _ => match i1 with | .int _ x => (s.length - x).toNat | _ => 0,
    ⟨0, rfl, by omega, .inl ⟨rfl, rfl⟩, Ext.refl _, fun k hk => by simp [blkOf] at hk⟩, ?_⟩
  rintro _ w _ H1 ⟨i, rfl, hi, o1, e1, f1⟩
  simp only [pPick_v, pNil_v, pNil_f, pAdd_v, pSub_v, pMul_v, pAdd_s, pQuo_v, pRem_v, pBits_v, pShl_v, pShr_v, pLt_v, pLe_v, pGt_v, pGe_v, pEq_0, pNe_0, pEq_1, pNe_1, pEq_2, pNe_2, pEq_3n, pNe_3n, pEq_3s, pNe_3s, pEq_3t, pNe_3t, pEq_5n, pNe_5n, pEq_5s, pNe_5s, pEq_5t, pNe_5t, pEq_4n, pNe_4n, pEq_4s, pNe_4s, pNot_v, pNeg_v, pCom_v, pConv_v, pConvS_v, pMin_v, pMax_v, pFieldAddr_v, pField1_v, pFieldN_v, pExtract_v, pIdxArr_v, pIdxSl_v, pIdxStr_v, pBounds_00, pBounds_10, pBounds_01, pBounds_11, pSlStr_v, pSlSl_v, pSlArr_v, pLenS_v, pLen_v, pCap_v, pBuild_n, pBuild_c, cells_int, cells_str, cells_bool, cells_ptr, cells_slice, cells_map, cells_agg, oneCell_int, oneCell_str, oneCell_bool, oneCell_ptr, oneCell_slice, oneCell_map, putL_cons, putL_nil, pAnd_pure, pOr_pure, pAnd_pureE, pOr_pureE, pAnd_false, pOr_true, pCond_true, pCond_false, add_mk, bys_mk, bys_size, cond_true, cond_false, decide_true, decide_false, decide_not', dec_and, dec_or, dec_eqt, Bool.not_true, Bool.not_false, Option.isNone_none, Option.isNone_some, Option.map_some, Option.map_none, List.getElem?_toArray, List.getElem?_cons_zero, List.getElem?_cons_succ, List.size_toArray, List.length_cons, List.length_nil, List.length_replicate, List.set_cons_zero, List.set_cons_succ, Nat.reduceAdd, Nat.reduceMul, Nat.reduceSub, Nat.reduceLeDiff, Nat.zero_add, Nat.add_zero, Nat.zero_le, true_and, and_true, not_false_eq_true, ne_eq, Int.reduceNeg, Int.reduceEq, Int.reduceNe, Int.reduceLT, Int.reduceLE, le_refl', List.setIfInBounds_toArray, Nat.reduceLT, Array.size_setIfInBounds, if_true, if_false, reduceCtorEq, List.toArray_toList', List.drop_succ_cons, List.drop_zero, List.take_succ_cons, List.take_zero, List.nil_append, List.append_nil, List.cons_append, Bool.and_true, Bool.true_and, Bool.or_false, Bool.false_or, Bool.and_false, Bool.or_true, Bool.true_or, Bool.false_and, eq_self]
  refine pCond_if (fun hc => ?_) (fun hc => ?_)
  · have hil : i < s.length := by omega
    refine ⟨by omega, by omega, ?_⟩
    rw [Int.toNat_natCast, List.getD_eq_getElem?_getD, List.getElem?_eq_getElem hil, Option.getD_some]
    have hst : toBits (s.take (i + 1)) = toBits (s.take i) ++ bitsN s[i].toNat 8 := by
      rw [List.take_add_one, List.getElem?_eq_getElem hil, toBits_append]
      show _ ++ toBits [s[i]] = _
      rw [toBits_one]
    have hlen : (toBits (s.take i)).length = 8 * i := by rw [toBits_len, List.length_take]; omega
    generalize s[i] = x at *
    have hx : x.toNat < 256 := x.toNat_lt
    rw [w64 (by omega) (by omega)]
    refine ⟨fun w v1 k1 H' => ∃ k : Nat, v1 = .int .i64 ((x.toNat / 2 ^ k : Nat) : Int) ∧ k1 = .int .i64 k ∧ k ≤ 8 ∧ Own H' w 1 (bitsV (toBits (s.take i) ++ bitsN x.toNat k)) ∧ Ext H H' ∧ Fresh H w, fun _ _ k1 _ => match k1 with | .int _ x => (8 - x).toNat | _ => 0,
      ⟨0, by simp, rfl, by omega, by rw [bitsN_zero, List.append_nil]; exact o1, e1, f1⟩, ?_⟩
    rintro _ w2 _ _ H2 ⟨k, rfl, rfl, hk, o2, e2, f2⟩
    have hd : x.toNat / 2 ^ k ≤ x.toNat := Nat.div_le_self _ _
    simp only [pPick_v, pNil_v, pNil_f, pAdd_v, pSub_v, pMul_v, pAdd_s, pQuo_v, pRem_v, pBits_v, pShl_v, pShr_v, pLt_v, pLe_v, pGt_v, pGe_v, pEq_0, pNe_0, pEq_1, pNe_1, pEq_2, pNe_2, pEq_3n, pNe_3n, pEq_3s, pNe_3s, pEq_3t, pNe_3t, pEq_5n, pNe_5n, pEq_5s, pNe_5s, pEq_5t, pNe_5t, pEq_4n, pNe_4n, pEq_4s, pNe_4s, pNot_v, pNeg_v, pCom_v, pConv_v, pConvS_v, pMin_v, pMax_v, pFieldAddr_v, pField1_v, pFieldN_v, pExtract_v, pIdxArr_v, pIdxSl_v, pIdxStr_v, pBounds_00, pBounds_10, pBounds_01, pBounds_11, pSlStr_v, pSlSl_v, pSlArr_v, pLenS_v, pLen_v, pCap_v, pBuild_n, pBuild_c, cells_int, cells_str, cells_bool, cells_ptr, cells_slice, cells_map, cells_agg, oneCell_int, oneCell_str, oneCell_bool, oneCell_ptr, oneCell_slice, oneCell_map, putL_cons, putL_nil, pAnd_pure, pOr_pure, pAnd_pureE, pOr_pureE, pAnd_false, pOr_true, pCond_true, pCond_false, add_mk, bys_mk, bys_size, cond_true, cond_false, decide_true, decide_false, decide_not', dec_and, dec_or, dec_eqt, Bool.not_true, Bool.not_false, Option.isNone_none, Option.isNone_some, Option.map_some, Option.map_none, List.getElem?_toArray, List.getElem?_cons_zero, List.getElem?_cons_succ, List.size_toArray, List.length_cons, List.length_nil, List.length_replicate, List.set_cons_zero, List.set_cons_succ, Nat.reduceAdd, Nat.reduceMul, Nat.reduceSub, Nat.reduceLeDiff, Nat.zero_add, Nat.add_zero, Nat.zero_le, true_and, and_true, not_false_eq_true, ne_eq, Int.reduceNeg, Int.reduceEq, Int.reduceNe, Int.reduceLT, Int.reduceLE, le_refl', List.setIfInBounds_toArray, Nat.reduceLT, Array.size_setIfInBounds, if_true, if_false, reduceCtorEq, List.toArray_toList', List.drop_succ_cons, List.drop_zero, List.take_succ_cons, List.take_zero, List.nil_append, List.append_nil, List.cons_append, Bool.and_true, Bool.true_and, Bool.or_false, Bool.false_or, Bool.and_false, Bool.or_true, Bool.true_or, Bool.false_and, eq_self]
    refine pCond_if (fun hc2 => ?_) (fun hc2 => ?_)
    · have hnext : x.toNat / 2 ^ (k + 1) = x.toNat / 2 ^ k / 2 := by rw [Nat.pow_succ, ← Nat.div_div_eq_div_mul]
      have hbit := bitsN_end x.toNat k
      generalize x.toNat / 2 ^ k = z at *
      rw [Int.tmod_eq_emod_of_nonneg (by omega), show (z : Int) % 2 = ((z % 2 : Nat) : Int) by omega]
      refine o2.append1 (n := 8 * i + k) (by decide) rfl rfl rfl (by rw [bitsV_len, List.length_append, bitsN_len, hlen]; omega) (by omega) fun w3 H3 o3 i3 s3 k3 => ?_
      rw [Int.tdiv_eq_ediv_of_nonneg (by omega), w64 (n := (z : Int) / 2) (by omega) (by omega), w64 (by omega) (by omega)]
      refine ⟨⟨k + 1, by rw [hnext]; rfl, rfl, by omega, ?_, ext_of_own e2 f2 i3 s3, fun j hj => ?_⟩, by show (_ : Int).toNat < (_ : Int).toNat; omega⟩
      · rw [hbit, ← List.append_assoc, bitsV_append]
        rw [show bitsV [z.testBit 0] = (Value.int IntKind.i64 ((z % 2 : Nat) : Int)).cells.toList by
          show [Value.int IntKind.i64 (((z.testBit 0).toNat : Nat) : Int)] = [_]
          rw [testBit_nat]]
        exact o3
      · rcases k3 j hj with h' | h'
        · exact f2 j h'
        · have := e2.size; omega
    · have hk8 : k = 8 := by omega
      subst hk8
      rw [w64 (by omega) (by omega)]
      exact ⟨⟨i + 1, rfl, by omega, by rw [hst]; exact o2, e2, f2⟩, by show (_ : Int).toNat < (_ : Int).toNat; omega⟩
  · have : i = s.length := by omega
    subst this
    rw [List.take_length] at o1
    exact h H1 w o1 e1 f1
theorem refNumber_spec {v : Value} {l : List Bool} (hl : l.length ≤ 64) (hs : Sl H v 1 (bitsV l)) (h : R (.int .u64 ((numB l : Nat) : Int)) H) : CallsH Tryd.prog 95 #[v] H R := by
  refine lighterref01_Number.vc _ _ _ ?_
  unfold lighterref01_Number.res
  refine hs.len (n := l.length) (by rw [bitsV_len]; omega) (by decide) ?_
  simp only [pPick_v, pNil_v, pNil_f, pAdd_v, pSub_v, pMul_v, pAdd_s, pQuo_v, pRem_v, pBits_v, pShl_v, pShr_v, pLt_v, pLe_v, pGt_v, pGe_v, pEq_0, pNe_0, pEq_1, pNe_1, pEq_2, pNe_2, pEq_3n, pNe_3n, pEq_3s, pNe_3s, pEq_3t, pNe_3t, pEq_5n, pNe_5n, pEq_5s, pNe_5s, pEq_5t, pNe_5t, pEq_4n, pNe_4n, pEq_4s, pNe_4s, pNot_v, pNeg_v, pCom_v, pConv_v, pConvS_v, pMin_v, pMax_v, pFieldAddr_v, pField1_v, pFieldN_v, pExtract_v, pIdxArr_v, pIdxSl_v, pIdxStr_v, pBounds_00, pBounds_10, pBounds_01, pBounds_11, pSlStr_v, pSlSl_v, pSlArr_v, pLenS_v, pLen_v, pCap_v, pBuild_n, pBuild_c, cells_int, cells_str, cells_bool, cells_ptr, cells_slice, cells_map, cells_agg, oneCell_int, oneCell_str, oneCell_bool, oneCell_ptr, oneCell_slice, oneCell_map, putL_cons, putL_nil, pAnd_pure, pOr_pure, pAnd_pureE, pOr_pureE, pAnd_false, pOr_true, pCond_true, pCond_false, add_mk, bys_mk, bys_size, cond_true, cond_false, decide_true, decide_false, decide_not', dec_and, dec_or, dec_eqt, Bool.not_true, Bool.not_false, Option.isNone_none, Option.isNone_some, Option.map_some, Option.map_none, List.getElem?_toArray, List.getElem?_cons_zero, List.getElem?_cons_succ, List.size_toArray, List.length_cons, List.length_nil, List.length_replicate, List.set_cons_zero, List.set_cons_succ, Nat.reduceAdd, Nat.reduceMul, Nat.reduceSub, Nat.reduceLeDiff, Nat.zero_add, Nat.add_zero, Nat.zero_le, true_and, and_true, not_false_eq_true, ne_eq, Int.reduceNeg, Int.reduceEq, Int.reduceNe, Int.reduceLT, Int.reduceLE, le_refl', List.setIfInBounds_toArray, Nat.reduceLT, Array.size_setIfInBounds, if_true, if_false, reduceCtorEq, List.toArray_toList', List.drop_succ_cons, List.drop_zero, List.take_succ_cons, List.take_zero, List.nil_append, List.append_nil, List.cons_append, Bool.and_true, Bool.true_and, Bool.or_false, Bool.false_or, Bool.and_false, Bool.or_true, Bool.true_or, Bool.false_and, eq_self]
  rw [w64 (n := (l.length : Int) - 1) (by omega) (by omega)]
  have hnum : ∀ i, i ≤ l.length → numB (l.drop i) < 2 ^ (64 - i) := fun i hi => by
    have := numB_lt (l.drop i)
    rw [List.length_drop] at this
    exact Nat.lt_of_lt_of_le this (Nat.pow_le_pow_right (by decide) (by omega))
  refine ⟨fun n1 i1 H' => ∃ i : Nat, i1 = .int .i64 ((i : Int) - 1) ∧ i ≤ l.length ∧ n1 = .int .u64 ((numB (l.drop i) : Nat) : Int) ∧ H = H', fun _ i1 _ => match i1 with | .int _ x => (x + 1).toNat | _ => 0,
    ⟨l.length, rfl, Nat.le_refl _, by rw [List.drop_length]; rfl, rfl⟩, ?_⟩
  rintro _ _ _ _ ⟨i, rfl, hi, rfl, rfl⟩
  simp only [pPick_v, pNil_v, pNil_f, pAdd_v, pSub_v, pMul_v, pAdd_s, pQuo_v, pRem_v, pBits_v, pShl_v, pShr_v, pLt_v, pLe_v, pGt_v, pGe_v, pEq_0, pNe_0, pEq_1, pNe_1, pEq_2, pNe_2, pEq_3n, pNe_3n, pEq_3s, pNe_3s, pEq_3t, pNe_3t, pEq_5n, pNe_5n, pEq_5s, pNe_5s, pEq_5t, pNe_5t, pEq_4n, pNe_4n, pEq_4s, pNe_4s, pNot_v, pNeg_v, pCom_v, pConv_v, pConvS_v, pMin_v, pMax_v, pFieldAddr_v, pField1_v, pFieldN_v, pExtract_v, pIdxArr_v, pIdxSl_v, pIdxStr_v, pBounds_00, pBounds_10, pBounds_01, pBounds_11, pSlStr_v, pSlSl_v, pSlArr_v, pLenS_v, pLen_v, pCap_v, pBuild_n, pBuild_c, cells_int, cells_str, cells_bool, cells_ptr, cells_slice, cells_map, cells_agg, oneCell_int, oneCell_str, oneCell_bool, oneCell_ptr, oneCell_slice, oneCell_map, putL_cons, putL_nil, pAnd_pure, pOr_pure, pAnd_pureE, pOr_pureE, pAnd_false, pOr_true, pCond_true, pCond_false, add_mk, bys_mk, bys_size, cond_true, cond_false, decide_true, decide_false, decide_not', dec_and, dec_or, dec_eqt, Bool.not_true, Bool.not_false, Option.isNone_none, Option.isNone_some, Option.map_some, Option.map_none, List.getElem?_toArray, List.getElem?_cons_zero, List.getElem?_cons_succ, List.size_toArray, List.length_cons, List.length_nil, List.length_replicate, List.set_cons_zero, List.set_cons_succ, Nat.reduceAdd, Nat.reduceMul, Nat.reduceSub, Nat.reduceLeDiff, Nat.zero_add, Nat.add_zero, Nat.zero_le, true_and, and_true, not_false_eq_true, ne_eq, Int.reduceNeg, Int.reduceEq, Int.reduceNe, Int.reduceLT, Int.reduceLE, le_refl', List.setIfInBounds_toArray, Nat.reduceLT, Array.size_setIfInBounds, if_true, if_false, reduceCtorEq, List.toArray_toList', List.drop_succ_cons, List.drop_zero, List.take_succ_cons, List.take_zero, List.nil_append, List.append_nil, List.cons_append, Bool.and_true, Bool.true_and, Bool.or_false, Bool.false_or, Bool.and_false, Bool.or_true, Bool.true_or, Bool.false_and, eq_self]
  refine pCond_if (fun hc => ?_) (fun hc => ?_)
  · obtain ⟨j, rfl⟩ : ∃ j, i = j + 1 := ⟨i - 1, by omega⟩
    have hjl : j < l.length := by omega
    have e : l.drop j = l[j] :: l.drop (j + 1) := List.drop_eq_getElem_cons hjl
    have h1 := hnum (j + 1) hi
    have h2 := hnum j (by omega)
    have hp : (2 : Nat) ^ (64 - (j + 1)) ≤ 2 ^ 63 := Nat.pow_le_pow_right (by decide) (by omega)
    have e2 : numB (l.drop j) = l[j].toNat + 2 * numB (l.drop (j + 1)) := by rw [e]; rfl
    have hb : l[j].toNat ≤ 1 := by cases l[j] <;> simp
    rw [wu64 (n := 2 * ((numB (l.drop (j + 1)) : Nat) : Int)) (by omega) (by omega)]
    rw [show ((j + 1 : Nat) : Int) - 1 = (j : Int) by omega]
    refine hs.idx (n := l.length) (by rw [bitsV_len]; omega) (by decide) (by omega) (by omega) fun ad had => ?_
    refine had.load (v := .int .i64 ((l[j].toNat : Nat) : Int)) ?_ ?_
    · rw [Int.toNat_natCast, Nat.mul_one, List.getElem?_take, if_pos (by decide), List.getElem?_drop, Nat.add_zero]
      unfold bitsV
      rw [List.getElem?_map, List.getElem?_eq_getElem hjl]; rfl
    simp only [pPick_v, pNil_v, pNil_f, pAdd_v, pSub_v, pMul_v, pAdd_s, pQuo_v, pRem_v, pBits_v, pShl_v, pShr_v, pLt_v, pLe_v, pGt_v, pGe_v, pEq_0, pNe_0, pEq_1, pNe_1, pEq_2, pNe_2, pEq_3n, pNe_3n, pEq_3s, pNe_3s, pEq_3t, pNe_3t, pEq_5n, pNe_5n, pEq_5s, pNe_5s, pEq_5t, pNe_5t, pEq_4n, pNe_4n, pEq_4s, pNe_4s, pNot_v, pNeg_v, pCom_v, pConv_v, pConvS_v, pMin_v, pMax_v, pFieldAddr_v, pField1_v, pFieldN_v, pExtract_v, pIdxArr_v, pIdxSl_v, pIdxStr_v, pBounds_00, pBounds_10, pBounds_01, pBounds_11, pSlStr_v, pSlSl_v, pSlArr_v, pLenS_v, pLen_v, pCap_v, pBuild_n, pBuild_c, cells_int, cells_str, cells_bool, cells_ptr, cells_slice, cells_map, cells_agg, oneCell_int, oneCell_str, oneCell_bool, oneCell_ptr, oneCell_slice, oneCell_map, putL_cons, putL_nil, pAnd_pure, pOr_pure, pAnd_pureE, pOr_pureE, pAnd_false, pOr_true, pCond_true, pCond_false, add_mk, bys_mk, bys_size, cond_true, cond_false, decide_true, decide_false, decide_not', dec_and, dec_or, dec_eqt, Bool.not_true, Bool.not_false, Option.isNone_none, Option.isNone_some, Option.map_some, Option.map_none, List.getElem?_toArray, List.getElem?_cons_zero, List.getElem?_cons_succ, List.size_toArray, List.length_cons, List.length_nil, List.length_replicate, List.set_cons_zero, List.set_cons_succ, Nat.reduceAdd, Nat.reduceMul, Nat.reduceSub, Nat.reduceLeDiff, Nat.zero_add, Nat.add_zero, Nat.zero_le, true_and, and_true, not_false_eq_true, ne_eq, Int.reduceNeg, Int.reduceEq, Int.reduceNe, Int.reduceLT, Int.reduceLE, le_refl', List.setIfInBounds_toArray, Nat.reduceLT, Array.size_setIfInBounds, if_true, if_false, reduceCtorEq, List.toArray_toList', List.drop_succ_cons, List.drop_zero, List.take_succ_cons, List.take_zero, List.nil_append, List.append_nil, List.cons_append, Bool.and_true, Bool.true_and, Bool.or_false, Bool.false_or, Bool.and_false, Bool.or_true, Bool.true_or, Bool.false_and, eq_self]
    rw [wu64 (n := ((l[j].toNat : Nat) : Int)) (by omega) (by omega), wu64 (by omega) (by omega), w64 (by omega) (by omega)]
    refine ⟨⟨j, rfl, by omega, ?_⟩, by show (_ : Int).toNat < (_ : Int).toNat; omega⟩
    congr 1
    rw [e2]; omega
  · have : i = 0 := by omega
    subst this
    exact h
theorem take_bitsV (l : List Bool) (n : Nat) : (bitsV l).take n = bitsV (l.take n) := by unfold bitsV; rw [List.map_take]
theorem drop_bitsV (l : List Bool) (n : Nat) : (bitsV l).drop n = bitsV (l.drop n) := by unfold bitsV; rw [List.map_drop]
theorem toBytes_take (l : List Bool) : ∀ i : Nat, 8 * (i + 1) ≤ l.length → toBytes (l.take (8 * (i + 1))) = toBytes (l.take (8 * i)) ++ [UInt8.ofNat (numB ((l.drop (8 * i)).take 8))] := by
  intro i hi
  have e : l.take (8 * (i + 1)) = toBits (toBytes (l.take (8 * i))) ++ ((l.drop (8 * i)).take 8) := by
    rw [toBits_toBytes i _ (by rw [List.length_take]; omega), show 8 * (i + 1) = 8 * i + 8 by omega, List.take_add]
  have h8 : ((l.drop (8 * i)).take 8).length = 8 := by rw [List.length_take, List.length_drop]; omega
  have e2 : (l.drop (8 * i)).take 8 = toBits [UInt8.ofNat (numB ((l.drop (8 * i)).take 8))] := by
    rw [toBits_one, UInt8.toNat_ofNat', Nat.mod_eq_of_lt (by have := numB_lt ((l.drop (8 * i)).take 8); rw [h8] at this; exact this)]
    have := bitsN_numB ((l.drop (8 * i)).take 8)
    rw [h8] at this; exact this.symm
  rw [e]
  conv => lhs; rw [e2]
  rw [← toBits_append, toBytes_toBits']
theorem toBytes_floor (l : List Bool) : toBytes (l.take (8 * (l.length / 8))) = toBytes l := by
  have h1 := toBits_toBytes (l.length / 8) (l.take (8 * (l.length / 8))) (by rw [List.length_take]; omega)
  have h2 := toBytes_toBits (toBytes (l.take (8 * (l.length / 8)))) (l.drop (8 * (l.length / 8))) (by rw [List.length_drop]; omega)
  rw [h1, List.take_append_drop] at h2
  exact h2.symm
end Go.Proofs.YtpnkoniomalcpaaDoor
