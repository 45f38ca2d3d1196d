/- The law BitsBack over heaps. -/
import Derived.Test.YtppaiehkjdidiaaLaw01
namespace Go.Proofs.Ytppaiehkjdidiaa
open Go Go.Vc Go.Proofs
set_option linter.unusedVariables false
set_option linter.unusedSimpArgs false
variable {H : Heap} {R : Value → Heap → Prop}
/-- the numbers, each in its bits -/
def catB (P : List (Nat × Nat)) : List Bool := P.flatMap fun p => bitsN p.1 p.2
theorem catB_end (P : List (Nat × Nat)) {i : Nat} {p : Nat × Nat} (h : P[i]? = some p) : catB (P.take (i + 1)) = catB (P.take i) ++ bitsN p.1 p.2 := by
  unfold catB
  rw [List.take_add_one, h, List.flatMap_append]
  simp
theorem catB_len : ∀ (P : List (Nat × Nat)), (∀ p ∈ P, p.2 ≤ 32) → (catB P).length ≤ 32 * P.length
  | [], _ => by simp [catB]
  | p :: P, h => by
    have ih := catB_len P (fun q hq => h q (by simp [hq]))
    have := h p (by simp)
    unfold catB at ih ⊢
    rw [List.flatMap_cons, List.length_append, bitsN_len, List.length_cons]
    omega
theorem catB_mono (P : List (Nat × Nat)) {i k : Nat} (h : i ≤ k) : ∃ Q, catB (P.take k) = catB (P.take i) ++ Q := by
  refine ⟨catB ((P.drop i).take (k - i)), ?_⟩
  unfold catB
  rw [← List.flatMap_append, show P.take k = P.take i ++ (P.drop i).take (k - i) by rw [← List.take_add]; congr 1; omega]
theorem pair2 {r : List Value} (hl : r.length = 2) (hf : FitAll (List.replicate 2 (.int .u64)) fun j => r[j]?) : ∃ v n : Nat, r = [u64 v, u64 n] ∧ v < 18446744073709551616 ∧ n < 18446744073709551616 := by
  match r, hl with
  | [a, b], _ =>
    obtain ⟨_, h0, x0, rfl, k0⟩ := hf 0 _ rfl
    obtain ⟨_, h1, x1, rfl, k1⟩ := hf 1 _ rfl
    simp at h0 h1
    have b0 := wfu64 k0
    have b1 := wfu64 k1
    obtain ⟨m0, rfl⟩ : ∃ m : Nat, x0 = m := ⟨x0.toNat, by omega⟩
    obtain ⟨m1, rfl⟩ : ∃ m : Nat, x1 = m := ⟨x1.toNat, by omega⟩
    exact ⟨m0, m1, by rw [h0, h1], by omega, by omega⟩
theorem toBits_take (s : List UInt8) (n : Nat) : toBits (s.take n) = (toBits s).take (8 * n) := by
  by_cases h : n ≤ s.length
  · have e : toBits s = toBits (s.take n) ++ toBits (s.drop n) := by rw [← toBits_append, List.take_append_drop]
    have hl : (toBits (s.take n)).length = 8 * n := by rw [toBits_len, List.length_take]; omega
    rw [e, ← hl, List.take_append_of_le_length (Nat.le_refl _), List.take_length]
  · rw [List.take_of_length_le (by omega), List.take_of_length_le (by rw [toBits_len]; omega)]
def nOf (r : List Value) : Nat × Nat := match r with
  | [.int _ v, .int _ n] => (v.toNat, 1 + n.toNat % 32)
  | _ => (0, 1)
theorem and31 {n : Nat} (h : n < 18446744073709551616) : IntKind.i64.wrap (1 + IntKind.i64.wrap (bitsOf .and .u64 (n : Int) 31)) = ((1 + n % 32 : Nat) : Int) := by
  rw [show (31 : Int) = ((31 : Nat) : Int) from rfl, and_u64 h (by decide), show (31 : Nat) = 2 ^ 5 - 1 from rfl, Nat.and_two_pow_sub_one_eq_mod, show (2 : Nat) ^ 5 = 32 from rfl, w64 (n := ((n % 32 : Nat) : Int)) (by omega) (by omega), w64 (by omega) (by omega)]
  omega
set_option maxHeartbeats 2000000 in
theorem BitsBack_law (a : Option Addr) (len cap : Nat) (piece : Int) (w0 : StructRow (List.replicate 2 (.int .u64)) H a len cap) (w1 : (Lit.int .i64 piece).wf = true) :
    CallsH Try.prog 6 #[.slice a len cap, .int .i64 piece] H (LawOk H) := by
  have hmax : maxLen = 9223372036854775807 := rfl
  obtain ⟨T, hTl, hTm, hT1, hT2, hS⟩ := w0.rows (by decide)
  have hSl : T.flatten.length = len * 2 := by rw [flat_len T hT1, hTl]; rfl
  -- the rows as pairs
  have hP : ∀ i, i < len → ∃ v n : Nat, T[i]? = some [u64 v, u64 n] ∧ v < 18446744073709551616 ∧ n < 18446744073709551616 ∧ (T.map nOf)[i]? = some (v, 1 + n % 32) := by
    intro i hi
    have hil : i < T.length := by omega
    obtain ⟨v, n, hr, hv, hn⟩ := pair2 (hT1 _ (List.getElem_mem hil)) (hT2 _ (List.getElem_mem hil))
    refine ⟨v, n, by rw [List.getElem?_eq_getElem hil, hr], hv, hn, ?_⟩
    rw [List.getElem?_map, List.getElem?_eq_getElem hil, hr]
    simp [nOf]
  generalize hPl : T.map nOf = P at *
  have hPlen : P.length = len := by rw [← hPl, List.length_map, hTl]
  have hP32 : ∀ p ∈ P, p.2 ≤ 32 := by
    intro p hp
    obtain ⟨i, hi⟩ := List.getElem?_of_mem hp
    have hil := (List.getElem?_eq_some_iff.1 hi).1
    obtain ⟨v, n, _, _, _, h⟩ := hP i (by omega)
    rw [hi, Option.some.injEq] at h
    rw [h]; show 1 + n % 32 ≤ 32; omega
  have hread : ∀ (H' : Heap) (i : Nat) (R : Addr → Prop), Ext H H' → i < len → (∀ ad v n, T[i]? = some [u64 v, u64 n] → Reads H' ad [u64 v, u64 n] → R ad) → pIdxSl 2 (.slice a len cap) (.int .i64 i) (fun x => ∃ ad, x = .pointer (some ad) ∧ R ad) := by
    intro H' i R hx hi hR
    obtain ⟨v, n, hr, _, _, _⟩ := hP i hi
    have hat := flat_at T i _ hT1 hr
    refine (hS.ext hx).idx (n := len) hSl (by decide) (by omega) (by omega) fun ad had => ⟨ad, rfl, hR ad v n hr ?_⟩
    rw [Int.toNat_natCast] at had
    rw [← hat]; exact had
  -- one number of a row
  have hcell : ∀ (H' : Heap) (i : Nat) (K : Value → Prop) (o : Int) (oo : Nat), Ext H H' → i < len → o = oo → oo < 2 → (∀ v n, T[i]? = some [u64 v, u64 n] → K (if oo = 0 then u64 v else u64 n)) → pIdxSl 2 (.slice a len cap) (.int .i64 i) fun x => pIdxArr 2 1 x (.int .i64 o) fun y => pLoad H' y K := by
    intro H' i K o oo hx hi ho hoo hK
    subst ho
    obtain ⟨v, n, hr, _, _, _⟩ := hP i hi
    have hat := flat_at T i _ hT1 hr
    refine (hS.ext hx).idx (n := len) hSl (by decide) (by omega) (by omega) fun ad had => ?_
    rw [Int.toNat_natCast] at had
    have had : Reads H' ad [u64 v, u64 n] := by rw [← hat]; exact had
    rw [pIdxArr_v]
    refine ⟨by omega, by omega, ?_⟩
    rw [Int.toNat_natCast, Nat.mul_one]
    refine had.loadAt (v := if oo = 0 then u64 v else u64 n) ?_ (hK v n hr)
    match oo, hoo with
    | 0, _ => rfl
    | 1, _ => rfl
  refine lighterlaw01_BitsBack.vc _ _ _ _ ?_
  unfold lighterlaw01_BitsBack.res
  refine speaks01_spec fun H1 x1 => ?_
  simp only [pPick_v, pNil_v, pNil_f, pAdd_v, pSub_v, pMul_v, pAdd_s, pQuo_v, pRem_v, pBits_v, pShl_v, pShr_v, pLt_v, pLe_v, pGt_v, pGe_v, pEq_0, pNe_0, pEq_1, pNe_1, pEq_2, pNe_2, pEq_3n, pNe_3n, pEq_3s, pNe_3s, pEq_3t, pNe_3t, pEq_5n, pNe_5n, pEq_5s, pNe_5s, pEq_5t, pNe_5t, pEq_4n, pNe_4n, pEq_4s, pNe_4s, pNot_v, pNeg_v, pCom_v, pConv_v, pConvS_v, pMin_v, pMax_v, pFieldAddr_v, pField1_v, pFieldN_v, pExtract_v, pIdxArr_v, pIdxSl_v, pIdxStr_v, pBounds_00, pBounds_10, pBounds_01, pBounds_11, pSlStr_v, pSlSl_v, pSlArr_v, pLenS_v, pLen_v, pCap_v, pBuild_n, pBuild_c, cells_int, cells_str, cells_bool, cells_ptr, cells_slice, cells_map, cells_agg, oneCell_int, oneCell_str, oneCell_bool, oneCell_ptr, oneCell_slice, oneCell_map, putL_cons, putL_nil, pAnd_pure, pOr_pure, pAnd_pureE, pOr_pureE, pAnd_false, pOr_true, pCond_true, pCond_false, add_mk, bys_mk, bys_size, cond_true, cond_false, decide_true, decide_false, decide_not', dec_and, dec_or, dec_eqt, Bool.not_true, Bool.not_false, Option.isNone_none, Option.isNone_some, Option.map_some, Option.map_none, List.getElem?_toArray, List.getElem?_cons_zero, List.getElem?_cons_succ, List.size_toArray, List.length_cons, List.length_nil, List.length_replicate, List.set_cons_zero, List.set_cons_succ, Nat.reduceAdd, Nat.reduceMul, Nat.reduceSub, Nat.reduceLeDiff, Nat.zero_add, Nat.add_zero, Nat.zero_le, true_and, and_true, not_false_eq_true, ne_eq, Int.reduceNeg, Int.reduceEq, Int.reduceNe, Int.reduceLT, Int.reduceLE, le_refl', List.setIfInBounds_toArray, Nat.reduceLT, Array.size_setIfInBounds, if_true, if_false, reduceCtorEq, List.toArray_toList', List.drop_succ_cons, List.drop_zero, List.take_succ_cons, List.take_zero, List.nil_append, List.append_nil, List.cons_append, Bool.and_true, Bool.true_and, Bool.or_false, Bool.false_or, Bool.and_false, Bool.or_true, Bool.true_or, Bool.false_and, eq_self]
  refine pBox_ext fun H2 s2 e2 b2 => ?_
  have w2 := Wr.new (Sub.all (cs := [.slice none 0 0, .int .u64 0, .int .i64 0]) b2)
  have hHb : H.size ≤ H1.size := x1.size
  have x2 : Ext H H2 := x1.trans e2
  generalize H1.size = b at *
  refine ⟨fun u H' => ∃ (i : Nat) (dv : Value), u = .int .i64 i ∧ i ≤ min len 100 ∧ Wr H' b 0 dv (catB (P.take i)) ∧ Ext H H' ∧ ∀ k, blkOf dv = some k → H.size ≤ k, fun u _ => match u with | .int _ x => (100 - x).toNat | _ => 0,
    ⟨0, _, rfl, by omega, w2, x2, by simp [blkOf]⟩, ?_⟩
  rintro _ _ H3 ⟨i, dv, rfl, hi, w3, x3, d3⟩
  have hcl := catB_len (P.take i) (fun p hp => hP32 p (List.mem_of_mem_take hp))
  rw [List.length_take] at hcl
  simp only [pPick_v, pNil_v, pNil_f, pAdd_v, pSub_v, pMul_v, pAdd_s, pQuo_v, pRem_v, pBits_v, pShl_v, pShr_v, pLt_v, pLe_v, pGt_v, pGe_v, pEq_0, pNe_0, pEq_1, pNe_1, pEq_2, pNe_2, pEq_3n, pNe_3n, pEq_3s, pNe_3s, pEq_3t, pNe_3t, pEq_5n, pNe_5n, pEq_5s, pNe_5s, pEq_5t, pNe_5t, pEq_4n, pNe_4n, pEq_4s, pNe_4s, pNot_v, pNeg_v, pCom_v, pConv_v, pConvS_v, pMin_v, pMax_v, pFieldAddr_v, pField1_v, pFieldN_v, pExtract_v, pIdxArr_v, pIdxSl_v, pIdxStr_v, pBounds_00, pBounds_10, pBounds_01, pBounds_11, pSlStr_v, pSlSl_v, pSlArr_v, pLenS_v, pLen_v, pCap_v, pBuild_n, pBuild_c, cells_int, cells_str, cells_bool, cells_ptr, cells_slice, cells_map, cells_agg, oneCell_int, oneCell_str, oneCell_bool, oneCell_ptr, oneCell_slice, oneCell_map, putL_cons, putL_nil, pAnd_pure, pOr_pure, pAnd_pureE, pOr_pureE, pAnd_false, pOr_true, pCond_true, pCond_false, add_mk, bys_mk, bys_size, cond_true, cond_false, decide_true, decide_false, decide_not', dec_and, dec_or, dec_eqt, Bool.not_true, Bool.not_false, Option.isNone_none, Option.isNone_some, Option.map_some, Option.map_none, List.getElem?_toArray, List.getElem?_cons_zero, List.getElem?_cons_succ, List.size_toArray, List.length_cons, List.length_nil, List.length_replicate, List.set_cons_zero, List.set_cons_succ, Nat.reduceAdd, Nat.reduceMul, Nat.reduceSub, Nat.reduceLeDiff, Nat.zero_add, Nat.add_zero, Nat.zero_le, true_and, and_true, not_false_eq_true, ne_eq, Int.reduceNeg, Int.reduceEq, Int.reduceNe, Int.reduceLT, Int.reduceLE, le_refl', List.setIfInBounds_toArray, Nat.reduceLT, Array.size_setIfInBounds, if_true, if_false, reduceCtorEq, List.toArray_toList', List.drop_succ_cons, List.drop_zero, List.take_succ_cons, List.take_zero, List.nil_append, List.append_nil, List.cons_append, Bool.and_true, Bool.true_and, Bool.or_false, Bool.false_or, Bool.and_false, Bool.or_true, Bool.true_or, Bool.false_and, eq_self]
  refine fun _ => pCond_if (fun hc => ?_) (fun hc => ?_)
  · have hil : i < len := by omega
    obtain ⟨v, n, hr, hv, hn, hp⟩ := hP i hil
    refine hcell H3 i _ 0 0 x3 hil rfl (by decide) fun v' n' hr' => ?_
    rw [hr, Option.some.injEq] at hr'
    simp only [List.cons.injEq, Value.int.injEq, true_and, and_true] at hr'
    have hv' : v' = v := by omega
    have hn' : n' = n := by omega
    subst hv'
    subst hn'
    rw [if_pos rfl]
    refine hcell H3 i _ 1 1 x3 hil rfl (by decide) fun v'' n'' hr'' => ?_
    rw [hr, Option.some.injEq] at hr''
    simp only [List.cons.injEq, Value.int.injEq, true_and, and_true] at hr''
    have hn'' : n'' = n' := by omega
    subst hn''
    rw [if_neg (by decide)]
    simp only [pPick_v, pNil_v, pNil_f, pAdd_v, pSub_v, pMul_v, pAdd_s, pQuo_v, pRem_v, pBits_v, pShl_v, pShr_v, pLt_v, pLe_v, pGt_v, pGe_v, pEq_0, pNe_0, pEq_1, pNe_1, pEq_2, pNe_2, pEq_3n, pNe_3n, pEq_3s, pNe_3s, pEq_3t, pNe_3t, pEq_5n, pNe_5n, pEq_5s, pNe_5s, pEq_5t, pNe_5t, pEq_4n, pNe_4n, pEq_4s, pNe_4s, pNot_v, pNeg_v, pCom_v, pConv_v, pConvS_v, pMin_v, pMax_v, pFieldAddr_v, pField1_v, pFieldN_v, pExtract_v, pIdxArr_v, pIdxSl_v, pIdxStr_v, pBounds_00, pBounds_10, pBounds_01, pBounds_11, pSlStr_v, pSlSl_v, pSlArr_v, pLenS_v, pLen_v, pCap_v, pBuild_n, pBuild_c, cells_int, cells_str, cells_bool, cells_ptr, cells_slice, cells_map, cells_agg, oneCell_int, oneCell_str, oneCell_bool, oneCell_ptr, oneCell_slice, oneCell_map, putL_cons, putL_nil, pAnd_pure, pOr_pure, pAnd_pureE, pOr_pureE, pAnd_false, pOr_true, pCond_true, pCond_false, add_mk, bys_mk, bys_size, cond_true, cond_false, decide_true, decide_false, decide_not', dec_and, dec_or, dec_eqt, Bool.not_true, Bool.not_false, Option.isNone_none, Option.isNone_some, Option.map_some, Option.map_none, List.getElem?_toArray, List.getElem?_cons_zero, List.getElem?_cons_succ, List.size_toArray, List.length_cons, List.length_nil, List.length_replicate, List.set_cons_zero, List.set_cons_succ, Nat.reduceAdd, Nat.reduceMul, Nat.reduceSub, Nat.reduceLeDiff, Nat.zero_add, Nat.add_zero, Nat.zero_le, true_and, and_true, not_false_eq_true, ne_eq, Int.reduceNeg, Int.reduceEq, Int.reduceNe, Int.reduceLT, Int.reduceLE, le_refl', List.setIfInBounds_toArray, Nat.reduceLT, Array.size_setIfInBounds, if_true, if_false, reduceCtorEq, List.toArray_toList', List.drop_succ_cons, List.drop_zero, List.take_succ_cons, List.take_zero, List.nil_append, List.append_nil, List.cons_append, Bool.and_true, Bool.true_and, Bool.or_false, Bool.false_or, Bool.and_false, Bool.or_true, Bool.true_or, Bool.false_and, eq_self]
    rw [and31 hn]
    refine wWrite_spec hv (by omega) (by omega) w3 (by omega) fun H4 dv4 w4 c4 => ?_
    have hx4 := c4.ext x3 hHb d3
    rw [w64 (by omega) (by omega)]
    refine ⟨⟨i + 1, dv4, rfl, by omega, ?_, hx4.1, hx4.2⟩, by show (_ : Int).toNat < (_ : Int).toNat; omega⟩
    rw [catB_end P hp]; exact w4
  have hie : i = min len 100 := by omega
  generalize hB : catB (P.take i) = B at *
  refine wAlign_spec w3 (by omega) fun H4 dv4 w4 c4 => ?_
  have hx4 := c4.ext x3 hHb d3
  refine wDrain_spec w4 fun H5 dv5 w5 c5 => ?_
  have hx5 := c5.ext hx4.1 hHb hx4.2
  have hpad := padB_len B
  have hts : toBits (toBytes (padB B)) = padB B := toBits_toBytes ((padB B).length / 8) _ (by omega)
  have hpre : ∃ Q, padB B = B ++ Q := ⟨_, rfl⟩
  generalize hs : toBytes (padB B) = s at *
  have hsl : (padB B).length = 8 * s.length := by rw [← hts, toBits_len]
  simp only [pPick_v, pNil_v, pNil_f, pAdd_v, pSub_v, pMul_v, pAdd_s, pQuo_v, pRem_v, pBits_v, pShl_v, pShr_v, pLt_v, pLe_v, pGt_v, pGe_v, pEq_0, pNe_0, pEq_1, pNe_1, pEq_2, pNe_2, pEq_3n, pNe_3n, pEq_3s, pNe_3s, pEq_3t, pNe_3t, pEq_5n, pNe_5n, pEq_5s, pNe_5s, pEq_5t, pNe_5t, pEq_4n, pNe_4n, pEq_4s, pNe_4s, pNot_v, pNeg_v, pCom_v, pConv_v, pConvS_v, pMin_v, pMax_v, pFieldAddr_v, pField1_v, pFieldN_v, pExtract_v, pIdxArr_v, pIdxSl_v, pIdxStr_v, pBounds_00, pBounds_10, pBounds_01, pBounds_11, pSlStr_v, pSlSl_v, pSlArr_v, pLenS_v, pLen_v, pCap_v, pBuild_n, pBuild_c, cells_int, cells_str, cells_bool, cells_ptr, cells_slice, cells_map, cells_agg, oneCell_int, oneCell_str, oneCell_bool, oneCell_ptr, oneCell_slice, oneCell_map, putL_cons, putL_nil, pAnd_pure, pOr_pure, pAnd_pureE, pOr_pureE, pAnd_false, pOr_true, pCond_true, pCond_false, add_mk, bys_mk, bys_size, cond_true, cond_false, decide_true, decide_false, decide_not', dec_and, dec_or, dec_eqt, Bool.not_true, Bool.not_false, Option.isNone_none, Option.isNone_some, Option.map_some, Option.map_none, List.getElem?_toArray, List.getElem?_cons_zero, List.getElem?_cons_succ, List.size_toArray, List.length_cons, List.length_nil, List.length_replicate, List.set_cons_zero, List.set_cons_succ, Nat.reduceAdd, Nat.reduceMul, Nat.reduceSub, Nat.reduceLeDiff, Nat.zero_add, Nat.add_zero, Nat.zero_le, true_and, and_true, not_false_eq_true, ne_eq, Int.reduceNeg, Int.reduceEq, Int.reduceNe, Int.reduceLT, Int.reduceLE, le_refl', List.setIfInBounds_toArray, Nat.reduceLT, Array.size_setIfInBounds, if_true, if_false, reduceCtorEq, List.toArray_toList', List.drop_succ_cons, List.drop_zero, List.take_succ_cons, List.take_zero, List.nil_append, List.append_nil, List.cons_append, Bool.and_true, Bool.true_and, Bool.or_false, Bool.false_or, Bool.and_false, Bool.or_true, Bool.true_or, Bool.false_and, eq_self]
  rw [and_low (k := 4) (m := 15) (n := piece) (by decide) rfl]
  have hq0 := Int.emod_nonneg piece (show (2 : Int) ^ 4 ≠ 0 by decide)
  have hq1 := Int.emod_lt_of_pos piece (show (0 : Int) < 2 ^ 4 by decide)
  rw [w64 (n := 1 + piece % 2 ^ 4) (by omega) (by omega)]
  obtain ⟨pc, hpc⟩ : ∃ pc : Nat, 1 + piece % 2 ^ 4 = (pc : Int) := ⟨(1 + piece % 2 ^ 4).toNat, by omega⟩
  rw [hpc]
  refine pBox_ext fun H6 s6 e6 b6 => ?_
  have r6 := Rd.new (Sub.all (cs := [str [], .int .u64 0, .int .i64 0]) b6)
  have x6 : Ext H H6 := hx5.1.trans e6
  have hHr : H.size ≤ H5.size := hx5.1.size
  generalize H5.size = rb at *
  refine ⟨fun u v H' => ∃ (m k : Nat), u = .int .i64 m ∧ v = .int .i64 k ∧ k ≤ min len 100 ∧ m ≤ s.length + 20 ∧ Rd H' rb 0 ((toBits (s.take m)).drop (catB (P.take k)).length) ∧ (catB (P.take k)).length ≤ (toBits (s.take m)).length ∧ Ext H H',
    fun _ v _ => match v with | .int _ x => (100 - x).toNat | _ => 0, ⟨0, 0, rfl, rfl, by omega, by omega, r6, by simp [catB], x6⟩, ?_⟩
  rintro _ _ _ H7 ⟨m, k, rfl, rfl, hk, hm, r7, hu7, x7⟩
  obtain ⟨QB, hQB⟩ := catB_mono P (show k ≤ i by omega)
  rw [hB] at hQB
  simp only [pPick_v, pNil_v, pNil_f, pAdd_v, pSub_v, pMul_v, pAdd_s, pQuo_v, pRem_v, pBits_v, pShl_v, pShr_v, pLt_v, pLe_v, pGt_v, pGe_v, pEq_0, pNe_0, pEq_1, pNe_1, pEq_2, pNe_2, pEq_3n, pNe_3n, pEq_3s, pNe_3s, pEq_3t, pNe_3t, pEq_5n, pNe_5n, pEq_5s, pNe_5s, pEq_5t, pNe_5t, pEq_4n, pNe_4n, pEq_4s, pNe_4s, pNot_v, pNeg_v, pCom_v, pConv_v, pConvS_v, pMin_v, pMax_v, pFieldAddr_v, pField1_v, pFieldN_v, pExtract_v, pIdxArr_v, pIdxSl_v, pIdxStr_v, pBounds_00, pBounds_10, pBounds_01, pBounds_11, pSlStr_v, pSlSl_v, pSlArr_v, pLenS_v, pLen_v, pCap_v, pBuild_n, pBuild_c, cells_int, cells_str, cells_bool, cells_ptr, cells_slice, cells_map, cells_agg, oneCell_int, oneCell_str, oneCell_bool, oneCell_ptr, oneCell_slice, oneCell_map, putL_cons, putL_nil, pAnd_pure, pOr_pure, pAnd_pureE, pOr_pureE, pAnd_false, pOr_true, pCond_true, pCond_false, add_mk, bys_mk, bys_size, cond_true, cond_false, decide_true, decide_false, decide_not', dec_and, dec_or, dec_eqt, Bool.not_true, Bool.not_false, Option.isNone_none, Option.isNone_some, Option.map_some, Option.map_none, List.getElem?_toArray, List.getElem?_cons_zero, List.getElem?_cons_succ, List.size_toArray, List.length_cons, List.length_nil, List.length_replicate, List.set_cons_zero, List.set_cons_succ, Nat.reduceAdd, Nat.reduceMul, Nat.reduceSub, Nat.reduceLeDiff, Nat.zero_add, Nat.add_zero, Nat.zero_le, true_and, and_true, not_false_eq_true, ne_eq, Int.reduceNeg, Int.reduceEq, Int.reduceNe, Int.reduceLT, Int.reduceLE, le_refl', List.setIfInBounds_toArray, Nat.reduceLT, Array.size_setIfInBounds, if_true, if_false, reduceCtorEq, List.toArray_toList', List.drop_succ_cons, List.drop_zero, List.take_succ_cons, List.take_zero, List.nil_append, List.append_nil, List.cons_append, Bool.and_true, Bool.true_and, Bool.or_false, Bool.false_or, Bool.and_false, Bool.or_true, Bool.true_or, Bool.false_and, eq_self]
  refine fun _ => pCond_if (fun hc2 => ?_) (fun hc2 => ?_)
  · have hkl : k < len := by omega
    obtain ⟨v, n, hr, hv, hn, hp⟩ := hP k hkl
    have hcat := catB_end P hp
    have hc32 := hP32 _ (List.mem_of_getElem? hp)
    obtain ⟨QC, hQC⟩ := catB_mono P (show k + 1 ≤ i by omega)
    rw [hB, hcat] at hQC
    generalize hU : catB (P.take k) = U at *
    have hUl : U.length + (1 + n % 32) ≤ B.length := by rw [hQC, List.length_append, List.length_append, bitsN_len]; omega
    refine hcell H7 k _ 1 1 x7 hkl rfl (by decide) fun v' n' hr' => ?_
    rw [hr, Option.some.injEq] at hr'
    simp only [List.cons.injEq, Value.int.injEq, true_and, and_true] at hr'
    have hn' : n' = n := by omega
    subst hn'
    rw [if_neg (by decide)]
    simp only [pPick_v, pNil_v, pNil_f, pAdd_v, pSub_v, pMul_v, pAdd_s, pQuo_v, pRem_v, pBits_v, pShl_v, pShr_v, pLt_v, pLe_v, pGt_v, pGe_v, pEq_0, pNe_0, pEq_1, pNe_1, pEq_2, pNe_2, pEq_3n, pNe_3n, pEq_3s, pNe_3s, pEq_3t, pNe_3t, pEq_5n, pNe_5n, pEq_5s, pNe_5s, pEq_5t, pNe_5t, pEq_4n, pNe_4n, pEq_4s, pNe_4s, pNot_v, pNeg_v, pCom_v, pConv_v, pConvS_v, pMin_v, pMax_v, pFieldAddr_v, pField1_v, pFieldN_v, pExtract_v, pIdxArr_v, pIdxSl_v, pIdxStr_v, pBounds_00, pBounds_10, pBounds_01, pBounds_11, pSlStr_v, pSlSl_v, pSlArr_v, pLenS_v, pLen_v, pCap_v, pBuild_n, pBuild_c, cells_int, cells_str, cells_bool, cells_ptr, cells_slice, cells_map, cells_agg, oneCell_int, oneCell_str, oneCell_bool, oneCell_ptr, oneCell_slice, oneCell_map, putL_cons, putL_nil, pAnd_pure, pOr_pure, pAnd_pureE, pOr_pureE, pAnd_false, pOr_true, pCond_true, pCond_false, add_mk, bys_mk, bys_size, cond_true, cond_false, decide_true, decide_false, decide_not', dec_and, dec_or, dec_eqt, Bool.not_true, Bool.not_false, Option.isNone_none, Option.isNone_some, Option.map_some, Option.map_none, List.getElem?_toArray, List.getElem?_cons_zero, List.getElem?_cons_succ, List.size_toArray, List.length_cons, List.length_nil, List.length_replicate, List.set_cons_zero, List.set_cons_succ, Nat.reduceAdd, Nat.reduceMul, Nat.reduceSub, Nat.reduceLeDiff, Nat.zero_add, Nat.add_zero, Nat.zero_le, true_and, and_true, not_false_eq_true, ne_eq, Int.reduceNeg, Int.reduceEq, Int.reduceNe, Int.reduceLT, Int.reduceLE, le_refl', List.setIfInBounds_toArray, Nat.reduceLT, Array.size_setIfInBounds, if_true, if_false, reduceCtorEq, List.toArray_toList', List.drop_succ_cons, List.drop_zero, List.take_succ_cons, List.take_zero, List.nil_append, List.append_nil, List.cons_append, Bool.and_true, Bool.true_and, Bool.or_false, Bool.false_or, Bool.and_false, Bool.or_true, Bool.true_or, Bool.false_and, eq_self]
    rw [and31 hn]
    generalize hw : 1 + n' % 32 = w at *
    -- what a read gives, at any place of the text
    have hrd : ∀ (H' : Heap) (m : Nat) (R : Value → Heap → Prop), Rd H' rb 0 ((toBits (s.take m)).drop U.length) → U.length ≤ (toBits (s.take m)).length → Ext H H' →
        (∀ H'', Rd H'' rb 0 ((toBits (s.take m)).drop (U.length + w)) → U.length + w ≤ (toBits (s.take m)).length → Ext H H'' → R (.tuple #[u64 (v % 2 ^ w), .bool true]) H'') →
        (m < s.length → R (.tuple #[.int .u64 0, .bool false]) H') → CallsH Try.prog 22 #[at_ rb 0, .int .i64 w] H' R := by
      intro H' m R rr hu hx h1 h2
      have hdl : ((toBits (s.take m)).drop U.length).length = (toBits (s.take m)).length - U.length := by rw [List.length_drop]
      by_cases hav : w ≤ (toBits (s.take m)).length - U.length
      · refine rRead_spec rr hc32 (by omega) fun H'' r'' c'' => ?_
        have hval : numB (((toBits (s.take m)).drop U.length).take w) = v % 2 ^ w := by
          rw [← numB_bitsN]
          congr 1
          rw [toBits_len, List.length_take] at hav hu
          rw [toBits_take, hts]
          obtain ⟨Q, hQ⟩ := hpre
          rw [hQ, hQC]
          rw [List.drop_take, List.take_take, List.append_assoc, List.append_assoc, List.drop_append_of_le_length (Nat.le_refl _), List.drop_of_length_le (Nat.le_refl _), List.nil_append]
          rw [show min w (8 * m - U.length) = w by omega, List.take_append_of_le_length (by rw [bitsN_len]; exact Nat.le_refl _), List.take_of_length_le (by rw [bitsN_len]; exact Nat.le_refl _)]
        rw [hval]
        rw [List.drop_drop] at r''
        exact h1 H'' r'' (by omega) (c''.ext hx hHr (fun _ h => h.elim)).1
      · refine rRead_no rr (by omega) (h2 ?_)
        rcases Nat.lt_or_ge m s.length with h' | h'
        · exact h'
        · exfalso
          rw [List.take_of_length_le h', hts] at hav
          omega
    refine hrd H7 m _ r7 hu7 x7 (fun H8 r8 hu8 x8 => ?_) (fun hms => ?_)
    all_goals simp only [pPick_v, pNil_v, pNil_f, pAdd_v, pSub_v, pMul_v, pAdd_s, pQuo_v, pRem_v, pBits_v, pShl_v, pShr_v, pLt_v, pLe_v, pGt_v, pGe_v, pEq_0, pNe_0, pEq_1, pNe_1, pEq_2, pNe_2, pEq_3n, pNe_3n, pEq_3s, pNe_3s, pEq_3t, pNe_3t, pEq_5n, pNe_5n, pEq_5s, pNe_5s, pEq_5t, pNe_5t, pEq_4n, pNe_4n, pEq_4s, pNe_4s, pNot_v, pNeg_v, pCom_v, pConv_v, pConvS_v, pMin_v, pMax_v, pFieldAddr_v, pField1_v, pFieldN_v, pExtract_v, pIdxArr_v, pIdxSl_v, pIdxStr_v, pBounds_00, pBounds_10, pBounds_01, pBounds_11, pSlStr_v, pSlSl_v, pSlArr_v, pLenS_v, pLen_v, pCap_v, pBuild_n, pBuild_c, cells_int, cells_str, cells_bool, cells_ptr, cells_slice, cells_map, cells_agg, oneCell_int, oneCell_str, oneCell_bool, oneCell_ptr, oneCell_slice, oneCell_map, putL_cons, putL_nil, pAnd_pure, pOr_pure, pAnd_pureE, pOr_pureE, pAnd_false, pOr_true, pCond_true, pCond_false, add_mk, bys_mk, bys_size, cond_true, cond_false, decide_true, decide_false, decide_not', dec_and, dec_or, dec_eqt, Bool.not_true, Bool.not_false, Option.isNone_none, Option.isNone_some, Option.map_some, Option.map_none, List.getElem?_toArray, List.getElem?_cons_zero, List.getElem?_cons_succ, List.size_toArray, List.length_cons, List.length_nil, List.length_replicate, List.set_cons_zero, List.set_cons_succ, Nat.reduceAdd, Nat.reduceMul, Nat.reduceSub, Nat.reduceLeDiff, Nat.zero_add, Nat.add_zero, Nat.zero_le, true_and, and_true, not_false_eq_true, ne_eq, Int.reduceNeg, Int.reduceEq, Int.reduceNe, Int.reduceLT, Int.reduceLE, le_refl', List.setIfInBounds_toArray, Nat.reduceLT, Array.size_setIfInBounds, if_true, if_false, reduceCtorEq, List.toArray_toList', List.drop_succ_cons, List.drop_zero, List.take_succ_cons, List.take_zero, List.nil_append, List.append_nil, List.cons_append, Bool.and_true, Bool.true_and, Bool.or_false, Bool.false_or, Bool.and_false, Bool.or_true, Bool.true_or, Bool.false_and, eq_self]
    all_goals refine ⟨fun u v1 ok H' => ∃ m' : Nat, u = .int .i64 m' ∧ m' ≤ s.length + 20 ∧ Ext H H' ∧
        ((ok = .bool true ∧ v1 = u64 (v % 2 ^ w) ∧ Rd H' rb 0 ((toBits (s.take m')).drop (U.length + w)) ∧ U.length + w ≤ (toBits (s.take m')).length) ∨
         (ok = .bool false ∧ v1 = .int .u64 0 ∧ Rd H' rb 0 ((toBits (s.take m')).drop U.length) ∧ U.length ≤ (toBits (s.take m')).length ∧ m' < s.length)),
      fun u _ _ _ => match u with | .int _ x => (s.length + 20 - x).toNat | _ => 0, ?_, ?_⟩
    · exact ⟨m, rfl, hm, x8, .inl ⟨rfl, rfl, r8, hu8⟩⟩
    rotate_left
    · exact ⟨m, rfl, hm, x7, .inr ⟨rfl, rfl, r7, hu7, hms⟩⟩
    all_goals
      rintro _ _ v1 ok H9 ⟨m', rfl, hm', x9, hcase⟩
      rcases hcase with ⟨rfl, rfl, r9, hu9⟩ | ⟨rfl, rfl, r9, hu9, hms9⟩
      · simp only [pPick_v, pNil_v, pNil_f, pAdd_v, pSub_v, pMul_v, pAdd_s, pQuo_v, pRem_v, pBits_v, pShl_v, pShr_v, pLt_v, pLe_v, pGt_v, pGe_v, pEq_0, pNe_0, pEq_1, pNe_1, pEq_2, pNe_2, pEq_3n, pNe_3n, pEq_3s, pNe_3s, pEq_3t, pNe_3t, pEq_5n, pNe_5n, pEq_5s, pNe_5s, pEq_5t, pNe_5t, pEq_4n, pNe_4n, pEq_4s, pNe_4s, pNot_v, pNeg_v, pCom_v, pConv_v, pConvS_v, pMin_v, pMax_v, pFieldAddr_v, pField1_v, pFieldN_v, pExtract_v, pIdxArr_v, pIdxSl_v, pIdxStr_v, pBounds_00, pBounds_10, pBounds_01, pBounds_11, pSlStr_v, pSlSl_v, pSlArr_v, pLenS_v, pLen_v, pCap_v, pBuild_n, pBuild_c, cells_int, cells_str, cells_bool, cells_ptr, cells_slice, cells_map, cells_agg, oneCell_int, oneCell_str, oneCell_bool, oneCell_ptr, oneCell_slice, oneCell_map, putL_cons, putL_nil, pAnd_pure, pOr_pure, pAnd_pureE, pOr_pureE, pAnd_false, pOr_true, pCond_true, pCond_false, add_mk, bys_mk, bys_size, cond_true, cond_false, decide_true, decide_false, decide_not', dec_and, dec_or, dec_eqt, Bool.not_true, Bool.not_false, Option.isNone_none, Option.isNone_some, Option.map_some, Option.map_none, List.getElem?_toArray, List.getElem?_cons_zero, List.getElem?_cons_succ, List.size_toArray, List.length_cons, List.length_nil, List.length_replicate, List.set_cons_zero, List.set_cons_succ, Nat.reduceAdd, Nat.reduceMul, Nat.reduceSub, Nat.reduceLeDiff, Nat.zero_add, Nat.add_zero, Nat.zero_le, true_and, and_true, not_false_eq_true, ne_eq, Int.reduceNeg, Int.reduceEq, Int.reduceNe, Int.reduceLT, Int.reduceLE, le_refl', List.setIfInBounds_toArray, Nat.reduceLT, Array.size_setIfInBounds, if_true, if_false, reduceCtorEq, List.toArray_toList', List.drop_succ_cons, List.drop_zero, List.take_succ_cons, List.take_zero, List.nil_append, List.append_nil, List.cons_append, Bool.and_true, Bool.true_and, Bool.or_false, Bool.false_or, Bool.and_false, Bool.or_true, Bool.true_or, Bool.false_and, eq_self]
        refine fun _ => pOr_false ?_
        refine hcell H9 k _ 0 0 x9 hkl rfl (by decide) fun v'' n'' hr'' => ?_
        rw [hr, Option.some.injEq] at hr''
        simp only [List.cons.injEq, Value.int.injEq, true_and, and_true] at hr''
        have hv'' : v'' = v := by omega
        subst hv''
        rw [if_pos rfl]
        simp only [pPick_v, pNil_v, pNil_f, pAdd_v, pSub_v, pMul_v, pAdd_s, pQuo_v, pRem_v, pBits_v, pShl_v, pShr_v, pLt_v, pLe_v, pGt_v, pGe_v, pEq_0, pNe_0, pEq_1, pNe_1, pEq_2, pNe_2, pEq_3n, pNe_3n, pEq_3s, pNe_3s, pEq_3t, pNe_3t, pEq_5n, pNe_5n, pEq_5s, pNe_5s, pEq_5t, pNe_5t, pEq_4n, pNe_4n, pEq_4s, pNe_4s, pNot_v, pNeg_v, pCom_v, pConv_v, pConvS_v, pMin_v, pMax_v, pFieldAddr_v, pField1_v, pFieldN_v, pExtract_v, pIdxArr_v, pIdxSl_v, pIdxStr_v, pBounds_00, pBounds_10, pBounds_01, pBounds_11, pSlStr_v, pSlSl_v, pSlArr_v, pLenS_v, pLen_v, pCap_v, pBuild_n, pBuild_c, cells_int, cells_str, cells_bool, cells_ptr, cells_slice, cells_map, cells_agg, oneCell_int, oneCell_str, oneCell_bool, oneCell_ptr, oneCell_slice, oneCell_map, putL_cons, putL_nil, pAnd_pure, pOr_pure, pAnd_pureE, pOr_pureE, pAnd_false, pOr_true, pCond_true, pCond_false, add_mk, bys_mk, bys_size, cond_true, cond_false, decide_true, decide_false, decide_not', dec_and, dec_or, dec_eqt, Bool.not_true, Bool.not_false, Option.isNone_none, Option.isNone_some, Option.map_some, Option.map_none, List.getElem?_toArray, List.getElem?_cons_zero, List.getElem?_cons_succ, List.size_toArray, List.length_cons, List.length_nil, List.length_replicate, List.set_cons_zero, List.set_cons_succ, Nat.reduceAdd, Nat.reduceMul, Nat.reduceSub, Nat.reduceLeDiff, Nat.zero_add, Nat.add_zero, Nat.zero_le, true_and, and_true, not_false_eq_true, ne_eq, Int.reduceNeg, Int.reduceEq, Int.reduceNe, Int.reduceLT, Int.reduceLE, le_refl', List.setIfInBounds_toArray, Nat.reduceLT, Array.size_setIfInBounds, if_true, if_false, reduceCtorEq, List.toArray_toList', List.drop_succ_cons, List.drop_zero, List.take_succ_cons, List.take_zero, List.nil_append, List.append_nil, List.cons_append, Bool.and_true, Bool.true_and, Bool.or_false, Bool.false_or, Bool.and_false, Bool.or_true, Bool.true_or, Bool.false_and, eq_self]
        refine ⟨by omega, ?_⟩
        rw [mask_u64 hv hc32, decide_eq_false (by simp)]
        refine fun _ => pCond_b (fun h => by cases h) fun _ => ?_
        rw [w64 (by omega) (by omega)]
        refine ⟨⟨m', k + 1, rfl, rfl, by omega, hm', ?_, ?_, x9⟩, by show (_ : Int).toNat < (_ : Int).toNat; omega⟩
        · rw [hcat, List.length_append, bitsN_len]; exact r9
        · rw [hcat, List.length_append, bitsN_len]; exact hu9
      · simp only [pPick_v, pNil_v, pNil_f, pAdd_v, pSub_v, pMul_v, pAdd_s, pQuo_v, pRem_v, pBits_v, pShl_v, pShr_v, pLt_v, pLe_v, pGt_v, pGe_v, pEq_0, pNe_0, pEq_1, pNe_1, pEq_2, pNe_2, pEq_3n, pNe_3n, pEq_3s, pNe_3s, pEq_3t, pNe_3t, pEq_5n, pNe_5n, pEq_5s, pNe_5s, pEq_5t, pNe_5t, pEq_4n, pNe_4n, pEq_4s, pNe_4s, pNot_v, pNeg_v, pCom_v, pConv_v, pConvS_v, pMin_v, pMax_v, pFieldAddr_v, pField1_v, pFieldN_v, pExtract_v, pIdxArr_v, pIdxSl_v, pIdxStr_v, pBounds_00, pBounds_10, pBounds_01, pBounds_11, pSlStr_v, pSlSl_v, pSlArr_v, pLenS_v, pLen_v, pCap_v, pBuild_n, pBuild_c, cells_int, cells_str, cells_bool, cells_ptr, cells_slice, cells_map, cells_agg, oneCell_int, oneCell_str, oneCell_bool, oneCell_ptr, oneCell_slice, oneCell_map, putL_cons, putL_nil, pAnd_pure, pOr_pure, pAnd_pureE, pOr_pureE, pAnd_false, pOr_true, pCond_true, pCond_false, add_mk, bys_mk, bys_size, cond_true, cond_false, decide_true, decide_false, decide_not', dec_and, dec_or, dec_eqt, Bool.not_true, Bool.not_false, Option.isNone_none, Option.isNone_some, Option.map_some, Option.map_none, List.getElem?_toArray, List.getElem?_cons_zero, List.getElem?_cons_succ, List.size_toArray, List.length_cons, List.length_nil, List.length_replicate, List.set_cons_zero, List.set_cons_succ, Nat.reduceAdd, Nat.reduceMul, Nat.reduceSub, Nat.reduceLeDiff, Nat.zero_add, Nat.add_zero, Nat.zero_le, true_and, and_true, not_false_eq_true, ne_eq, Int.reduceNeg, Int.reduceEq, Int.reduceNe, Int.reduceLT, Int.reduceLE, le_refl', List.setIfInBounds_toArray, Nat.reduceLT, Array.size_setIfInBounds, if_true, if_false, reduceCtorEq, List.toArray_toList', List.drop_succ_cons, List.drop_zero, List.take_succ_cons, List.take_zero, List.nil_append, List.append_nil, List.cons_append, Bool.and_true, Bool.true_and, Bool.or_false, Bool.false_or, Bool.and_false, Bool.or_true, Bool.true_or, Bool.false_and, eq_self]
        rw [decide_eq_true (p := (m' : Int) < (s.length : Int)) (by omega)]
        simp only [pPick_v, pNil_v, pNil_f, pAdd_v, pSub_v, pMul_v, pAdd_s, pQuo_v, pRem_v, pBits_v, pShl_v, pShr_v, pLt_v, pLe_v, pGt_v, pGe_v, pEq_0, pNe_0, pEq_1, pNe_1, pEq_2, pNe_2, pEq_3n, pNe_3n, pEq_3s, pNe_3s, pEq_3t, pNe_3t, pEq_5n, pNe_5n, pEq_5s, pNe_5s, pEq_5t, pNe_5t, pEq_4n, pNe_4n, pEq_4s, pNe_4s, pNot_v, pNeg_v, pCom_v, pConv_v, pConvS_v, pMin_v, pMax_v, pFieldAddr_v, pField1_v, pFieldN_v, pExtract_v, pIdxArr_v, pIdxSl_v, pIdxStr_v, pBounds_00, pBounds_10, pBounds_01, pBounds_11, pSlStr_v, pSlSl_v, pSlArr_v, pLenS_v, pLen_v, pCap_v, pBuild_n, pBuild_c, cells_int, cells_str, cells_bool, cells_ptr, cells_slice, cells_map, cells_agg, oneCell_int, oneCell_str, oneCell_bool, oneCell_ptr, oneCell_slice, oneCell_map, putL_cons, putL_nil, pAnd_pure, pOr_pure, pAnd_pureE, pOr_pureE, pAnd_false, pOr_true, pCond_true, pCond_false, add_mk, bys_mk, bys_size, cond_true, cond_false, decide_true, decide_false, decide_not', dec_and, dec_or, dec_eqt, Bool.not_true, Bool.not_false, Option.isNone_none, Option.isNone_some, Option.map_some, Option.map_none, List.getElem?_toArray, List.getElem?_cons_zero, List.getElem?_cons_succ, List.size_toArray, List.length_cons, List.length_nil, List.length_replicate, List.set_cons_zero, List.set_cons_succ, Nat.reduceAdd, Nat.reduceMul, Nat.reduceSub, Nat.reduceLeDiff, Nat.zero_add, Nat.add_zero, Nat.zero_le, true_and, and_true, not_false_eq_true, ne_eq, Int.reduceNeg, Int.reduceEq, Int.reduceNe, Int.reduceLT, Int.reduceLE, le_refl', List.setIfInBounds_toArray, Nat.reduceLT, Array.size_setIfInBounds, if_true, if_false, reduceCtorEq, List.toArray_toList', List.drop_succ_cons, List.drop_zero, List.take_succ_cons, List.take_zero, List.nil_append, List.append_nil, List.cons_append, Bool.and_true, Bool.true_and, Bool.or_false, Bool.false_or, Bool.and_false, Bool.or_true, Bool.true_or, Bool.false_and, eq_self]
        rw [w64 (n := (m' : Int) + (pc : Int)) (by omega) (by omega)]
        refine fun _ => ⟨by omega, by omega, by omega, by omega, ?_⟩
        have hcut : List.take ((min ((m' : Int) + (pc : Int)) (s.length : Int)).toNat - (m' : Int).toNat) (List.drop (m' : Int).toNat s) = (s.take (m' + pc)).drop m' := by
          rw [Int.toNat_natCast, List.drop_take, show m' + pc - m' = pc by omega]
          apply List.ext_getElem?
          intro j
          rw [List.getElem?_take, List.getElem?_take, List.getElem?_drop]
          by_cases hj : j < pc
          · rw [if_pos hj]
            split
            · rfl
            · rw [List.getElem?_eq_none (by omega)]
          · rw [if_neg hj, if_neg (by omega)]
        rw [hcut]
        have hfl : ((s.take (m' + pc)).drop m').length ≤ 16 := by rw [List.length_drop, List.length_take]; omega
        refine rFeed_spec r9 (by rw [List.length_drop, toBits_len, List.length_take]; omega) fun H10 r10 c10 => ?_
        have x10 := (c10.ext x9 hHr (fun _ h => h.elim)).1
        have htk : toBits (s.take (m' + pc)) = toBits (s.take m') ++ toBits ((s.take (m' + pc)).drop m') := by
          rw [← toBits_append]
          congr 1
          have : s.take m' = (s.take (m' + pc)).take m' := by rw [List.take_take]; congr 1; omega
          rw [this, List.take_append_drop]
        have r10' : Rd H10 rb 0 ((toBits (s.take (m' + pc))).drop U.length) := by
          rw [htk, List.drop_append_of_le_length hu9]; exact r10
        have hu10 : U.length ≤ (toBits (s.take (m' + pc))).length := by rw [htk, List.length_append]; omega
        refine hrd H10 (m' + pc) _ r10' hu10 x10 (fun H11 r11 hu11 x11 => ?_) (fun hms11 => ?_)
        · simp only [pPick_v, pNil_v, pNil_f, pAdd_v, pSub_v, pMul_v, pAdd_s, pQuo_v, pRem_v, pBits_v, pShl_v, pShr_v, pLt_v, pLe_v, pGt_v, pGe_v, pEq_0, pNe_0, pEq_1, pNe_1, pEq_2, pNe_2, pEq_3n, pNe_3n, pEq_3s, pNe_3s, pEq_3t, pNe_3t, pEq_5n, pNe_5n, pEq_5s, pNe_5s, pEq_5t, pNe_5t, pEq_4n, pNe_4n, pEq_4s, pNe_4s, pNot_v, pNeg_v, pCom_v, pConv_v, pConvS_v, pMin_v, pMax_v, pFieldAddr_v, pField1_v, pFieldN_v, pExtract_v, pIdxArr_v, pIdxSl_v, pIdxStr_v, pBounds_00, pBounds_10, pBounds_01, pBounds_11, pSlStr_v, pSlSl_v, pSlArr_v, pLenS_v, pLen_v, pCap_v, pBuild_n, pBuild_c, cells_int, cells_str, cells_bool, cells_ptr, cells_slice, cells_map, cells_agg, oneCell_int, oneCell_str, oneCell_bool, oneCell_ptr, oneCell_slice, oneCell_map, putL_cons, putL_nil, pAnd_pure, pOr_pure, pAnd_pureE, pOr_pureE, pAnd_false, pOr_true, pCond_true, pCond_false, add_mk, bys_mk, bys_size, cond_true, cond_false, decide_true, decide_false, decide_not', dec_and, dec_or, dec_eqt, Bool.not_true, Bool.not_false, Option.isNone_none, Option.isNone_some, Option.map_some, Option.map_none, List.getElem?_toArray, List.getElem?_cons_zero, List.getElem?_cons_succ, List.size_toArray, List.length_cons, List.length_nil, List.length_replicate, List.set_cons_zero, List.set_cons_succ, Nat.reduceAdd, Nat.reduceMul, Nat.reduceSub, Nat.reduceLeDiff, Nat.zero_add, Nat.add_zero, Nat.zero_le, true_and, and_true, not_false_eq_true, ne_eq, Int.reduceNeg, Int.reduceEq, Int.reduceNe, Int.reduceLT, Int.reduceLE, le_refl', List.setIfInBounds_toArray, Nat.reduceLT, Array.size_setIfInBounds, if_true, if_false, reduceCtorEq, List.toArray_toList', List.drop_succ_cons, List.drop_zero, List.take_succ_cons, List.take_zero, List.nil_append, List.append_nil, List.cons_append, Bool.and_true, Bool.true_and, Bool.or_false, Bool.false_or, Bool.and_false, Bool.or_true, Bool.true_or, Bool.false_and, eq_self]
          exact ⟨⟨m' + pc, by congr 1, by omega, x11, .inl ⟨r11, hu11⟩⟩, by show (_ : Int).toNat < (_ : Int).toNat; omega⟩
        · simp only [pPick_v, pNil_v, pNil_f, pAdd_v, pSub_v, pMul_v, pAdd_s, pQuo_v, pRem_v, pBits_v, pShl_v, pShr_v, pLt_v, pLe_v, pGt_v, pGe_v, pEq_0, pNe_0, pEq_1, pNe_1, pEq_2, pNe_2, pEq_3n, pNe_3n, pEq_3s, pNe_3s, pEq_3t, pNe_3t, pEq_5n, pNe_5n, pEq_5s, pNe_5s, pEq_5t, pNe_5t, pEq_4n, pNe_4n, pEq_4s, pNe_4s, pNot_v, pNeg_v, pCom_v, pConv_v, pConvS_v, pMin_v, pMax_v, pFieldAddr_v, pField1_v, pFieldN_v, pExtract_v, pIdxArr_v, pIdxSl_v, pIdxStr_v, pBounds_00, pBounds_10, pBounds_01, pBounds_11, pSlStr_v, pSlSl_v, pSlArr_v, pLenS_v, pLen_v, pCap_v, pBuild_n, pBuild_c, cells_int, cells_str, cells_bool, cells_ptr, cells_slice, cells_map, cells_agg, oneCell_int, oneCell_str, oneCell_bool, oneCell_ptr, oneCell_slice, oneCell_map, putL_cons, putL_nil, pAnd_pure, pOr_pure, pAnd_pureE, pOr_pureE, pAnd_false, pOr_true, pCond_true, pCond_false, add_mk, bys_mk, bys_size, cond_true, cond_false, decide_true, decide_false, decide_not', dec_and, dec_or, dec_eqt, Bool.not_true, Bool.not_false, Option.isNone_none, Option.isNone_some, Option.map_some, Option.map_none, List.getElem?_toArray, List.getElem?_cons_zero, List.getElem?_cons_succ, List.size_toArray, List.length_cons, List.length_nil, List.length_replicate, List.set_cons_zero, List.set_cons_succ, Nat.reduceAdd, Nat.reduceMul, Nat.reduceSub, Nat.reduceLeDiff, Nat.zero_add, Nat.add_zero, Nat.zero_le, true_and, and_true, not_false_eq_true, ne_eq, Int.reduceNeg, Int.reduceEq, Int.reduceNe, Int.reduceLT, Int.reduceLE, le_refl', List.setIfInBounds_toArray, Nat.reduceLT, Array.size_setIfInBounds, if_true, if_false, reduceCtorEq, List.toArray_toList', List.drop_succ_cons, List.drop_zero, List.take_succ_cons, List.take_zero, List.nil_append, List.append_nil, List.cons_append, Bool.and_true, Bool.true_and, Bool.or_false, Bool.false_or, Bool.and_false, Bool.or_true, Bool.true_or, Bool.false_and, eq_self]
          exact ⟨⟨m' + pc, by congr 1, by omega, x10, .inr ⟨r10', hu10, hms11⟩⟩, by show (_ : Int).toNat < (_ : Int).toNat; omega⟩
  · have hke : k = i := by omega
    subst hke
    rw [hB] at r7 hu7
    refine rLeft_spec r7 ?_
    rw [List.length_drop, toBits_len, List.length_take]
    simp only [pPick_v, pNil_v, pNil_f, pAdd_v, pSub_v, pMul_v, pAdd_s, pQuo_v, pRem_v, pBits_v, pShl_v, pShr_v, pLt_v, pLe_v, pGt_v, pGe_v, pEq_0, pNe_0, pEq_1, pNe_1, pEq_2, pNe_2, pEq_3n, pNe_3n, pEq_3s, pNe_3s, pEq_3t, pNe_3t, pEq_5n, pNe_5n, pEq_5s, pNe_5s, pEq_5t, pNe_5t, pEq_4n, pNe_4n, pEq_4s, pNe_4s, pNot_v, pNeg_v, pCom_v, pConv_v, pConvS_v, pMin_v, pMax_v, pFieldAddr_v, pField1_v, pFieldN_v, pExtract_v, pIdxArr_v, pIdxSl_v, pIdxStr_v, pBounds_00, pBounds_10, pBounds_01, pBounds_11, pSlStr_v, pSlSl_v, pSlArr_v, pLenS_v, pLen_v, pCap_v, pBuild_n, pBuild_c, cells_int, cells_str, cells_bool, cells_ptr, cells_slice, cells_map, cells_agg, oneCell_int, oneCell_str, oneCell_bool, oneCell_ptr, oneCell_slice, oneCell_map, putL_cons, putL_nil, pAnd_pure, pOr_pure, pAnd_pureE, pOr_pureE, pAnd_false, pOr_true, pCond_true, pCond_false, add_mk, bys_mk, bys_size, cond_true, cond_false, decide_true, decide_false, decide_not', dec_and, dec_or, dec_eqt, Bool.not_true, Bool.not_false, Option.isNone_none, Option.isNone_some, Option.map_some, Option.map_none, List.getElem?_toArray, List.getElem?_cons_zero, List.getElem?_cons_succ, List.size_toArray, List.length_cons, List.length_nil, List.length_replicate, List.set_cons_zero, List.set_cons_succ, Nat.reduceAdd, Nat.reduceMul, Nat.reduceSub, Nat.reduceLeDiff, Nat.zero_add, Nat.add_zero, Nat.zero_le, true_and, and_true, not_false_eq_true, ne_eq, Int.reduceNeg, Int.reduceEq, Int.reduceNe, Int.reduceLT, Int.reduceLE, le_refl', List.setIfInBounds_toArray, Nat.reduceLT, Array.size_setIfInBounds, if_true, if_false, reduceCtorEq, List.toArray_toList', List.drop_succ_cons, List.drop_zero, List.take_succ_cons, List.take_zero, List.nil_append, List.append_nil, List.cons_append, Bool.and_true, Bool.true_and, Bool.or_false, Bool.false_or, Bool.and_false, Bool.or_true, Bool.true_or, Bool.false_and, eq_self]
    refine fun _ => ?_
    rw [decide_eq_true (by omega)]
    exact fun _ => ⟨rfl, x7⟩
end Go.Proofs.Ytppaiehkjdidiaa
