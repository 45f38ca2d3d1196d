/- The law LzSymbols over heaps. -/
import Derived.Test.YtpnkoniomalcpaaDoorSpeaks05
import Derived.Test.YtpnkoniomalcpaaDoorResB
import Derived.Test.YtpnkoniomalcpaaDoorVcLib
namespace Go.Proofs.YtpnkoniomalcpaaDoor
-- only what is there
open Go Go.Vc Go.Proofs
set_option linter.unusedVariables false
set_option linter.unusedSimpArgs false
variable {H : Heap} {R : Value → Heap → Prop}
abbrev rowV (s l b : Int) : List Value := [.int .i64 s, .int .i64 l, .int .i64 b]
/-- a table of symbols from 'base' on -/
def rowT (g : Int → Int × Int) (base : Int) (m : Nat) : List Value := rowV (base + m) (g (base + m)).1 (g (base + m)).2
def tab (g : Int → Int × Int) (base : Int) (k : Nat) : List Value := (List.range k).flatMap (rowT g base)
theorem tab_len (g : Int → Int × Int) (base : Int) : ∀ k, (tab g base k).length = k * 3
  | 0 => rfl
  | k + 1 => by
    have := tab_len g base k
    unfold tab at this ⊢
    rw [List.range_succ, List.flatMap_append, List.length_append, this]
    simp [rowT]
    omega
theorem tab_succ (g : Int → Int × Int) (base : Int) (k : Nat) : tab g base (k + 1) = tab g base k ++ rowT g base k := by
  unfold tab
  rw [List.range_succ, List.flatMap_append]
  simp
theorem tab_at (g : Int → Int × Int) (base : Int) : ∀ (k i : Nat), i < k → ((tab g base k).drop (i * 3)).take 3 = rowT g base i
  | 0, i, h => by omega
  | k + 1, i, h => by
    have hl := tab_len g base k
    rw [tab_succ]
    by_cases hi : i < k
    · have := tab_at g base k i hi
      rw [List.drop_append_of_le_length (by omega), List.take_append_of_le_length (by rw [List.length_drop]; omega)]
      exact this
    · have : i = k := by omega
      subst this
      rw [← hl, List.drop_append, List.drop_eq_nil_of_le (by omega), Nat.sub_self]
      rfl
theorem app_row {v : Value} {l : List Value} {s a b : Int} {n : Nat} {K : Value → Heap → Prop} {e : TypeId} (h : Own H v 3 l) (hl : l.length = n * 3) (hn : n ≤ 100)
    (hk : ∀ v' H', Own H' v' 3 (l ++ rowV s a b) → (∀ i, i < H.size → blkOf v ≠ some i → H'[i]? = H[i]?) → H.size ≤ H'.size → (∀ k, blkOf v' = some k → blkOf v = some k ∨ H.size ≤ k) → K v' H') :
    pBuildSl H e 1 [(.int .i64 0), (.int .i64 0), (.int .i64 0)] [(0, 3, .agg #[.int .i64 s, .int .i64 a, .int .i64 b])] fun y H1 => pAppend H1 e 3 24 [(.int .i64 0), (.int .i64 0), (.int .i64 0)] v y K :=
  h.append1 (by decide) rfl rfl rfl hl (by omega) hk
theorem lens_row : ∀ k : Fin 8, lenOf (257 + ((k.val : Nat) : Int)) = (3 + (k.val : Int), 0) := by decide +kernel
theorem lens_row2 : ∀ (e : Fin 5) (i : Fin 4), lenOf (257 + ((8 + 4 * e.val + i.val : Nat) : Int)) = ((stepsF ((8 + 4 * e.val + i.val : Nat) : Int) 3 8 4).1, ((e.val + 1 : Nat) : Int)) ∧ (stepsF ((8 + 4 * e.val + i.val + 1 : Nat) : Int) 3 8 4).1 = (stepsF ((8 + 4 * e.val + i.val : Nat) : Int) 3 8 4).1 + 2 ^ (e.val + 1) ∧ 0 ≤ (stepsF ((8 + 4 * e.val + i.val : Nat) : Int) 3 8 4).1 ∧ (stepsF ((8 + 4 * e.val + i.val : Nat) : Int) 3 8 4).1 ≤ 300 ∧ (2 : Int) ^ (e.val + 1) ≤ 32 ∧ (1 : Int) ≤ 2 ^ (e.val + 1) := by decide +kernel
theorem dists_row2 : ∀ (e : Fin 13) (i : Fin 2), distOf (0 + ((4 + 2 * e.val + i.val : Nat) : Int)) = ((stepsF ((4 + 2 * e.val + i.val : Nat) : Int) 1 4 2).1, ((e.val + 1 : Nat) : Int)) ∧ (stepsF ((4 + 2 * e.val + i.val + 1 : Nat) : Int) 1 4 2).1 = (stepsF ((4 + 2 * e.val + i.val : Nat) : Int) 1 4 2).1 + 2 ^ (e.val + 1) ∧ 0 ≤ (stepsF ((4 + 2 * e.val + i.val : Nat) : Int) 1 4 2).1 ∧ (stepsF ((4 + 2 * e.val + i.val : Nat) : Int) 1 4 2).1 ≤ 40000 ∧ (2 : Int) ^ (e.val + 1) ≤ 8192 ∧ (1 : Int) ≤ 2 ^ (e.val + 1) := by decide +kernel
/-- an own slice that is new since H0 -/
structure New (H0 H : Heap) (v : Value) (l : List Value) : Prop where
  own : Own H v 3 l
  ext : Ext H0 H
  new : ∀ k, blkOf v = some k → H0.size ≤ k
theorem New.step {H0 H H' : Heap} {v v' : Value} {l l' : List Value} (h : New H0 H v l) (o : Own H' v' 3 l') (hi : ∀ i, i < H.size → blkOf v ≠ some i → H'[i]? = H[i]?) (hs : H.size ≤ H'.size) (hk : ∀ k, blkOf v' = some k → blkOf v = some k ∨ H.size ≤ k) : New H0 H' v' l' :=
  ⟨o, ext_of_own h.ext h.new hi hs, fun k e => by
    rcases hk k e with h' | h'
    · exact h.new k h'
    · have := h.ext.size; omega⟩
theorem lengths_spec (h : ∀ H' v, Sl H' v 3 (tab lenOf 257 29) → Ext H H' → R v H') : CallsH Tryd.prog 20 #[] H R := by
  refine lighterref05_Lengths.vc _ _ ?_
  unfold lighterref05_Lengths.res
  refine ⟨fun v u H' => ∃ k : Nat, u = .int .i64 k ∧ k ≤ 8 ∧ New H H' v (tab lenOf 257 k), fun _ u _ => match u with | .int _ i => (8 - i).toNat | _ => 0, ⟨0, rfl, by omega, .inl ⟨rfl, rfl⟩, Ext.refl _, by simp [blkOf]⟩, ?_⟩
  rintro _ v _ H2 ⟨k, rfl, hk, N2⟩
  simp only [pPick_v, pNil_v, pNil_f, pAdd_v, pSub_v, pMul_v, pAdd_s, pQuo_v, pRem_v, pBits_v, pShl_v, pShr_v, pLt_v, pLe_v, pGt_v, pGe_v, pEq_0, pNe_0, pEq_1, pNe_1, pEq_2, pNe_2, pEq_3n, pNe_3n, pEq_3s, pNe_3s, pEq_3t, pNe_3t, pEq_5n, pNe_5n, pEq_5s, pNe_5s, pEq_5t, pNe_5t, pEq_4n, pNe_4n, pEq_4s, pNe_4s, pNot_v, pNeg_v, pCom_v, pConv_v, pConvS_v, pMin_v, pMax_v, pFieldAddr_v, pField1_v, pFieldN_v, pExtract_v, pIdxArr_v, pIdxSl_v, pIdxStr_v, pBounds_00, pBounds_10, pBounds_01, pBounds_11, pSlStr_v, pSlSl_v, pSlArr_v, pLenS_v, pLen_v, pCap_v, pBuild_n, pBuild_c, cells_int, cells_str, cells_bool, cells_ptr, cells_slice, cells_map, cells_agg, oneCell_int, oneCell_str, oneCell_bool, oneCell_ptr, oneCell_slice, oneCell_map, putL_cons, putL_nil, pAnd_pure, pOr_pure, pAnd_pureE, pOr_pureE, pAnd_false, pOr_true, pCond_true, pCond_false, add_mk, bys_mk, bys_size, cond_true, cond_false, decide_true, decide_false, decide_not', dec_and, dec_or, dec_eqt, Bool.not_true, Bool.not_false, Option.isNone_none, Option.isNone_some, Option.map_some, Option.map_none, List.getElem?_toArray, List.getElem?_cons_zero, List.getElem?_cons_succ, List.size_toArray, List.length_cons, List.length_nil, List.length_replicate, List.set_cons_zero, List.set_cons_succ, Nat.reduceAdd, Nat.reduceMul, Nat.reduceSub, Nat.reduceLeDiff, Nat.zero_add, Nat.add_zero, Nat.zero_le, true_and, and_true, not_false_eq_true, ne_eq, Int.reduceNeg, Int.reduceEq, Int.reduceNe, Int.reduceLT, Int.reduceLE, le_refl', List.setIfInBounds_toArray, Nat.reduceLT, Array.size_setIfInBounds, if_true, if_false, reduceCtorEq, List.toArray_toList', List.drop_succ_cons, List.drop_zero, List.take_succ_cons, List.take_zero, List.nil_append, List.append_nil, List.cons_append, Bool.and_true, Bool.true_and, Bool.or_false, Bool.false_or, Bool.and_false, Bool.or_true, Bool.true_or, Bool.false_and, eq_self]
  refine pCond_if (fun hc => ?_) (fun hc => ?_)
  · rw [w64 (by omega) (by omega), w64 (by omega) (by omega), w64 (by omega) (by omega)]
    refine app_row N2.own (tab_len _ _ _) (by omega) fun v' H' o i s kk => ?_
    refine ⟨⟨k + 1, rfl, by omega, N2.step (by
      rw [tab_succ, rowT, lens_row ⟨k, by omega⟩]; exact o) i s kk⟩, by show (_ : Int).toNat < (_ : Int).toNat; omega⟩
  have hk8 : k = 8 := by omega
  subst hk8
  refine ⟨fun v a z e H' => ∃ q : Nat, e = .int .i64 (q + 1 : Nat) ∧ q ≤ 5 ∧ z = .int .i64 (2 ^ (q + 1)) ∧ a = .int .i64 (stepsF ((8 + 4 * q : Nat) : Int) 3 8 4).1 ∧ New H H' v (tab lenOf 257 (8 + 4 * q)), fun _ _ _ u _ => match u with | .int _ i => (10 - i).toNat | _ => 0,
    ⟨0, rfl, by omega, rfl, by rw [show (stepsF ((8 + 4 * 0 : Nat) : Int) 3 8 4).1 = 11 by decide +kernel], N2⟩, ?_⟩
  rintro _ v _ _ _ H3 ⟨q, rfl, hq, rfl, rfl, N3⟩
  simp only [pPick_v, pNil_v, pNil_f, pAdd_v, pSub_v, pMul_v, pAdd_s, pQuo_v, pRem_v, pBits_v, pShl_v, pShr_v, pLt_v, pLe_v, pGt_v, pGe_v, pEq_0, pNe_0, pEq_1, pNe_1, pEq_2, pNe_2, pEq_3n, pNe_3n, pEq_3s, pNe_3s, pEq_3t, pNe_3t, pEq_5n, pNe_5n, pEq_5s, pNe_5s, pEq_5t, pNe_5t, pEq_4n, pNe_4n, pEq_4s, pNe_4s, pNot_v, pNeg_v, pCom_v, pConv_v, pConvS_v, pMin_v, pMax_v, pFieldAddr_v, pField1_v, pFieldN_v, pExtract_v, pIdxArr_v, pIdxSl_v, pIdxStr_v, pBounds_00, pBounds_10, pBounds_01, pBounds_11, pSlStr_v, pSlSl_v, pSlArr_v, pLenS_v, pLen_v, pCap_v, pBuild_n, pBuild_c, cells_int, cells_str, cells_bool, cells_ptr, cells_slice, cells_map, cells_agg, oneCell_int, oneCell_str, oneCell_bool, oneCell_ptr, oneCell_slice, oneCell_map, putL_cons, putL_nil, pAnd_pure, pOr_pure, pAnd_pureE, pOr_pureE, pAnd_false, pOr_true, pCond_true, pCond_false, add_mk, bys_mk, bys_size, cond_true, cond_false, decide_true, decide_false, decide_not', dec_and, dec_or, dec_eqt, Bool.not_true, Bool.not_false, Option.isNone_none, Option.isNone_some, Option.map_some, Option.map_none, List.getElem?_toArray, List.getElem?_cons_zero, List.getElem?_cons_succ, List.size_toArray, List.length_cons, List.length_nil, List.length_replicate, List.set_cons_zero, List.set_cons_succ, Nat.reduceAdd, Nat.reduceMul, Nat.reduceSub, Nat.reduceLeDiff, Nat.zero_add, Nat.add_zero, Nat.zero_le, true_and, and_true, not_false_eq_true, ne_eq, Int.reduceNeg, Int.reduceEq, Int.reduceNe, Int.reduceLT, Int.reduceLE, le_refl', List.setIfInBounds_toArray, Nat.reduceLT, Array.size_setIfInBounds, if_true, if_false, reduceCtorEq, List.toArray_toList', List.drop_succ_cons, List.drop_zero, List.take_succ_cons, List.take_zero, List.nil_append, List.append_nil, List.cons_append, Bool.and_true, Bool.true_and, Bool.or_false, Bool.false_or, Bool.and_false, Bool.or_true, Bool.true_or, Bool.false_and, eq_self]
  refine pCond_if (fun hc => ?_) (fun hc => ?_)
  · refine ⟨fun v a u H' => ∃ i : Nat, u = .int .i64 i ∧ i ≤ 4 ∧ a = .int .i64 (stepsF ((8 + 4 * q + i : Nat) : Int) 3 8 4).1 ∧ New H H' v (tab lenOf 257 (8 + 4 * q + i)), fun _ _ u _ => match u with | .int _ i => (4 - i).toNat | _ => 0,
      ⟨0, rfl, by omega, rfl, N3⟩, ?_⟩
    rintro _ v _ _ H4 ⟨i, rfl, hi, rfl, N4⟩
    simp only [pPick_v, pNil_v, pNil_f, pAdd_v, pSub_v, pMul_v, pAdd_s, pQuo_v, pRem_v, pBits_v, pShl_v, pShr_v, pLt_v, pLe_v, pGt_v, pGe_v, pEq_0, pNe_0, pEq_1, pNe_1, pEq_2, pNe_2, pEq_3n, pNe_3n, pEq_3s, pNe_3s, pEq_3t, pNe_3t, pEq_5n, pNe_5n, pEq_5s, pNe_5s, pEq_5t, pNe_5t, pEq_4n, pNe_4n, pEq_4s, pNe_4s, pNot_v, pNeg_v, pCom_v, pConv_v, pConvS_v, pMin_v, pMax_v, pFieldAddr_v, pField1_v, pFieldN_v, pExtract_v, pIdxArr_v, pIdxSl_v, pIdxStr_v, pBounds_00, pBounds_10, pBounds_01, pBounds_11, pSlStr_v, pSlSl_v, pSlArr_v, pLenS_v, pLen_v, pCap_v, pBuild_n, pBuild_c, cells_int, cells_str, cells_bool, cells_ptr, cells_slice, cells_map, cells_agg, oneCell_int, oneCell_str, oneCell_bool, oneCell_ptr, oneCell_slice, oneCell_map, putL_cons, putL_nil, pAnd_pure, pOr_pure, pAnd_pureE, pOr_pureE, pAnd_false, pOr_true, pCond_true, pCond_false, add_mk, bys_mk, bys_size, cond_true, cond_false, decide_true, decide_false, decide_not', dec_and, dec_or, dec_eqt, Bool.not_true, Bool.not_false, Option.isNone_none, Option.isNone_some, Option.map_some, Option.map_none, List.getElem?_toArray, List.getElem?_cons_zero, List.getElem?_cons_succ, List.size_toArray, List.length_cons, List.length_nil, List.length_replicate, List.set_cons_zero, List.set_cons_succ, Nat.reduceAdd, Nat.reduceMul, Nat.reduceSub, Nat.reduceLeDiff, Nat.zero_add, Nat.add_zero, Nat.zero_le, true_and, and_true, not_false_eq_true, ne_eq, Int.reduceNeg, Int.reduceEq, Int.reduceNe, Int.reduceLT, Int.reduceLE, le_refl', List.setIfInBounds_toArray, Nat.reduceLT, Array.size_setIfInBounds, if_true, if_false, reduceCtorEq, List.toArray_toList', List.drop_succ_cons, List.drop_zero, List.take_succ_cons, List.take_zero, List.nil_append, List.append_nil, List.cons_append, Bool.and_true, Bool.true_and, Bool.or_false, Bool.false_or, Bool.and_false, Bool.or_true, Bool.true_or, Bool.false_and, eq_self]
    refine pCond_if (fun hc2 => ?_) (fun hc2 => ?_)
    · obtain ⟨r1, r2, r3, r4, r5, r6⟩ := lens_row2 ⟨q, by omega⟩ ⟨i, by omega⟩
      dsimp only at r1 r2 r3 r4 r5 r6
      refine (N4.own.sl (by decide)).len (tab_len _ _ _) (by decide) ?_
      simp only [pPick_v, pNil_v, pNil_f, pAdd_v, pSub_v, pMul_v, pAdd_s, pQuo_v, pRem_v, pBits_v, pShl_v, pShr_v, pLt_v, pLe_v, pGt_v, pGe_v, pEq_0, pNe_0, pEq_1, pNe_1, pEq_2, pNe_2, pEq_3n, pNe_3n, pEq_3s, pNe_3s, pEq_3t, pNe_3t, pEq_5n, pNe_5n, pEq_5s, pNe_5s, pEq_5t, pNe_5t, pEq_4n, pNe_4n, pEq_4s, pNe_4s, pNot_v, pNeg_v, pCom_v, pConv_v, pConvS_v, pMin_v, pMax_v, pFieldAddr_v, pField1_v, pFieldN_v, pExtract_v, pIdxArr_v, pIdxSl_v, pIdxStr_v, pBounds_00, pBounds_10, pBounds_01, pBounds_11, pSlStr_v, pSlSl_v, pSlArr_v, pLenS_v, pLen_v, pCap_v, pBuild_n, pBuild_c, cells_int, cells_str, cells_bool, cells_ptr, cells_slice, cells_map, cells_agg, oneCell_int, oneCell_str, oneCell_bool, oneCell_ptr, oneCell_slice, oneCell_map, putL_cons, putL_nil, pAnd_pure, pOr_pure, pAnd_pureE, pOr_pureE, pAnd_false, pOr_true, pCond_true, pCond_false, add_mk, bys_mk, bys_size, cond_true, cond_false, decide_true, decide_false, decide_not', dec_and, dec_or, dec_eqt, Bool.not_true, Bool.not_false, Option.isNone_none, Option.isNone_some, Option.map_some, Option.map_none, List.getElem?_toArray, List.getElem?_cons_zero, List.getElem?_cons_succ, List.size_toArray, List.length_cons, List.length_nil, List.length_replicate, List.set_cons_zero, List.set_cons_succ, Nat.reduceAdd, Nat.reduceMul, Nat.reduceSub, Nat.reduceLeDiff, Nat.zero_add, Nat.add_zero, Nat.zero_le, true_and, and_true, not_false_eq_true, ne_eq, Int.reduceNeg, Int.reduceEq, Int.reduceNe, Int.reduceLT, Int.reduceLE, le_refl', List.setIfInBounds_toArray, Nat.reduceLT, Array.size_setIfInBounds, if_true, if_false, reduceCtorEq, List.toArray_toList', List.drop_succ_cons, List.drop_zero, List.take_succ_cons, List.take_zero, List.nil_append, List.append_nil, List.cons_append, Bool.and_true, Bool.true_and, Bool.or_false, Bool.false_or, Bool.and_false, Bool.or_true, Bool.true_or, Bool.false_and, eq_self]
      rw [w64 (n := 257 + ((8 + 4 * q + i : Nat) : Int)) (by omega) (by omega)]
      refine app_row N4.own (tab_len _ _ _) (by omega) fun v' H' o ii s kk => ?_
      rw [w64 (n := (stepsF ((8 + 4 * q + i : Nat) : Int) 3 8 4).1 + 2 ^ (q + 1)) (by omega) (by omega), w64 (n := (i : Int) + 1) (by omega) (by omega)]
      refine ⟨⟨i + 1, rfl, by omega, by rw [← r2]; rfl, N4.step (by
        rw [show 8 + 4 * q + (i + 1) = (8 + 4 * q + i) + 1 by omega, tab_succ, rowT, r1]; exact o) ii s kk⟩, by show (_ : Int).toNat < (_ : Int).toNat; omega⟩
    · have hi4 : i = 4 := by omega
      subst hi4
      obtain ⟨r1, r2, r3, r4, r5, r6⟩ := lens_row2 ⟨q, by omega⟩ ⟨0, by omega⟩
      dsimp only at r5 r6
      rw [w64 (by omega) (by omega), w64 (by omega) (by omega)]
      refine ⟨⟨q + 1, by congr 1, by omega, by rw [Int.pow_succ 2 (q + 1)], by rw [show 8 + 4 * (q + 1) = 8 + 4 * q + 4 by omega], by rw [show 8 + 4 * (q + 1) = 8 + 4 * q + 4 by omega]; exact N4⟩, by show (_ : Int).toNat < (_ : Int).toNat; omega⟩
  · have hq5 : q = 5 := by omega
    subst hq5
    refine app_row N3.own (tab_len _ _ _) (by omega) fun v' H' o i s kk => ?_
    have N := N3.step (l' := tab lenOf 257 29) (by rw [tab_succ lenOf 257 28, rowT, show lenOf (257 + ((28 : Nat) : Int)) = (258, 0) by decide +kernel]; exact o) i s kk
    exact h H' v' (N.own.sl (by decide)) N.ext
theorem dists_spec (h : ∀ H' v, Sl H' v 3 (tab distOf 0 30) → Ext H H' → R v H') : CallsH Tryd.prog 21 #[] H R := by
  refine lighterref05_Dists.vc _ _ ?_
  unfold lighterref05_Dists.res
  simp only [pPick_v, pNil_v, pNil_f, pAdd_v, pSub_v, pMul_v, pAdd_s, pQuo_v, pRem_v, pBits_v, pShl_v, pShr_v, pLt_v, pLe_v, pGt_v, pGe_v, pEq_0, pNe_0, pEq_1, pNe_1, pEq_2, pNe_2, pEq_3n, pNe_3n, pEq_3s, pNe_3s, pEq_3t, pNe_3t, pEq_5n, pNe_5n, pEq_5s, pNe_5s, pEq_5t, pNe_5t, pEq_4n, pNe_4n, pEq_4s, pNe_4s, pNot_v, pNeg_v, pCom_v, pConv_v, pConvS_v, pMin_v, pMax_v, pFieldAddr_v, pField1_v, pFieldN_v, pExtract_v, pIdxArr_v, pIdxSl_v, pIdxStr_v, pBounds_00, pBounds_10, pBounds_01, pBounds_11, pSlStr_v, pSlSl_v, pSlArr_v, pLenS_v, pLen_v, pCap_v, pBuild_n, pBuild_c, cells_int, cells_str, cells_bool, cells_ptr, cells_slice, cells_map, cells_agg, oneCell_int, oneCell_str, oneCell_bool, oneCell_ptr, oneCell_slice, oneCell_map, putL_cons, putL_nil, pAnd_pure, pOr_pure, pAnd_pureE, pOr_pureE, pAnd_false, pOr_true, pCond_true, pCond_false, add_mk, bys_mk, bys_size, cond_true, cond_false, decide_true, decide_false, decide_not', dec_and, dec_or, dec_eqt, Bool.not_true, Bool.not_false, Option.isNone_none, Option.isNone_some, Option.map_some, Option.map_none, List.getElem?_toArray, List.getElem?_cons_zero, List.getElem?_cons_succ, List.size_toArray, List.length_cons, List.length_nil, List.length_replicate, List.set_cons_zero, List.set_cons_succ, Nat.reduceAdd, Nat.reduceMul, Nat.reduceSub, Nat.reduceLeDiff, Nat.zero_add, Nat.add_zero, Nat.zero_le, true_and, and_true, not_false_eq_true, ne_eq, Int.reduceNeg, Int.reduceEq, Int.reduceNe, Int.reduceLT, Int.reduceLE, le_refl', List.setIfInBounds_toArray, Nat.reduceLT, Array.size_setIfInBounds, if_true, if_false, reduceCtorEq, List.toArray_toList', List.drop_succ_cons, List.drop_zero, List.take_succ_cons, List.take_zero, List.nil_append, List.append_nil, List.cons_append, Bool.and_true, Bool.true_and, Bool.or_false, Bool.false_or, Bool.and_false, Bool.or_true, Bool.true_or, Bool.false_and, eq_self]
  rw [pBuildSl]
  simp only [pPick_v, pNil_v, pNil_f, pAdd_v, pSub_v, pMul_v, pAdd_s, pQuo_v, pRem_v, pBits_v, pShl_v, pShr_v, pLt_v, pLe_v, pGt_v, pGe_v, pEq_0, pNe_0, pEq_1, pNe_1, pEq_2, pNe_2, pEq_3n, pNe_3n, pEq_3s, pNe_3s, pEq_3t, pNe_3t, pEq_5n, pNe_5n, pEq_5s, pNe_5s, pEq_5t, pNe_5t, pEq_4n, pNe_4n, pEq_4s, pNe_4s, pNot_v, pNeg_v, pCom_v, pConv_v, pConvS_v, pMin_v, pMax_v, pFieldAddr_v, pField1_v, pFieldN_v, pExtract_v, pIdxArr_v, pIdxSl_v, pIdxStr_v, pBounds_00, pBounds_10, pBounds_01, pBounds_11, pSlStr_v, pSlSl_v, pSlArr_v, pLenS_v, pLen_v, pCap_v, pBuild_n, pBuild_c, cells_int, cells_str, cells_bool, cells_ptr, cells_slice, cells_map, cells_agg, oneCell_int, oneCell_str, oneCell_bool, oneCell_ptr, oneCell_slice, oneCell_map, putL_cons, putL_nil, pAnd_pure, pOr_pure, pAnd_pureE, pOr_pureE, pAnd_false, pOr_true, pCond_true, pCond_false, add_mk, bys_mk, bys_size, cond_true, cond_false, decide_true, decide_false, decide_not', dec_and, dec_or, dec_eqt, Bool.not_true, Bool.not_false, Option.isNone_none, Option.isNone_some, Option.map_some, Option.map_none, List.getElem?_toArray, List.getElem?_cons_zero, List.getElem?_cons_succ, List.size_toArray, List.length_cons, List.length_nil, List.length_replicate, List.set_cons_zero, List.set_cons_succ, Nat.reduceAdd, Nat.reduceMul, Nat.reduceSub, Nat.reduceLeDiff, Nat.zero_add, Nat.add_zero, Nat.zero_le, true_and, and_true, not_false_eq_true, ne_eq, Int.reduceNeg, Int.reduceEq, Int.reduceNe, Int.reduceLT, Int.reduceLE, le_refl', List.setIfInBounds_toArray, Nat.reduceLT, Array.size_setIfInBounds, if_true, if_false, reduceCtorEq, List.toArray_toList', List.drop_succ_cons, List.drop_zero, List.take_succ_cons, List.take_zero, List.nil_append, List.append_nil, List.cons_append, Bool.and_true, Bool.true_and, Bool.or_false, Bool.false_or, Bool.and_false, Bool.or_true, Bool.true_or, Bool.false_and, eq_self]
  have htab : tab distOf 0 4 = [.int .i64 0, .int .i64 1, .int .i64 0, .int .i64 1, .int .i64 2, .int .i64 0, .int .i64 2, .int .i64 3, .int .i64 0, .int .i64 3, .int .i64 4, .int .i64 0] := by
    simp only [tab, List.range_succ, List.range_zero, List.nil_append, List.cons_append, List.flatMap_cons, List.flatMap_nil, List.append_nil, rowT, rowV]
    rw [show distOf (0 + ((0 : Nat) : Int)) = (1, 0) by decide +kernel, show distOf (0 + ((1 : Nat) : Int)) = (2, 0) by decide +kernel, show distOf (0 + ((2 : Nat) : Int)) = (3, 0) by decide +kernel, show distOf (0 + ((3 : Nat) : Int)) = (4, 0) by decide +kernel]
    rfl
  refine ⟨fun v a z e H' => ∃ q : Nat, e = .int .i64 (q + 1 : Nat) ∧ q ≤ 13 ∧ z = .int .i64 (2 ^ (q + 1)) ∧ a = .int .i64 (stepsF ((4 + 2 * q : Nat) : Int) 1 4 2).1 ∧ New H H' v (tab distOf 0 (4 + 2 * q)), fun _ _ _ u _ => match u with | .int _ i => (20 - i).toNat | _ => 0,
    ⟨0, rfl, by omega, rfl, by rw [show (stepsF ((4 + 2 * 0 : Nat) : Int) 1 4 2).1 = 5 by decide +kernel], ⟨.inr ⟨H.size, 4, 4, [], rfl, ⟨⟨_, _, by rw [htab]; exact get_push_self, .inl rfl⟩, by rw [htab]; rfl, by rw [htab]; rfl⟩⟩, (Ext.refl H).push, by simp [blkOf]⟩⟩, ?_⟩
  rintro _ v _ _ _ H3 ⟨q, rfl, hq, rfl, rfl, N3⟩
  simp only [pPick_v, pNil_v, pNil_f, pAdd_v, pSub_v, pMul_v, pAdd_s, pQuo_v, pRem_v, pBits_v, pShl_v, pShr_v, pLt_v, pLe_v, pGt_v, pGe_v, pEq_0, pNe_0, pEq_1, pNe_1, pEq_2, pNe_2, pEq_3n, pNe_3n, pEq_3s, pNe_3s, pEq_3t, pNe_3t, pEq_5n, pNe_5n, pEq_5s, pNe_5s, pEq_5t, pNe_5t, pEq_4n, pNe_4n, pEq_4s, pNe_4s, pNot_v, pNeg_v, pCom_v, pConv_v, pConvS_v, pMin_v, pMax_v, pFieldAddr_v, pField1_v, pFieldN_v, pExtract_v, pIdxArr_v, pIdxSl_v, pIdxStr_v, pBounds_00, pBounds_10, pBounds_01, pBounds_11, pSlStr_v, pSlSl_v, pSlArr_v, pLenS_v, pLen_v, pCap_v, pBuild_n, pBuild_c, cells_int, cells_str, cells_bool, cells_ptr, cells_slice, cells_map, cells_agg, oneCell_int, oneCell_str, oneCell_bool, oneCell_ptr, oneCell_slice, oneCell_map, putL_cons, putL_nil, pAnd_pure, pOr_pure, pAnd_pureE, pOr_pureE, pAnd_false, pOr_true, pCond_true, pCond_false, add_mk, bys_mk, bys_size, cond_true, cond_false, decide_true, decide_false, decide_not', dec_and, dec_or, dec_eqt, Bool.not_true, Bool.not_false, Option.isNone_none, Option.isNone_some, Option.map_some, Option.map_none, List.getElem?_toArray, List.getElem?_cons_zero, List.getElem?_cons_succ, List.size_toArray, List.length_cons, List.length_nil, List.length_replicate, List.set_cons_zero, List.set_cons_succ, Nat.reduceAdd, Nat.reduceMul, Nat.reduceSub, Nat.reduceLeDiff, Nat.zero_add, Nat.add_zero, Nat.zero_le, true_and, and_true, not_false_eq_true, ne_eq, Int.reduceNeg, Int.reduceEq, Int.reduceNe, Int.reduceLT, Int.reduceLE, le_refl', List.setIfInBounds_toArray, Nat.reduceLT, Array.size_setIfInBounds, if_true, if_false, reduceCtorEq, List.toArray_toList', List.drop_succ_cons, List.drop_zero, List.take_succ_cons, List.take_zero, List.nil_append, List.append_nil, List.cons_append, Bool.and_true, Bool.true_and, Bool.or_false, Bool.false_or, Bool.and_false, Bool.or_true, Bool.true_or, Bool.false_and, eq_self]
  refine pCond_if (fun hc => ?_) (fun hc => ?_)
  · refine ⟨fun v a u H' => ∃ i : Nat, u = .int .i64 i ∧ i ≤ 2 ∧ a = .int .i64 (stepsF ((4 + 2 * q + i : Nat) : Int) 1 4 2).1 ∧ New H H' v (tab distOf 0 (4 + 2 * q + i)), fun _ _ u _ => match u with | .int _ i => (4 - i).toNat | _ => 0,
      ⟨0, rfl, by omega, rfl, N3⟩, ?_⟩
    rintro _ v _ _ H4 ⟨i, rfl, hi, rfl, N4⟩
    simp only [pPick_v, pNil_v, pNil_f, pAdd_v, pSub_v, pMul_v, pAdd_s, pQuo_v, pRem_v, pBits_v, pShl_v, pShr_v, pLt_v, pLe_v, pGt_v, pGe_v, pEq_0, pNe_0, pEq_1, pNe_1, pEq_2, pNe_2, pEq_3n, pNe_3n, pEq_3s, pNe_3s, pEq_3t, pNe_3t, pEq_5n, pNe_5n, pEq_5s, pNe_5s, pEq_5t, pNe_5t, pEq_4n, pNe_4n, pEq_4s, pNe_4s, pNot_v, pNeg_v, pCom_v, pConv_v, pConvS_v, pMin_v, pMax_v, pFieldAddr_v, pField1_v, pFieldN_v, pExtract_v, pIdxArr_v, pIdxSl_v, pIdxStr_v, pBounds_00, pBounds_10, pBounds_01, pBounds_11, pSlStr_v, pSlSl_v, pSlArr_v, pLenS_v, pLen_v, pCap_v, pBuild_n, pBuild_c, cells_int, cells_str, cells_bool, cells_ptr, cells_slice, cells_map, cells_agg, oneCell_int, oneCell_str, oneCell_bool, oneCell_ptr, oneCell_slice, oneCell_map, putL_cons, putL_nil, pAnd_pure, pOr_pure, pAnd_pureE, pOr_pureE, pAnd_false, pOr_true, pCond_true, pCond_false, add_mk, bys_mk, bys_size, cond_true, cond_false, decide_true, decide_false, decide_not', dec_and, dec_or, dec_eqt, Bool.not_true, Bool.not_false, Option.isNone_none, Option.isNone_some, Option.map_some, Option.map_none, List.getElem?_toArray, List.getElem?_cons_zero, List.getElem?_cons_succ, List.size_toArray, List.length_cons, List.length_nil, List.length_replicate, List.set_cons_zero, List.set_cons_succ, Nat.reduceAdd, Nat.reduceMul, Nat.reduceSub, Nat.reduceLeDiff, Nat.zero_add, Nat.add_zero, Nat.zero_le, true_and, and_true, not_false_eq_true, ne_eq, Int.reduceNeg, Int.reduceEq, Int.reduceNe, Int.reduceLT, Int.reduceLE, le_refl', List.setIfInBounds_toArray, Nat.reduceLT, Array.size_setIfInBounds, if_true, if_false, reduceCtorEq, List.toArray_toList', List.drop_succ_cons, List.drop_zero, List.take_succ_cons, List.take_zero, List.nil_append, List.append_nil, List.cons_append, Bool.and_true, Bool.true_and, Bool.or_false, Bool.false_or, Bool.and_false, Bool.or_true, Bool.true_or, Bool.false_and, eq_self]
    refine pCond_if (fun hc2 => ?_) (fun hc2 => ?_)
    · obtain ⟨r1, r2, r3, r4, r5, r6⟩ := dists_row2 ⟨q, by omega⟩ ⟨i, by omega⟩
      dsimp only at r1 r2 r3 r4 r5 r6
      refine (N4.own.sl (by decide)).len (tab_len _ _ _) (by decide) ?_
      simp only [pPick_v, pNil_v, pNil_f, pAdd_v, pSub_v, pMul_v, pAdd_s, pQuo_v, pRem_v, pBits_v, pShl_v, pShr_v, pLt_v, pLe_v, pGt_v, pGe_v, pEq_0, pNe_0, pEq_1, pNe_1, pEq_2, pNe_2, pEq_3n, pNe_3n, pEq_3s, pNe_3s, pEq_3t, pNe_3t, pEq_5n, pNe_5n, pEq_5s, pNe_5s, pEq_5t, pNe_5t, pEq_4n, pNe_4n, pEq_4s, pNe_4s, pNot_v, pNeg_v, pCom_v, pConv_v, pConvS_v, pMin_v, pMax_v, pFieldAddr_v, pField1_v, pFieldN_v, pExtract_v, pIdxArr_v, pIdxSl_v, pIdxStr_v, pBounds_00, pBounds_10, pBounds_01, pBounds_11, pSlStr_v, pSlSl_v, pSlArr_v, pLenS_v, pLen_v, pCap_v, pBuild_n, pBuild_c, cells_int, cells_str, cells_bool, cells_ptr, cells_slice, cells_map, cells_agg, oneCell_int, oneCell_str, oneCell_bool, oneCell_ptr, oneCell_slice, oneCell_map, putL_cons, putL_nil, pAnd_pure, pOr_pure, pAnd_pureE, pOr_pureE, pAnd_false, pOr_true, pCond_true, pCond_false, add_mk, bys_mk, bys_size, cond_true, cond_false, decide_true, decide_false, decide_not', dec_and, dec_or, dec_eqt, Bool.not_true, Bool.not_false, Option.isNone_none, Option.isNone_some, Option.map_some, Option.map_none, List.getElem?_toArray, List.getElem?_cons_zero, List.getElem?_cons_succ, List.size_toArray, List.length_cons, List.length_nil, List.length_replicate, List.set_cons_zero, List.set_cons_succ, Nat.reduceAdd, Nat.reduceMul, Nat.reduceSub, Nat.reduceLeDiff, Nat.zero_add, Nat.add_zero, Nat.zero_le, true_and, and_true, not_false_eq_true, ne_eq, Int.reduceNeg, Int.reduceEq, Int.reduceNe, Int.reduceLT, Int.reduceLE, le_refl', List.setIfInBounds_toArray, Nat.reduceLT, Array.size_setIfInBounds, if_true, if_false, reduceCtorEq, List.toArray_toList', List.drop_succ_cons, List.drop_zero, List.take_succ_cons, List.take_zero, List.nil_append, List.append_nil, List.cons_append, Bool.and_true, Bool.true_and, Bool.or_false, Bool.false_or, Bool.and_false, Bool.or_true, Bool.true_or, Bool.false_and, eq_self]
      refine app_row N4.own (tab_len _ _ _) (by omega) fun v' H' o ii s kk => ?_
      rw [w64 (n := (stepsF ((4 + 2 * q + i : Nat) : Int) 1 4 2).1 + 2 ^ (q + 1)) (by omega) (by omega), w64 (n := (i : Int) + 1) (by omega) (by omega)]
      refine ⟨⟨i + 1, rfl, by omega, by rw [← r2]; rfl, N4.step (by
        rw [show 4 + 2 * q + (i + 1) = (4 + 2 * q + i) + 1 by omega, tab_succ, rowT, r1, Int.zero_add]; exact o) ii s kk⟩, by show (_ : Int).toNat < (_ : Int).toNat; omega⟩
    · have hi4 : i = 2 := by omega
      subst hi4
      obtain ⟨r1, r2, r3, r4, r5, r6⟩ := dists_row2 ⟨q, by omega⟩ ⟨0, by omega⟩
      dsimp only at r5 r6
      rw [w64 (by omega) (by omega), w64 (by omega) (by omega)]
      refine ⟨⟨q + 1, by congr 1, by omega, by rw [Int.pow_succ 2 (q + 1)], by rw [show 4 + 2 * (q + 1) = 4 + 2 * q + 2 by omega], by rw [show 4 + 2 * (q + 1) = 4 + 2 * q + 2 by omega]; exact N4⟩, by show (_ : Int).toNat < (_ : Int).toNat; omega⟩
  · have hq5 : q = 13 := by omega
    subst hq5
    exact h H3 v (N3.own.sl (by decide)) N3.ext
/-- the last row in reach -/
def lastI (g : Int → Int × Int) (base n : Int) : Nat → Nat
  | 0 => 0
  | k + 1 => if (g (base + k)).1 ≤ n then k else lastI g base n k
theorem lastI_lt (g : Int → Int × Int) (base n : Int) : ∀ k, lastI g base n k ≤ k
  | 0 => by simp [lastI]
  | k + 1 => by
    have := lastI_lt g base n k
    rw [lastI]; split <;> omega
theorem lastI_lt' (g : Int → Int × Int) (base n : Int) : ∀ k, lastI g base n (k + 1) ≤ k
  | 0 => by rw [lastI]; split <;> simp [lastI]
  | k + 1 => by
    have := lastI_lt' g base n k
    rw [lastI]; split <;> omega
theorem lastI_find (g : Int → Int × Int) (base n : Int) (h0 : (g base).1 ≤ n) : ∀ k : Nat, findF g n k (base + k) = base + (lastI g base n (k + 1) : Nat)
  | 0 => by
    rw [lastI, findF]
    simp [lastI]
  | k + 1 => by
    rw [lastI, findF]
    split
    · rfl
    · have := lastI_find g base n h0 k
      rw [show base + ((k + 1 : Nat) : Int) - 1 = base + (k : Int) by omega]
      exact this
theorem refFind_spec {g : Int → Int × Int} {base n : Int} {lv : Value} {N : Nat} (hS : Sl H lv 3 (tab g base N)) (hN : 0 < N) (hN2 : N ≤ 100)
    (h : ∀ H', Ext H H' → R (.agg (rowT g base (lastI g base n N)).toArray) H') : CallsH Tryd.prog 19 #[lv, .int .i64 n] H R := by
  refine lighterref05_Find.vc _ _ _ _ ?_
  unfold lighterref05_Find.res
  refine pBox_ext fun H1 s1 e1 b1 => ?_
  refine (hS.ext e1).idx (tab_len _ _ _) (by decide) (by decide) (by omega) fun a ha => ?_
  rw [show (0 : Int).toNat = 0 from rfl, tab_at g base N 0 hN] at ha
  refine ha.loadN rfl ?_
  refine pBox_ext fun H2 s2 e2 c2 => ?_
  refine pStoreN_upd c2 (by rfl) (by rfl) (by rfl) fun H3 _ u3 => ?_
  have c3 := u3.at_
  have b3 := u3.keep (e2.blk b1) (by omega)
  have e3 : Ext H H3 := u3.ext (e1.trans e2) (by omega)
  have hbc : H.size < H1.size := by omega
  generalize H1.size = c at *
  generalize hb : H.size = b at *
  refine ⟨fun u H' => ∃ i : Nat, u = .int .i64 i ∧ i ≤ N ∧ H'[c]? = some (.cells (rowT g base (lastI g base n i)).toArray 50 (0, 0)) ∧ (∃ cs, H'[b]? = some (.cells cs 50 (0, 0)) ∧ cs.size = 3) ∧ Ext H H', fun u _ => match u with | .int _ i => (N - i).toNat | _ => 0,
    ⟨0, rfl, by omega, c3, ⟨_, b3, rfl⟩, e3⟩, ?_⟩
  rintro _ _ H4 ⟨i, rfl, hi, c4, ⟨cs, b4, hcs⟩, e4⟩
  refine (hS.ext e4).len (tab_len _ _ _) (by decide) ?_
  simp only [pPick_v, pNil_v, pNil_f, pAdd_v, pSub_v, pMul_v, pAdd_s, pQuo_v, pRem_v, pBits_v, pShl_v, pShr_v, pLt_v, pLe_v, pGt_v, pGe_v, pEq_0, pNe_0, pEq_1, pNe_1, pEq_2, pNe_2, pEq_3n, pNe_3n, pEq_3s, pNe_3s, pEq_3t, pNe_3t, pEq_5n, pNe_5n, pEq_5s, pNe_5s, pEq_5t, pNe_5t, pEq_4n, pNe_4n, pEq_4s, pNe_4s, pNot_v, pNeg_v, pCom_v, pConv_v, pConvS_v, pMin_v, pMax_v, pFieldAddr_v, pField1_v, pFieldN_v, pExtract_v, pIdxArr_v, pIdxSl_v, pIdxStr_v, pBounds_00, pBounds_10, pBounds_01, pBounds_11, pSlStr_v, pSlSl_v, pSlArr_v, pLenS_v, pLen_v, pCap_v, pBuild_n, pBuild_c, cells_int, cells_str, cells_bool, cells_ptr, cells_slice, cells_map, cells_agg, oneCell_int, oneCell_str, oneCell_bool, oneCell_ptr, oneCell_slice, oneCell_map, putL_cons, putL_nil, pAnd_pure, pOr_pure, pAnd_pureE, pOr_pureE, pAnd_false, pOr_true, pCond_true, pCond_false, add_mk, bys_mk, bys_size, cond_true, cond_false, decide_true, decide_false, decide_not', dec_and, dec_or, dec_eqt, Bool.not_true, Bool.not_false, Option.isNone_none, Option.isNone_some, Option.map_some, Option.map_none, List.getElem?_toArray, List.getElem?_cons_zero, List.getElem?_cons_succ, List.size_toArray, List.length_cons, List.length_nil, List.length_replicate, List.set_cons_zero, List.set_cons_succ, Nat.reduceAdd, Nat.reduceMul, Nat.reduceSub, Nat.reduceLeDiff, Nat.zero_add, Nat.add_zero, Nat.zero_le, true_and, and_true, not_false_eq_true, ne_eq, Int.reduceNeg, Int.reduceEq, Int.reduceNe, Int.reduceLT, Int.reduceLE, le_refl', List.setIfInBounds_toArray, Nat.reduceLT, Array.size_setIfInBounds, if_true, if_false, reduceCtorEq, List.toArray_toList', List.drop_succ_cons, List.drop_zero, List.take_succ_cons, List.take_zero, List.nil_append, List.append_nil, List.cons_append, Bool.and_true, Bool.true_and, Bool.or_false, Bool.false_or, Bool.and_false, Bool.or_true, Bool.true_or, Bool.false_and, eq_self]
  refine pCond_if (fun hc => ?_) (fun hc => ?_)
  · refine ⟨fun H' => H'[c]? = some (.cells (rowT g base (lastI g base n (i + 1))).toArray 50 (0, 0)) ∧ (∃ cs, H'[b]? = some (.cells cs 50 (0, 0)) ∧ cs.size = 3) ∧ Ext H H', ?_, ?_⟩
    · rintro _ H5 ⟨c5, b5, e5⟩
      rw [w64 (by omega) (by omega)]
      exact ⟨⟨i + 1, rfl, by omega, c5, b5, e5⟩, by show (_ : Int).toNat < (_ : Int).toNat; omega⟩
    · refine (hS.ext e4).idx (tab_len _ _ _) (by decide) (by omega) (by omega) fun a ha => ?_
      rw [Int.toNat_natCast, tab_at g base N i (by omega)] at ha
      simp only [pPick_v, pNil_v, pNil_f, pAdd_v, pSub_v, pMul_v, pAdd_s, pQuo_v, pRem_v, pBits_v, pShl_v, pShr_v, pLt_v, pLe_v, pGt_v, pGe_v, pEq_0, pNe_0, pEq_1, pNe_1, pEq_2, pNe_2, pEq_3n, pNe_3n, pEq_3s, pNe_3s, pEq_3t, pNe_3t, pEq_5n, pNe_5n, pEq_5s, pNe_5s, pEq_5t, pNe_5t, pEq_4n, pNe_4n, pEq_4s, pNe_4s, pNot_v, pNeg_v, pCom_v, pConv_v, pConvS_v, pMin_v, pMax_v, pFieldAddr_v, pField1_v, pFieldN_v, pExtract_v, pIdxArr_v, pIdxSl_v, pIdxStr_v, pBounds_00, pBounds_10, pBounds_01, pBounds_11, pSlStr_v, pSlSl_v, pSlArr_v, pLenS_v, pLen_v, pCap_v, pBuild_n, pBuild_c, cells_int, cells_str, cells_bool, cells_ptr, cells_slice, cells_map, cells_agg, oneCell_int, oneCell_str, oneCell_bool, oneCell_ptr, oneCell_slice, oneCell_map, putL_cons, putL_nil, pAnd_pure, pOr_pure, pAnd_pureE, pOr_pureE, pAnd_false, pOr_true, pCond_true, pCond_false, add_mk, bys_mk, bys_size, cond_true, cond_false, decide_true, decide_false, decide_not', dec_and, dec_or, dec_eqt, Bool.not_true, Bool.not_false, Option.isNone_none, Option.isNone_some, Option.map_some, Option.map_none, List.getElem?_toArray, List.getElem?_cons_zero, List.getElem?_cons_succ, List.size_toArray, List.length_cons, List.length_nil, List.length_replicate, List.set_cons_zero, List.set_cons_succ, Nat.reduceAdd, Nat.reduceMul, Nat.reduceSub, Nat.reduceLeDiff, Nat.zero_add, Nat.add_zero, Nat.zero_le, true_and, and_true, not_false_eq_true, ne_eq, Int.reduceNeg, Int.reduceEq, Int.reduceNe, Int.reduceLT, Int.reduceLE, le_refl', List.setIfInBounds_toArray, Nat.reduceLT, Array.size_setIfInBounds, if_true, if_false, reduceCtorEq, List.toArray_toList', List.drop_succ_cons, List.drop_zero, List.take_succ_cons, List.take_zero, List.nil_append, List.append_nil, List.cons_append, Bool.and_true, Bool.true_and, Bool.or_false, Bool.false_or, Bool.and_false, Bool.or_true, Bool.true_or, Bool.false_and, eq_self]
      refine ha.loadAt (v := .int .i64 (g (base + i)).1) rfl ?_
      simp only [pPick_v, pNil_v, pNil_f, pAdd_v, pSub_v, pMul_v, pAdd_s, pQuo_v, pRem_v, pBits_v, pShl_v, pShr_v, pLt_v, pLe_v, pGt_v, pGe_v, pEq_0, pNe_0, pEq_1, pNe_1, pEq_2, pNe_2, pEq_3n, pNe_3n, pEq_3s, pNe_3s, pEq_3t, pNe_3t, pEq_5n, pNe_5n, pEq_5s, pNe_5s, pEq_5t, pNe_5t, pEq_4n, pNe_4n, pEq_4s, pNe_4s, pNot_v, pNeg_v, pCom_v, pConv_v, pConvS_v, pMin_v, pMax_v, pFieldAddr_v, pField1_v, pFieldN_v, pExtract_v, pIdxArr_v, pIdxSl_v, pIdxStr_v, pBounds_00, pBounds_10, pBounds_01, pBounds_11, pSlStr_v, pSlSl_v, pSlArr_v, pLenS_v, pLen_v, pCap_v, pBuild_n, pBuild_c, cells_int, cells_str, cells_bool, cells_ptr, cells_slice, cells_map, cells_agg, oneCell_int, oneCell_str, oneCell_bool, oneCell_ptr, oneCell_slice, oneCell_map, putL_cons, putL_nil, pAnd_pure, pOr_pure, pAnd_pureE, pOr_pureE, pAnd_false, pOr_true, pCond_true, pCond_false, add_mk, bys_mk, bys_size, cond_true, cond_false, decide_true, decide_false, decide_not', dec_and, dec_or, dec_eqt, Bool.not_true, Bool.not_false, Option.isNone_none, Option.isNone_some, Option.map_some, Option.map_none, List.getElem?_toArray, List.getElem?_cons_zero, List.getElem?_cons_succ, List.size_toArray, List.length_cons, List.length_nil, List.length_replicate, List.set_cons_zero, List.set_cons_succ, Nat.reduceAdd, Nat.reduceMul, Nat.reduceSub, Nat.reduceLeDiff, Nat.zero_add, Nat.add_zero, Nat.zero_le, true_and, and_true, not_false_eq_true, ne_eq, Int.reduceNeg, Int.reduceEq, Int.reduceNe, Int.reduceLT, Int.reduceLE, le_refl', List.setIfInBounds_toArray, Nat.reduceLT, Array.size_setIfInBounds, if_true, if_false, reduceCtorEq, List.toArray_toList', List.drop_succ_cons, List.drop_zero, List.take_succ_cons, List.take_zero, List.nil_append, List.append_nil, List.cons_append, Bool.and_true, Bool.true_and, Bool.or_false, Bool.false_or, Bool.and_false, Bool.or_true, Bool.true_or, Bool.false_and, eq_self]
      refine pCond_if (fun hc2 => ?_) (fun hc2 => ?_)
      · refine (hS.ext e4).idx (tab_len _ _ _) (by decide) (by omega) (by omega) fun a2 ha2 => ?_
        rw [Int.toNat_natCast, tab_at g base N i (by omega)] at ha2
        refine ha2.loadN rfl ?_
        refine pStoreN_upd c4 (by rfl) (by rfl) (by rfl) fun H5 _ u5 => ?_
        refine ⟨by rw [lastI, if_pos hc2]; exact u5.at_, ⟨cs, u5.keep b4 (by omega), hcs⟩, u5.ext e4 (by omega)⟩
      · exact ⟨by rw [lastI, if_neg hc2]; exact c4, ⟨cs, b4, hcs⟩, e4⟩
  · have hiN : i = N := by omega
    subst hiN
    rw [pLoadN_blk c4 (by rfl)]
    refine pStoreN_upd b4 hcs (by rfl) (by rfl) fun H5 _ u5 => ?_
    rw [pLoadN_blk u5.at_ (by rfl)]
    exact h H5 (u5.ext e4 (by omega))
end Go.Proofs.YtpnkoniomalcpaaDoor
