/- Contracts of package bits: the writer; numbers in bytes. -/
import Derived.Test.YtcbaklebiohedaaBits
namespace Go.Proofs.Ytcbaklebiohedaa
-- only what is there
open Go Go.Vc Go.Proofs
set_option linter.unusedVariables false
set_option linter.unusedSimpArgs false
variable {H : Heap} {R : Value → Heap → Prop}
/-- a writer: the bits that were not drained; the slice of its whole bytes -/
structure Wr (H : Heap) (b o : Nat) (dv : Value) (B : List Bool) : Prop where
  sub : ∃ (D : List UInt8) (acc n : Nat), Sub H b o [dv, u64 acc, i64 n] ∧ Own H dv 1 (D.map byteV) ∧ B = toBits D ++ bitsN acc n ∧ acc < 2 ^ n ∧ n < 8
  ne : blkOf dv ≠ some b
  big : B.length ≤ 70368744177664
theorem own_one {H : Heap} {v : Value} {sz : Nat} {l : List Value} (h : Own H v sz l) : oneCell v = true := by
  rcases h with ⟨rfl, _⟩ | ⟨_, _, _, _, rfl, _⟩ <;> rfl
theorem Wr.ext {H' : Heap} {b o : Nat} {dv : Value} {B : List Bool} (h : Wr H b o dv B) (hx : Ext H H') : Wr H' b o dv B := by
  obtain ⟨⟨D, acc, n, h1, h2, h3⟩, h4, h5⟩ := h
  exact ⟨⟨D, acc, n, h1.ext hx, h2.ext hx, h3⟩, h4, h5⟩
theorem Wr.lt {b o : Nat} {dv : Value} {B : List Bool} (h : Wr H b o dv B) : b < H.size := by
  obtain ⟨⟨D, acc, n, h1, h2, h3⟩, h4⟩ := h
  exact h1.lt
theorem Wr.live {b o : Nat} {dv : Value} {B : List Bool} (h : Wr H b o dv B) : ∀ k, blkOf dv = some k → k < H.size := by
  obtain ⟨⟨D, acc, n, h1, h2, h3⟩, h4⟩ := h
  exact fun k hk => h2.lt hk
theorem Wr.new {b o : Nat} (h : Sub H b o [.slice none 0 0, .int .u64 0, .int .i64 0]) : Wr H b o (.slice none 0 0) [] := ⟨⟨[], 0, 0, h, .inl ⟨rfl, rfl⟩, rfl, by decide, by decide⟩, by simp [blkOf], by simp⟩
/-- another object's step -/
theorem Wr.keep {H' : Heap} {b o : Nat} {dv : Value} {B : List Bool} {b' o' n' : Nat} {F F' : Nat → Prop} (h : Wr H b o dv B) (c : Chg b' o' n' F F' H H') (h1 : b ≠ b') (h2 : ¬ F b) (h3 : blkOf dv ≠ some b') (h4 : ∀ k, blkOf dv = some k → ¬ F k) : Wr H' b o dv B := by
  obtain ⟨⟨D, acc, n, g1, g2, g3⟩, g4, g5⟩ := h
  exact ⟨⟨D, acc, n, g1.same (c.ne b g1.lt h1 h2), c.own g2 h3 h4, g3⟩, g4, g5⟩
variable {b o : Nat} {dv : Value} {B : List Bool}
theorem bits_zero (n : Nat) : bitsN 0 n = List.replicate n false := by
  apply List.ext_getElem?
  intro i
  by_cases h : i < n
  · rw [bitsN_get h, List.getElem?_replicate, if_pos h]; simp
  · rw [List.getElem?_eq_none (by rw [bitsN_len]; omega), List.getElem?_eq_none (by simp; omega)]
/-- a step over own slices as a change -/
theorem chg_own {b o n : Nat} {v v' : Value} {H H' : Heap} (hb : b < H.size) (hv : blkOf v ≠ some b) (hi : ∀ i, i < H.size → blkOf v ≠ some i → H'[i]? = H[i]?) (hs : H.size ≤ H'.size) (hk : ∀ k, blkOf v' = some k → blkOf v = some k ∨ H.size ≤ k) : Chg b o n (blkS v) (blkS v') H H' :=
  ⟨hs, fun i h1 _ h3 => hi i h1 h3, fun cs t fr hc => ⟨cs, (hi b hb hv).trans hc, rfl, fun _ _ => rfl⟩, fun k h => hk k h⟩
theorem wspill_spec {D : List UInt8} {acc n : Nat} (hs : Sub H b o [dv, u64 acc, i64 n]) (ho : Own H dv 1 (D.map byteV)) (ha : acc < 2 ^ n) (hn : n < 64) (hne : blkOf dv ≠ some b) (hbig : 8 * D.length + n ≤ 70368744177664)
    (h : ∀ H' dv', Wr H' b o dv' (toBits D ++ bitsN acc n) → Chg b o 3 (blkS dv) (blkS dv') H H' → R (.tuple #[]) H') : CallsH Try.prog 37 #[at_ b o] H R := by
  have hbH := hs.lt
  refine bits_Writer_spill.vc _ _ _ ?_
  unfold bits_Writer_spill.res
  refine ⟨fun H' => ∃ (D' : List UInt8) (acc' n' : Nat) (dv' : Value), Sub H' b o [dv', u64 acc', i64 n'] ∧ Own H' dv' 1 (D'.map byteV) ∧ acc' < 2 ^ n' ∧ n' < 64 ∧ blkOf dv' ≠ some b ∧ toBits D' ++ bitsN acc' n' = toBits D ++ bitsN acc n ∧ Chg b o 3 (blkS dv) (blkS dv') H H',
    fun H' => match cellAt H' ⟨b, o + 2, none⟩ with | some (.int _ q) => q.toNat | _ => 0, ⟨D, acc, n, dv, hs, ho, ha, hn, hne, rfl, Chg.refl⟩, ?_⟩
  rintro _ H1 ⟨D', acc', n', dv', hs1, ho1, ha1, hn1, hne1, he1, c1⟩
  have hlen := congrArg List.length he1
  rw [List.length_append, List.length_append, bitsN_len, bitsN_len, toBits_len, toBits_len] at hlen
  simp only [pPick_v, pNil_v, pNil_f, pAdd_v, pSub_v, pMul_v, pAdd_s, pQuo_v, pRem_v, pBits_v, pShl_v, pShr_v, pLt_v, pLe_v, pGt_v, pGe_v, pEq_0, pNe_0, pEq_1, pNe_1, pEq_2, pNe_2, pEq_3n, pNe_3n, pEq_3s, pNe_3s, pEq_3t, pNe_3t, pEq_5n, pNe_5n, pEq_5s, pNe_5s, pEq_5t, pNe_5t, pEq_4n, pNe_4n, pEq_4s, pNe_4s, pNot_v, pNeg_v, pCom_v, pConv_v, pConvS_v, pMin_v, pMax_v, pFieldAddr_v, pField1_v, pFieldN_v, pExtract_v, pIdxArr_v, pIdxSl_v, pIdxStr_v, pBounds_00, pBounds_10, pBounds_01, pBounds_11, pSlStr_v, pSlSl_v, pSlArr_v, pLenS_v, pLen_v, pCap_v, pBuild_n, pBuild_c, cells_int, cells_str, cells_bool, cells_ptr, cells_slice, cells_map, cells_agg, oneCell_int, oneCell_str, oneCell_bool, oneCell_ptr, oneCell_slice, oneCell_map, putL_cons, putL_nil, pAnd_pure, pOr_pure, pAnd_pureE, pOr_pureE, pAnd_false, pOr_true, pCond_true, pCond_false, add_mk, bys_mk, bys_size, cond_true, cond_false, decide_true, decide_false, decide_not', dec_and, dec_or, dec_eqt, Bool.not_true, Bool.not_false, Option.isNone_none, Option.isNone_some, Option.map_some, Option.map_none, List.getElem?_toArray, List.getElem?_cons_zero, List.getElem?_cons_succ, List.size_toArray, List.length_cons, List.length_nil, List.length_replicate, List.set_cons_zero, List.set_cons_succ, Nat.reduceAdd, Nat.reduceMul, Nat.reduceSub, Nat.reduceLeDiff, Nat.zero_add, Nat.add_zero, Nat.zero_le, true_and, and_true, not_false_eq_true, ne_eq, Int.reduceNeg, Int.reduceEq, Int.reduceNe, Int.reduceLT, Int.reduceLE, le_refl', List.setIfInBounds_toArray, Nat.reduceLT, Array.size_setIfInBounds, if_true, if_false, reduceCtorEq, List.toArray_toList', List.drop_succ_cons, List.drop_zero, List.take_succ_cons, List.take_zero, List.nil_append, List.append_nil, List.cons_append, Bool.and_true, Bool.true_and, Bool.or_false, Bool.false_or, Bool.and_false, Bool.or_true, Bool.true_or, Bool.false_and, eq_self, pLoad_cell (hs1.cell0 rfl), pLoad_cell (hs1.cell (k := 1) rfl), pLoad_cell (hs1.cell (k := 2) rfl)]
  refine pCond_if (fun hc => ?_) (fun hc => ?_)
  · rw [byte_low]
    refine own_build1 rfl rfl fun y H2 sy e2 _ => ?_
    have hs2 := hs1.ext e2
    simp only [pPick_v, pNil_v, pNil_f, pAdd_v, pSub_v, pMul_v, pAdd_s, pQuo_v, pRem_v, pBits_v, pShl_v, pShr_v, pLt_v, pLe_v, pGt_v, pGe_v, pEq_0, pNe_0, pEq_1, pNe_1, pEq_2, pNe_2, pEq_3n, pNe_3n, pEq_3s, pNe_3s, pEq_3t, pNe_3t, pEq_5n, pNe_5n, pEq_5s, pNe_5s, pEq_5t, pNe_5t, pEq_4n, pNe_4n, pEq_4s, pNe_4s, pNot_v, pNeg_v, pCom_v, pConv_v, pConvS_v, pMin_v, pMax_v, pFieldAddr_v, pField1_v, pFieldN_v, pExtract_v, pIdxArr_v, pIdxSl_v, pIdxStr_v, pBounds_00, pBounds_10, pBounds_01, pBounds_11, pSlStr_v, pSlSl_v, pSlArr_v, pLenS_v, pLen_v, pCap_v, pBuild_n, pBuild_c, cells_int, cells_str, cells_bool, cells_ptr, cells_slice, cells_map, cells_agg, oneCell_int, oneCell_str, oneCell_bool, oneCell_ptr, oneCell_slice, oneCell_map, putL_cons, putL_nil, pAnd_pure, pOr_pure, pAnd_pureE, pOr_pureE, pAnd_false, pOr_true, pCond_true, pCond_false, add_mk, bys_mk, bys_size, cond_true, cond_false, decide_true, decide_false, decide_not', dec_and, dec_or, dec_eqt, Bool.not_true, Bool.not_false, Option.isNone_none, Option.isNone_some, Option.map_some, Option.map_none, List.getElem?_toArray, List.getElem?_cons_zero, List.getElem?_cons_succ, List.size_toArray, List.length_cons, List.length_nil, List.length_replicate, List.set_cons_zero, List.set_cons_succ, Nat.reduceAdd, Nat.reduceMul, Nat.reduceSub, Nat.reduceLeDiff, Nat.zero_add, Nat.add_zero, Nat.zero_le, true_and, and_true, not_false_eq_true, ne_eq, Int.reduceNeg, Int.reduceEq, Int.reduceNe, Int.reduceLT, Int.reduceLE, le_refl', List.setIfInBounds_toArray, Nat.reduceLT, Array.size_setIfInBounds, if_true, if_false, reduceCtorEq, List.toArray_toList', List.drop_succ_cons, List.drop_zero, List.take_succ_cons, List.take_zero, List.nil_append, List.append_nil, List.cons_append, Bool.and_true, Bool.true_and, Bool.or_false, Bool.false_or, Bool.and_false, Bool.or_true, Bool.true_or, Bool.false_and, eq_self, pLoad_cell (hs2.cell0 rfl)]
    have ho2 := ho1.ext e2
    refine ho2.append (n := D'.length) (m := 1) (by decide) rfl (sy.lenV (n := 1) rfl (by decide)) sy.cellsOf (by simp) rfl rfl (by omega) fun v3 H3 o3 i3 s3 k3 => ?_
    have hs3 : Sub H3 b o [dv', u64 acc', i64 n'] := hs2.same (i3 b hs2.lt hne1)
    have c3 : Chg b o 3 (blkS dv') (blkS v3) H1 H3 := by
      have := e2.size
      refine chg_own hs1.lt hne1 (fun i h1 h2 => by rw [i3 i (by omega) h2, e2.get i h1]) (by omega) (fun k hk => ?_)
      rcases k3 with h' | h'
      · exact .inl (h' ▸ hk)
      · right; rw [h', Option.some.injEq] at hk; omega
    have hv3 : blkOf v3 ≠ some b := fun e => by
      rcases c3.new b e with h' | h'
      · exact hne1 h'
      · have := hs1.lt; omega
    refine pStore_sub0 (F := none_) (n := 3) hs3 rfl (by simp) (own_one o3) fun H4 s4 hs4 c4 => ?_
    simp only [pPick_v, pNil_v, pNil_f, pAdd_v, pSub_v, pMul_v, pAdd_s, pQuo_v, pRem_v, pBits_v, pShl_v, pShr_v, pLt_v, pLe_v, pGt_v, pGe_v, pEq_0, pNe_0, pEq_1, pNe_1, pEq_2, pNe_2, pEq_3n, pNe_3n, pEq_3s, pNe_3s, pEq_3t, pNe_3t, pEq_5n, pNe_5n, pEq_5s, pNe_5s, pEq_5t, pNe_5t, pEq_4n, pNe_4n, pEq_4s, pNe_4s, pNot_v, pNeg_v, pCom_v, pConv_v, pConvS_v, pMin_v, pMax_v, pFieldAddr_v, pField1_v, pFieldN_v, pExtract_v, pIdxArr_v, pIdxSl_v, pIdxStr_v, pBounds_00, pBounds_10, pBounds_01, pBounds_11, pSlStr_v, pSlSl_v, pSlArr_v, pLenS_v, pLen_v, pCap_v, pBuild_n, pBuild_c, cells_int, cells_str, cells_bool, cells_ptr, cells_slice, cells_map, cells_agg, oneCell_int, oneCell_str, oneCell_bool, oneCell_ptr, oneCell_slice, oneCell_map, putL_cons, putL_nil, pAnd_pure, pOr_pure, pAnd_pureE, pOr_pureE, pAnd_false, pOr_true, pCond_true, pCond_false, add_mk, bys_mk, bys_size, cond_true, cond_false, decide_true, decide_false, decide_not', dec_and, dec_or, dec_eqt, Bool.not_true, Bool.not_false, Option.isNone_none, Option.isNone_some, Option.map_some, Option.map_none, List.getElem?_toArray, List.getElem?_cons_zero, List.getElem?_cons_succ, List.size_toArray, List.length_cons, List.length_nil, List.length_replicate, List.set_cons_zero, List.set_cons_succ, Nat.reduceAdd, Nat.reduceMul, Nat.reduceSub, Nat.reduceLeDiff, Nat.zero_add, Nat.add_zero, Nat.zero_le, true_and, and_true, not_false_eq_true, ne_eq, Int.reduceNeg, Int.reduceEq, Int.reduceNe, Int.reduceLT, Int.reduceLE, le_refl', List.setIfInBounds_toArray, Nat.reduceLT, Array.size_setIfInBounds, if_true, if_false, reduceCtorEq, List.toArray_toList', List.drop_succ_cons, List.drop_zero, List.take_succ_cons, List.take_zero, List.nil_append, List.append_nil, List.cons_append, Bool.and_true, Bool.true_and, Bool.or_false, Bool.false_or, Bool.and_false, Bool.or_true, Bool.true_or, Bool.false_and, eq_self, pLoad_cell (hs4.cell (k := 1) rfl)]
    rw [fdiv_nat (n := acc') (m := min (Int.toNat 8) IntKind.u64.bits) (j := 8) rfl]
    refine pStore_sub (F := none_) (k := 1) (n := 3) hs4 rfl (by simp) rfl fun H5 s5 hs5 c5 => ?_
    simp only [pPick_v, pNil_v, pNil_f, pAdd_v, pSub_v, pMul_v, pAdd_s, pQuo_v, pRem_v, pBits_v, pShl_v, pShr_v, pLt_v, pLe_v, pGt_v, pGe_v, pEq_0, pNe_0, pEq_1, pNe_1, pEq_2, pNe_2, pEq_3n, pNe_3n, pEq_3s, pNe_3s, pEq_3t, pNe_3t, pEq_5n, pNe_5n, pEq_5s, pNe_5s, pEq_5t, pNe_5t, pEq_4n, pNe_4n, pEq_4s, pNe_4s, pNot_v, pNeg_v, pCom_v, pConv_v, pConvS_v, pMin_v, pMax_v, pFieldAddr_v, pField1_v, pFieldN_v, pExtract_v, pIdxArr_v, pIdxSl_v, pIdxStr_v, pBounds_00, pBounds_10, pBounds_01, pBounds_11, pSlStr_v, pSlSl_v, pSlArr_v, pLenS_v, pLen_v, pCap_v, pBuild_n, pBuild_c, cells_int, cells_str, cells_bool, cells_ptr, cells_slice, cells_map, cells_agg, oneCell_int, oneCell_str, oneCell_bool, oneCell_ptr, oneCell_slice, oneCell_map, putL_cons, putL_nil, pAnd_pure, pOr_pure, pAnd_pureE, pOr_pureE, pAnd_false, pOr_true, pCond_true, pCond_false, add_mk, bys_mk, bys_size, cond_true, cond_false, decide_true, decide_false, decide_not', dec_and, dec_or, dec_eqt, Bool.not_true, Bool.not_false, Option.isNone_none, Option.isNone_some, Option.map_some, Option.map_none, List.getElem?_toArray, List.getElem?_cons_zero, List.getElem?_cons_succ, List.size_toArray, List.length_cons, List.length_nil, List.length_replicate, List.set_cons_zero, List.set_cons_succ, Nat.reduceAdd, Nat.reduceMul, Nat.reduceSub, Nat.reduceLeDiff, Nat.zero_add, Nat.add_zero, Nat.zero_le, true_and, and_true, not_false_eq_true, ne_eq, Int.reduceNeg, Int.reduceEq, Int.reduceNe, Int.reduceLT, Int.reduceLE, le_refl', List.setIfInBounds_toArray, Nat.reduceLT, Array.size_setIfInBounds, if_true, if_false, reduceCtorEq, List.toArray_toList', List.drop_succ_cons, List.drop_zero, List.take_succ_cons, List.take_zero, List.nil_append, List.append_nil, List.cons_append, Bool.and_true, Bool.true_and, Bool.or_false, Bool.false_or, Bool.and_false, Bool.or_true, Bool.true_or, Bool.false_and, eq_self, pLoad_cell (hs5.cell (k := 2) rfl)]
    rw [w64 (n := (n' : Int) - 8) (by omega) (by omega), show (n' : Int) - 8 = ((n' - 8 : Nat) : Int) by omega]
    refine pStore_sub (F := none_) (k := 2) (n := 3) hs5 rfl (by simp) rfl fun H6 s6 hs6 c6 => ?_
    have c36 := (c4.trans c5).trans c6
    have o6 : Own H6 v3 1 ((D' ++ [UInt8.ofNat (acc' % 256)]).map byteV) := by
      rw [List.map_append]
      exact c36.own o3 hv3 (fun _ _ h => h)
    refine ⟨⟨D' ++ [UInt8.ofNat (acc' % 256)], acc' / 2 ^ 8, n' - 8, v3, hs6, o6, div_lt ha1 (by omega), by omega, hv3, ?_, c1.trans (c3.trans c36.any)⟩, ?_⟩
    · rw [← he1, toBits_append, List.append_assoc, byte_low_bits (n := n') (by omega)]
    · rw [hs6.cell (k := 2) rfl, hs1.cell (k := 2) rfl]
      show ((n' - 8 : Nat) : Int).toNat < (n' : Int).toNat
      omega
  · exact h H1 dv' ⟨⟨D', acc', n', hs1, ho1, he1.symm, ha1, by omega⟩, hne1, by rw [List.length_append, bitsN_len, toBits_len]; omega⟩ c1
theorem wWrite_nil {v n : Int} (h : R (.tuple #[]) H) : CallsH Try.prog 24 #[.pointer none, .int .u64 v, .int .i64 n] H R := by
  refine bits_Writer_Write.vc _ _ _ _ _ ?_
  unfold bits_Writer_Write.res
  simp only [pPick_v, pNil_v, pNil_f, pAdd_v, pSub_v, pMul_v, pAdd_s, pQuo_v, pRem_v, pBits_v, pShl_v, pShr_v, pLt_v, pLe_v, pGt_v, pGe_v, pEq_0, pNe_0, pEq_1, pNe_1, pEq_2, pNe_2, pEq_3n, pNe_3n, pEq_3s, pNe_3s, pEq_3t, pNe_3t, pEq_5n, pNe_5n, pEq_5s, pNe_5s, pEq_5t, pNe_5t, pEq_4n, pNe_4n, pEq_4s, pNe_4s, pNot_v, pNeg_v, pCom_v, pConv_v, pConvS_v, pMin_v, pMax_v, pFieldAddr_v, pField1_v, pFieldN_v, pExtract_v, pIdxArr_v, pIdxSl_v, pIdxStr_v, pBounds_00, pBounds_10, pBounds_01, pBounds_11, pSlStr_v, pSlSl_v, pSlArr_v, pLenS_v, pLen_v, pCap_v, pBuild_n, pBuild_c, cells_int, cells_str, cells_bool, cells_ptr, cells_slice, cells_map, cells_agg, oneCell_int, oneCell_str, oneCell_bool, oneCell_ptr, oneCell_slice, oneCell_map, putL_cons, putL_nil, pAnd_pure, pOr_pure, pAnd_pureE, pOr_pureE, pAnd_false, pOr_true, pCond_true, pCond_false, add_mk, bys_mk, bys_size, cond_true, cond_false, decide_true, decide_false, decide_not', dec_and, dec_or, dec_eqt, Bool.not_true, Bool.not_false, Option.isNone_none, Option.isNone_some, Option.map_some, Option.map_none, List.getElem?_toArray, List.getElem?_cons_zero, List.getElem?_cons_succ, List.size_toArray, List.length_cons, List.length_nil, List.length_replicate, List.set_cons_zero, List.set_cons_succ, Nat.reduceAdd, Nat.reduceMul, Nat.reduceSub, Nat.reduceLeDiff, Nat.zero_add, Nat.add_zero, Nat.zero_le, true_and, and_true, not_false_eq_true, ne_eq, Int.reduceNeg, Int.reduceEq, Int.reduceNe, Int.reduceLT, Int.reduceLE, le_refl', List.setIfInBounds_toArray, Nat.reduceLT, Array.size_setIfInBounds, if_true, if_false, reduceCtorEq, List.toArray_toList', List.drop_succ_cons, List.drop_zero, List.take_succ_cons, List.take_zero, List.nil_append, List.append_nil, List.cons_append, Bool.and_true, Bool.true_and, Bool.or_false, Bool.false_or, Bool.and_false, Bool.or_true, Bool.true_or, Bool.false_and, eq_self]
  intros
  exact h
theorem wWrite_no {v n : Int} (hno : ¬ (1 ≤ n ∧ n ≤ 32)) (h : R (.tuple #[]) H) : CallsH Try.prog 24 #[at_ b o, .int .u64 v, .int .i64 n] H R := by
  refine bits_Writer_Write.vc _ _ _ _ _ ?_
  unfold bits_Writer_Write.res
  simp only [pPick_v, pNil_v, pNil_f, pAdd_v, pSub_v, pMul_v, pAdd_s, pQuo_v, pRem_v, pBits_v, pShl_v, pShr_v, pLt_v, pLe_v, pGt_v, pGe_v, pEq_0, pNe_0, pEq_1, pNe_1, pEq_2, pNe_2, pEq_3n, pNe_3n, pEq_3s, pNe_3s, pEq_3t, pNe_3t, pEq_5n, pNe_5n, pEq_5s, pNe_5s, pEq_5t, pNe_5t, pEq_4n, pNe_4n, pEq_4s, pNe_4s, pNot_v, pNeg_v, pCom_v, pConv_v, pConvS_v, pMin_v, pMax_v, pFieldAddr_v, pField1_v, pFieldN_v, pExtract_v, pIdxArr_v, pIdxSl_v, pIdxStr_v, pBounds_00, pBounds_10, pBounds_01, pBounds_11, pSlStr_v, pSlSl_v, pSlArr_v, pLenS_v, pLen_v, pCap_v, pBuild_n, pBuild_c, cells_int, cells_str, cells_bool, cells_ptr, cells_slice, cells_map, cells_agg, oneCell_int, oneCell_str, oneCell_bool, oneCell_ptr, oneCell_slice, oneCell_map, putL_cons, putL_nil, pAnd_pure, pOr_pure, pAnd_pureE, pOr_pureE, pAnd_false, pOr_true, pCond_true, pCond_false, add_mk, bys_mk, bys_size, cond_true, cond_false, decide_true, decide_false, decide_not', dec_and, dec_or, dec_eqt, Bool.not_true, Bool.not_false, Option.isNone_none, Option.isNone_some, Option.map_some, Option.map_none, List.getElem?_toArray, List.getElem?_cons_zero, List.getElem?_cons_succ, List.size_toArray, List.length_cons, List.length_nil, List.length_replicate, List.set_cons_zero, List.set_cons_succ, Nat.reduceAdd, Nat.reduceMul, Nat.reduceSub, Nat.reduceLeDiff, Nat.zero_add, Nat.add_zero, Nat.zero_le, true_and, and_true, not_false_eq_true, ne_eq, Int.reduceNeg, Int.reduceEq, Int.reduceNe, Int.reduceLT, Int.reduceLE, le_refl', List.setIfInBounds_toArray, Nat.reduceLT, Array.size_setIfInBounds, if_true, if_false, reduceCtorEq, List.toArray_toList', List.drop_succ_cons, List.drop_zero, List.take_succ_cons, List.take_zero, List.nil_append, List.append_nil, List.cons_append, Bool.and_true, Bool.true_and, Bool.or_false, Bool.false_or, Bool.and_false, Bool.or_true, Bool.true_or, Bool.false_and, eq_self]
  intros
  rw [decide_eq_true (by omega), pCond_true]
  exact h
theorem wWrite_spec {v k : Nat} (hv : v < 18446744073709551616) (hk0 : 1 ≤ k) (hk : k ≤ 32) (hw : Wr H b o dv B) (hbig : B.length + 32 ≤ 70368744177664)
    (h : ∀ H' dv', Wr H' b o dv' (B ++ bitsN v k) → Chg b o 3 (blkS dv) (blkS dv') H H' → R (.tuple #[]) H') : CallsH Try.prog 24 #[at_ b o, u64 v, i64 k] H R := by
  obtain ⟨⟨D, acc, n, hs, ho, rfl, ha, hn⟩, hne, hb⟩ := hw
  rw [List.length_append, bitsN_len, toBits_len] at hbig
  refine bits_Writer_Write.vc _ _ _ _ _ ?_
  unfold bits_Writer_Write.res
  simp only [pPick_v, pNil_v, pNil_f, pAdd_v, pSub_v, pMul_v, pAdd_s, pQuo_v, pRem_v, pBits_v, pShl_v, pShr_v, pLt_v, pLe_v, pGt_v, pGe_v, pEq_0, pNe_0, pEq_1, pNe_1, pEq_2, pNe_2, pEq_3n, pNe_3n, pEq_3s, pNe_3s, pEq_3t, pNe_3t, pEq_5n, pNe_5n, pEq_5s, pNe_5s, pEq_5t, pNe_5t, pEq_4n, pNe_4n, pEq_4s, pNe_4s, pNot_v, pNeg_v, pCom_v, pConv_v, pConvS_v, pMin_v, pMax_v, pFieldAddr_v, pField1_v, pFieldN_v, pExtract_v, pIdxArr_v, pIdxSl_v, pIdxStr_v, pBounds_00, pBounds_10, pBounds_01, pBounds_11, pSlStr_v, pSlSl_v, pSlArr_v, pLenS_v, pLen_v, pCap_v, pBuild_n, pBuild_c, cells_int, cells_str, cells_bool, cells_ptr, cells_slice, cells_map, cells_agg, oneCell_int, oneCell_str, oneCell_bool, oneCell_ptr, oneCell_slice, oneCell_map, putL_cons, putL_nil, pAnd_pure, pOr_pure, pAnd_pureE, pOr_pureE, pAnd_false, pOr_true, pCond_true, pCond_false, add_mk, bys_mk, bys_size, cond_true, cond_false, decide_true, decide_false, decide_not', dec_and, dec_or, dec_eqt, Bool.not_true, Bool.not_false, Option.isNone_none, Option.isNone_some, Option.map_some, Option.map_none, List.getElem?_toArray, List.getElem?_cons_zero, List.getElem?_cons_succ, List.size_toArray, List.length_cons, List.length_nil, List.length_replicate, List.set_cons_zero, List.set_cons_succ, Nat.reduceAdd, Nat.reduceMul, Nat.reduceSub, Nat.reduceLeDiff, Nat.zero_add, Nat.add_zero, Nat.zero_le, true_and, and_true, not_false_eq_true, ne_eq, Int.reduceNeg, Int.reduceEq, Int.reduceNe, Int.reduceLT, Int.reduceLE, le_refl', List.setIfInBounds_toArray, Nat.reduceLT, Array.size_setIfInBounds, if_true, if_false, reduceCtorEq, List.toArray_toList', List.drop_succ_cons, List.drop_zero, List.take_succ_cons, List.take_zero, List.nil_append, List.append_nil, List.cons_append, Bool.and_true, Bool.true_and, Bool.or_false, Bool.false_or, Bool.and_false, Bool.or_true, Bool.true_or, Bool.false_and, eq_self]
  intros
  rw [decide_eq_false (by omega), pCond_false]
  simp only [pPick_v, pNil_v, pNil_f, pAdd_v, pSub_v, pMul_v, pAdd_s, pQuo_v, pRem_v, pBits_v, pShl_v, pShr_v, pLt_v, pLe_v, pGt_v, pGe_v, pEq_0, pNe_0, pEq_1, pNe_1, pEq_2, pNe_2, pEq_3n, pNe_3n, pEq_3s, pNe_3s, pEq_3t, pNe_3t, pEq_5n, pNe_5n, pEq_5s, pNe_5s, pEq_5t, pNe_5t, pEq_4n, pNe_4n, pEq_4s, pNe_4s, pNot_v, pNeg_v, pCom_v, pConv_v, pConvS_v, pMin_v, pMax_v, pFieldAddr_v, pField1_v, pFieldN_v, pExtract_v, pIdxArr_v, pIdxSl_v, pIdxStr_v, pBounds_00, pBounds_10, pBounds_01, pBounds_11, pSlStr_v, pSlSl_v, pSlArr_v, pLenS_v, pLen_v, pCap_v, pBuild_n, pBuild_c, cells_int, cells_str, cells_bool, cells_ptr, cells_slice, cells_map, cells_agg, oneCell_int, oneCell_str, oneCell_bool, oneCell_ptr, oneCell_slice, oneCell_map, putL_cons, putL_nil, pAnd_pure, pOr_pure, pAnd_pureE, pOr_pureE, pAnd_false, pOr_true, pCond_true, pCond_false, add_mk, bys_mk, bys_size, cond_true, cond_false, decide_true, decide_false, decide_not', dec_and, dec_or, dec_eqt, Bool.not_true, Bool.not_false, Option.isNone_none, Option.isNone_some, Option.map_some, Option.map_none, List.getElem?_toArray, List.getElem?_cons_zero, List.getElem?_cons_succ, List.size_toArray, List.length_cons, List.length_nil, List.length_replicate, List.set_cons_zero, List.set_cons_succ, Nat.reduceAdd, Nat.reduceMul, Nat.reduceSub, Nat.reduceLeDiff, Nat.zero_add, Nat.add_zero, Nat.zero_le, true_and, and_true, not_false_eq_true, ne_eq, Int.reduceNeg, Int.reduceEq, Int.reduceNe, Int.reduceLT, Int.reduceLE, le_refl', List.setIfInBounds_toArray, Nat.reduceLT, Array.size_setIfInBounds, if_true, if_false, reduceCtorEq, List.toArray_toList', List.drop_succ_cons, List.drop_zero, List.take_succ_cons, List.take_zero, List.nil_append, List.append_nil, List.cons_append, Bool.and_true, Bool.true_and, Bool.or_false, Bool.false_or, Bool.and_false, Bool.or_true, Bool.true_or, Bool.false_and, eq_self, pLoad_cell (hs.cell (k := 1) rfl), pLoad_cell (hs.cell (k := 2) rfl)]
  refine ⟨by omega, ?_⟩
  rw [mask_u64 hv hk]
  refine ⟨by omega, ?_⟩
  have hpk : (2 : Nat) ^ k ≤ 2 ^ 32 := Nat.pow_le_pow_right (by decide) hk
  have hpn : (2 : Nat) ^ n ≤ 2 ^ 7 := Nat.pow_le_pow_right (by decide) (by omega)
  have hm := Nat.mod_lt v (Nat.two_pow_pos k)
  have hprod : v % 2 ^ k * 2 ^ n ≤ 2 ^ 32 * 2 ^ 7 := Nat.mul_le_mul (by omega) hpn
  rw [shl_u64 (by omega) (by omega), or_u64 (by omega) (by omega), or_disj ha]
  refine pStore_sub (F := none_) (k := 1) (n := 3) hs rfl (by simp) rfl fun H1 s1 hs1 c1 => ?_
  simp only [pPick_v, pNil_v, pNil_f, pAdd_v, pSub_v, pMul_v, pAdd_s, pQuo_v, pRem_v, pBits_v, pShl_v, pShr_v, pLt_v, pLe_v, pGt_v, pGe_v, pEq_0, pNe_0, pEq_1, pNe_1, pEq_2, pNe_2, pEq_3n, pNe_3n, pEq_3s, pNe_3s, pEq_3t, pNe_3t, pEq_5n, pNe_5n, pEq_5s, pNe_5s, pEq_5t, pNe_5t, pEq_4n, pNe_4n, pEq_4s, pNe_4s, pNot_v, pNeg_v, pCom_v, pConv_v, pConvS_v, pMin_v, pMax_v, pFieldAddr_v, pField1_v, pFieldN_v, pExtract_v, pIdxArr_v, pIdxSl_v, pIdxStr_v, pBounds_00, pBounds_10, pBounds_01, pBounds_11, pSlStr_v, pSlSl_v, pSlArr_v, pLenS_v, pLen_v, pCap_v, pBuild_n, pBuild_c, cells_int, cells_str, cells_bool, cells_ptr, cells_slice, cells_map, cells_agg, oneCell_int, oneCell_str, oneCell_bool, oneCell_ptr, oneCell_slice, oneCell_map, putL_cons, putL_nil, pAnd_pure, pOr_pure, pAnd_pureE, pOr_pureE, pAnd_false, pOr_true, pCond_true, pCond_false, add_mk, bys_mk, bys_size, cond_true, cond_false, decide_true, decide_false, decide_not', dec_and, dec_or, dec_eqt, Bool.not_true, Bool.not_false, Option.isNone_none, Option.isNone_some, Option.map_some, Option.map_none, List.getElem?_toArray, List.getElem?_cons_zero, List.getElem?_cons_succ, List.size_toArray, List.length_cons, List.length_nil, List.length_replicate, List.set_cons_zero, List.set_cons_succ, Nat.reduceAdd, Nat.reduceMul, Nat.reduceSub, Nat.reduceLeDiff, Nat.zero_add, Nat.add_zero, Nat.zero_le, true_and, and_true, not_false_eq_true, ne_eq, Int.reduceNeg, Int.reduceEq, Int.reduceNe, Int.reduceLT, Int.reduceLE, le_refl', List.setIfInBounds_toArray, Nat.reduceLT, Array.size_setIfInBounds, if_true, if_false, reduceCtorEq, List.toArray_toList', List.drop_succ_cons, List.drop_zero, List.take_succ_cons, List.take_zero, List.nil_append, List.append_nil, List.cons_append, Bool.and_true, Bool.true_and, Bool.or_false, Bool.false_or, Bool.and_false, Bool.or_true, Bool.true_or, Bool.false_and, eq_self, pLoad_cell (hs1.cell (k := 2) rfl)]
  rw [w64 (n := (n : Int) + (k : Int)) (by omega) (by omega), show (n : Int) + (k : Int) = ((n + k : Nat) : Int) by omega]
  refine pStore_sub (F := none_) (k := 2) (n := 3) hs1 rfl (by simp) rfl fun H2 s2 hs2 c2 => ?_
  have c12 := c1.trans c2
  have ho2 := c12.own ho hne (fun _ _ h => h)
  have hlt : acc + v % 2 ^ k * 2 ^ n < 2 ^ (n + k) := by
    rw [Nat.pow_add]
    have h1 : v % 2 ^ k * 2 ^ n ≤ (2 ^ k - 1) * 2 ^ n := Nat.mul_le_mul_right _ (by omega)
    rw [Nat.sub_mul, Nat.one_mul, Nat.mul_comm (2 ^ k)] at h1
    have h2 : 2 ^ n ≤ 2 ^ n * 2 ^ k := Nat.le_mul_of_pos_right _ (Nat.two_pow_pos k)
    omega
  refine wspill_spec hs2 ho2 hlt (by omega) hne (by omega) fun H3 dv' hw3 c3 => ?_
  refine h H3 dv' ?_ ((c12.any).trans c3)
  rw [bitsN_join ha, bitsN_mod, ← List.append_assoc] at hw3
  exact hw3
/-- bits up to the next byte -/
def padB (B : List Bool) : List Bool := B ++ List.replicate ((8 - B.length % 8) % 8) false
theorem padB_len (B : List Bool) : (padB B).length % 8 = 0 ∧ (padB B).length ≤ B.length + 7 ∧ B.length ≤ (padB B).length := by
  unfold padB; rw [List.length_append, List.length_replicate]; omega
theorem wAlign_nil (h : R (.tuple #[]) H) : CallsH Try.prog 25 #[.pointer none] H R := by
  refine bits_Writer_Align.vc _ _ _ ?_
  unfold bits_Writer_Align.res
  simp only [pPick_v, pNil_v, pNil_f, pAdd_v, pSub_v, pMul_v, pAdd_s, pQuo_v, pRem_v, pBits_v, pShl_v, pShr_v, pLt_v, pLe_v, pGt_v, pGe_v, pEq_0, pNe_0, pEq_1, pNe_1, pEq_2, pNe_2, pEq_3n, pNe_3n, pEq_3s, pNe_3s, pEq_3t, pNe_3t, pEq_5n, pNe_5n, pEq_5s, pNe_5s, pEq_5t, pNe_5t, pEq_4n, pNe_4n, pEq_4s, pNe_4s, pNot_v, pNeg_v, pCom_v, pConv_v, pConvS_v, pMin_v, pMax_v, pFieldAddr_v, pField1_v, pFieldN_v, pExtract_v, pIdxArr_v, pIdxSl_v, pIdxStr_v, pBounds_00, pBounds_10, pBounds_01, pBounds_11, pSlStr_v, pSlSl_v, pSlArr_v, pLenS_v, pLen_v, pCap_v, pBuild_n, pBuild_c, cells_int, cells_str, cells_bool, cells_ptr, cells_slice, cells_map, cells_agg, oneCell_int, oneCell_str, oneCell_bool, oneCell_ptr, oneCell_slice, oneCell_map, putL_cons, putL_nil, pAnd_pure, pOr_pure, pAnd_pureE, pOr_pureE, pAnd_false, pOr_true, pCond_true, pCond_false, add_mk, bys_mk, bys_size, cond_true, cond_false, decide_true, decide_false, decide_not', dec_and, dec_or, dec_eqt, Bool.not_true, Bool.not_false, Option.isNone_none, Option.isNone_some, Option.map_some, Option.map_none, List.getElem?_toArray, List.getElem?_cons_zero, List.getElem?_cons_succ, List.size_toArray, List.length_cons, List.length_nil, List.length_replicate, List.set_cons_zero, List.set_cons_succ, Nat.reduceAdd, Nat.reduceMul, Nat.reduceSub, Nat.reduceLeDiff, Nat.zero_add, Nat.add_zero, Nat.zero_le, true_and, and_true, not_false_eq_true, ne_eq, Int.reduceNeg, Int.reduceEq, Int.reduceNe, Int.reduceLT, Int.reduceLE, le_refl', List.setIfInBounds_toArray, Nat.reduceLT, Array.size_setIfInBounds, if_true, if_false, reduceCtorEq, List.toArray_toList', List.drop_succ_cons, List.drop_zero, List.take_succ_cons, List.take_zero, List.nil_append, List.append_nil, List.cons_append, Bool.and_true, Bool.true_and, Bool.or_false, Bool.false_or, Bool.and_false, Bool.or_true, Bool.true_or, Bool.false_and, eq_self]
  exact fun _ => h
theorem wAlign_spec (hw : Wr H b o dv B) (hbig : B.length + 32 ≤ 70368744177664) (h : ∀ H' dv', Wr H' b o dv' (padB B) → Chg b o 3 (blkS dv) (blkS dv') H H' → R (.tuple #[]) H') : CallsH Try.prog 25 #[at_ b o] H R := by
  have hw' := hw
  obtain ⟨⟨D, acc, n, hs, ho, he, ha, hn⟩, hne, hb⟩ := hw
  have hl : B.length = 8 * D.length + n := by rw [he, List.length_append, bitsN_len, toBits_len]
  refine bits_Writer_Align.vc _ _ _ ?_
  unfold bits_Writer_Align.res
  simp only [pPick_v, pNil_v, pNil_f, pAdd_v, pSub_v, pMul_v, pAdd_s, pQuo_v, pRem_v, pBits_v, pShl_v, pShr_v, pLt_v, pLe_v, pGt_v, pGe_v, pEq_0, pNe_0, pEq_1, pNe_1, pEq_2, pNe_2, pEq_3n, pNe_3n, pEq_3s, pNe_3s, pEq_3t, pNe_3t, pEq_5n, pNe_5n, pEq_5s, pNe_5s, pEq_5t, pNe_5t, pEq_4n, pNe_4n, pEq_4s, pNe_4s, pNot_v, pNeg_v, pCom_v, pConv_v, pConvS_v, pMin_v, pMax_v, pFieldAddr_v, pField1_v, pFieldN_v, pExtract_v, pIdxArr_v, pIdxSl_v, pIdxStr_v, pBounds_00, pBounds_10, pBounds_01, pBounds_11, pSlStr_v, pSlSl_v, pSlArr_v, pLenS_v, pLen_v, pCap_v, pBuild_n, pBuild_c, cells_int, cells_str, cells_bool, cells_ptr, cells_slice, cells_map, cells_agg, oneCell_int, oneCell_str, oneCell_bool, oneCell_ptr, oneCell_slice, oneCell_map, putL_cons, putL_nil, pAnd_pure, pOr_pure, pAnd_pureE, pOr_pureE, pAnd_false, pOr_true, pCond_true, pCond_false, add_mk, bys_mk, bys_size, cond_true, cond_false, decide_true, decide_false, decide_not', dec_and, dec_or, dec_eqt, Bool.not_true, Bool.not_false, Option.isNone_none, Option.isNone_some, Option.map_some, Option.map_none, List.getElem?_toArray, List.getElem?_cons_zero, List.getElem?_cons_succ, List.size_toArray, List.length_cons, List.length_nil, List.length_replicate, List.set_cons_zero, List.set_cons_succ, Nat.reduceAdd, Nat.reduceMul, Nat.reduceSub, Nat.reduceLeDiff, Nat.zero_add, Nat.add_zero, Nat.zero_le, true_and, and_true, not_false_eq_true, ne_eq, Int.reduceNeg, Int.reduceEq, Int.reduceNe, Int.reduceLT, Int.reduceLE, le_refl', List.setIfInBounds_toArray, Nat.reduceLT, Array.size_setIfInBounds, if_true, if_false, reduceCtorEq, List.toArray_toList', List.drop_succ_cons, List.drop_zero, List.take_succ_cons, List.take_zero, List.nil_append, List.append_nil, List.cons_append, Bool.and_true, Bool.true_and, Bool.or_false, Bool.false_or, Bool.and_false, Bool.or_true, Bool.true_or, Bool.false_and, eq_self, pLoad_cell (hs.cell (k := 2) rfl)]
  refine fun _ => pCond_if (fun hc => ?_) (fun hc => ?_)
  · rw [w64 (n := 8 - (n : Int)) (by omega) (by omega), show 8 - (n : Int) = ((8 - n : Nat) : Int) by omega]
    refine wWrite_spec (v := 0) (by decide) (by omega) (by omega) hw' hbig fun H1 dv1 hw1 c1 => ?_
    refine h H1 dv1 ?_ c1
    rw [bits_zero] at hw1
    unfold padB
    rw [show (8 - B.length % 8) % 8 = 8 - n by omega]
    exact hw1
  · refine h H dv ?_ Chg.refl
    unfold padB
    rw [show (8 - B.length % 8) % 8 = 0 by omega, List.replicate_zero, List.append_nil]
    exact hw'
theorem wDrain_nil (h : R (str []) H) : CallsH Try.prog 26 #[.pointer none] H R := by
  refine bits_Writer_Drain.vc _ _ _ ?_
  unfold bits_Writer_Drain.res
  simp only [pPick_v, pNil_v, pNil_f, pAdd_v, pSub_v, pMul_v, pAdd_s, pQuo_v, pRem_v, pBits_v, pShl_v, pShr_v, pLt_v, pLe_v, pGt_v, pGe_v, pEq_0, pNe_0, pEq_1, pNe_1, pEq_2, pNe_2, pEq_3n, pNe_3n, pEq_3s, pNe_3s, pEq_3t, pNe_3t, pEq_5n, pNe_5n, pEq_5s, pNe_5s, pEq_5t, pNe_5t, pEq_4n, pNe_4n, pEq_4s, pNe_4s, pNot_v, pNeg_v, pCom_v, pConv_v, pConvS_v, pMin_v, pMax_v, pFieldAddr_v, pField1_v, pFieldN_v, pExtract_v, pIdxArr_v, pIdxSl_v, pIdxStr_v, pBounds_00, pBounds_10, pBounds_01, pBounds_11, pSlStr_v, pSlSl_v, pSlArr_v, pLenS_v, pLen_v, pCap_v, pBuild_n, pBuild_c, cells_int, cells_str, cells_bool, cells_ptr, cells_slice, cells_map, cells_agg, oneCell_int, oneCell_str, oneCell_bool, oneCell_ptr, oneCell_slice, oneCell_map, putL_cons, putL_nil, pAnd_pure, pOr_pure, pAnd_pureE, pOr_pureE, pAnd_false, pOr_true, pCond_true, pCond_false, add_mk, bys_mk, bys_size, cond_true, cond_false, decide_true, decide_false, decide_not', dec_and, dec_or, dec_eqt, Bool.not_true, Bool.not_false, Option.isNone_none, Option.isNone_some, Option.map_some, Option.map_none, List.getElem?_toArray, List.getElem?_cons_zero, List.getElem?_cons_succ, List.size_toArray, List.length_cons, List.length_nil, List.length_replicate, List.set_cons_zero, List.set_cons_succ, Nat.reduceAdd, Nat.reduceMul, Nat.reduceSub, Nat.reduceLeDiff, Nat.zero_add, Nat.add_zero, Nat.zero_le, true_and, and_true, not_false_eq_true, ne_eq, Int.reduceNeg, Int.reduceEq, Int.reduceNe, Int.reduceLT, Int.reduceLE, le_refl', List.setIfInBounds_toArray, Nat.reduceLT, Array.size_setIfInBounds, if_true, if_false, reduceCtorEq, List.toArray_toList', List.drop_succ_cons, List.drop_zero, List.take_succ_cons, List.take_zero, List.nil_append, List.append_nil, List.cons_append, Bool.and_true, Bool.true_and, Bool.or_false, Bool.false_or, Bool.and_false, Bool.or_true, Bool.true_or, Bool.false_and, eq_self]
  exact h
theorem wDrain_spec (hw : Wr H b o dv B) (h : ∀ H' dv', Wr H' b o dv' (B.drop (8 * (B.length / 8))) → Chg b o 3 (blkS dv) (blkS dv') H H' → R (str (toBytes B)) H') : CallsH Try.prog 26 #[at_ b o] H R := by
  obtain ⟨⟨D, acc, n, hs, ho, he, ha, hn⟩, hne, hb⟩ := hw
  have hl : B.length = 8 * D.length + n := by rw [he, List.length_append, bitsN_len, toBits_len]
  refine bits_Writer_Drain.vc _ _ _ ?_
  unfold bits_Writer_Drain.res
  simp only [pPick_v, pNil_v, pNil_f, pAdd_v, pSub_v, pMul_v, pAdd_s, pQuo_v, pRem_v, pBits_v, pShl_v, pShr_v, pLt_v, pLe_v, pGt_v, pGe_v, pEq_0, pNe_0, pEq_1, pNe_1, pEq_2, pNe_2, pEq_3n, pNe_3n, pEq_3s, pNe_3s, pEq_3t, pNe_3t, pEq_5n, pNe_5n, pEq_5s, pNe_5s, pEq_5t, pNe_5t, pEq_4n, pNe_4n, pEq_4s, pNe_4s, pNot_v, pNeg_v, pCom_v, pConv_v, pConvS_v, pMin_v, pMax_v, pFieldAddr_v, pField1_v, pFieldN_v, pExtract_v, pIdxArr_v, pIdxSl_v, pIdxStr_v, pBounds_00, pBounds_10, pBounds_01, pBounds_11, pSlStr_v, pSlSl_v, pSlArr_v, pLenS_v, pLen_v, pCap_v, pBuild_n, pBuild_c, cells_int, cells_str, cells_bool, cells_ptr, cells_slice, cells_map, cells_agg, oneCell_int, oneCell_str, oneCell_bool, oneCell_ptr, oneCell_slice, oneCell_map, putL_cons, putL_nil, pAnd_pure, pOr_pure, pAnd_pureE, pOr_pureE, pAnd_false, pOr_true, pCond_true, pCond_false, add_mk, bys_mk, bys_size, cond_true, cond_false, decide_true, decide_false, decide_not', dec_and, dec_or, dec_eqt, Bool.not_true, Bool.not_false, Option.isNone_none, Option.isNone_some, Option.map_some, Option.map_none, List.getElem?_toArray, List.getElem?_cons_zero, List.getElem?_cons_succ, List.size_toArray, List.length_cons, List.length_nil, List.length_replicate, List.set_cons_zero, List.set_cons_succ, Nat.reduceAdd, Nat.reduceMul, Nat.reduceSub, Nat.reduceLeDiff, Nat.zero_add, Nat.add_zero, Nat.zero_le, true_and, and_true, not_false_eq_true, ne_eq, Int.reduceNeg, Int.reduceEq, Int.reduceNe, Int.reduceLT, Int.reduceLE, le_refl', List.setIfInBounds_toArray, Nat.reduceLT, Array.size_setIfInBounds, if_true, if_false, reduceCtorEq, List.toArray_toList', List.drop_succ_cons, List.drop_zero, List.take_succ_cons, List.take_zero, List.nil_append, List.append_nil, List.cons_append, Bool.and_true, Bool.true_and, Bool.or_false, Bool.false_or, Bool.and_false, Bool.or_true, Bool.true_or, Bool.false_and, eq_self, pLoad_cell (hs.cell0 rfl)]
  refine Sl.str (ho.sl (by decide)) ?_
  refine ho.cut0 fun v1 o1 k1 => ?_
  have hv1 : blkOf v1 ≠ some b := by rw [k1]; exact hne
  refine pStore_sub0 (F := none_) (n := 3) hs rfl (by simp) (own_one o1) fun H1 s1 hs1 c1 => ?_
  have h := h H1 v1 ⟨⟨[], acc, n, hs1, c1.own o1 hv1 (fun _ _ h => h), ?_, ha, hn⟩, hv1, by rw [List.length_drop]; omega⟩ (c1.any.weak (fun _ h => h) (fun k hk => .inl (by
    have hk' : blkOf v1 = some k := hk
    rw [k1] at hk'; exact hk')))
  · rw [he, toBytes_toBits D _ (by rw [bitsN_len]; omega)] at h
    exact h
  · rw [hl, show (8 * D.length + n) / 8 = D.length by omega, he, ← toBits_len D, List.drop_append_of_le_length (Nat.le_refl _), List.drop_of_length_le (Nat.le_refl _)]
    rfl
end Go.Proofs.Ytcbaklebiohedaa
