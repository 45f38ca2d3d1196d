/- Part 6 of the proof of RowTopBlocks: what it is built on, in the order of its needs. -/
import Derived.Test.YtameljhbkedhjaaGreatDoorPkE
import Derived.Shelf.Strings.Builder1
import Derived.WalkKit
namespace Go.Proofs.YtameljhbkedhjaaGreatDoor
open Go Go.Vc Go.Proofs
set_option linter.unusedVariables false
set_option linter.unusedSimpArgs false
variable {H : Heap} {R : Value → Heap → Prop}
structure Wr (H : Heap) (b o : Nat) (dv : Value) (B : List Bool) : Prop where
  sub : ∃ (D : List UInt8) (acc n : Nat), Sub H b o [dv, u64 acc, i64 n] ∧ Own H dv 1 (D.map byteV) ∧ B = toBits D ++ bitsN acc n ∧ acc < 2 ^ n ∧ n < 8
  ne : blkOf dv ≠ some b
  big : B.length ≤ 70368744177664
theorem own_one {H : Heap} {v : Value} {sz : Nat} {l : List Value} (h : Own H v sz l) : oneCell v = true := by
  rcases h with ⟨rfl, _⟩ | ⟨_, _, _, _, rfl, _⟩ <;> rfl
theorem Wr.ext {H' : Heap} {b o : Nat} {dv : Value} {B : List Bool} (h : Wr H b o dv B) (hx : Ext H H') : Wr H' b o dv B := by
  obtain ⟨⟨D, acc, n, h1, h2, h3⟩, h4, h5⟩ := h
  exact ⟨⟨D, acc, n, h1.ext hx, h2.ext hx, h3⟩, h4, h5⟩
theorem Wr.lt {b o : Nat} {dv : Value} {B : List Bool} (h : Wr H b o dv B) : b < H.size := by
  obtain ⟨⟨D, acc, n, h1, h2, h3⟩, h4⟩ := h
  exact h1.lt
theorem Wr.live {b o : Nat} {dv : Value} {B : List Bool} (h : Wr H b o dv B) : ∀ k, blkOf dv = some k → k < H.size := by
  obtain ⟨⟨D, acc, n, h1, h2, h3⟩, h4⟩ := h
  exact fun k hk => h2.lt hk
theorem Wr.new {b o : Nat} (h : Sub H b o [.slice none 0 0, .int .u64 0, .int .i64 0]) : Wr H b o (.slice none 0 0) [] := ⟨⟨[], 0, 0, h, .inl ⟨rfl, rfl⟩, rfl, by decide, by decide⟩, by simp [blkOf], by simp⟩
theorem Wr.keep {H' : Heap} {b o : Nat} {dv : Value} {B : List Bool} {b' o' n' : Nat} {F F' : Nat → Prop} (h : Wr H b o dv B) (c : Chg b' o' n' F F' H H') (h1 : b ≠ b') (h2 : ¬ F b) (h3 : blkOf dv ≠ some b') (h4 : ∀ k, blkOf dv = some k → ¬ F k) : Wr H' b o dv B := by
  obtain ⟨⟨D, acc, n, g1, g2, g3⟩, g4, g5⟩ := h
  exact ⟨⟨D, acc, n, g1.same (c.ne b g1.lt h1 h2), c.own g2 h3 h4, g3⟩, g4, g5⟩
variable {b o : Nat} {dv : Value} {B : List Bool}
theorem bits_zero (n : Nat) : bitsN 0 n = List.replicate n false := by
  apply List.ext_getElem?
  intro i
  by_cases h : i < n
  · rw [bitsN_get h, List.getElem?_replicate, if_pos h]; simp
  · rw [List.getElem?_eq_none (by rw [bitsN_len]; omega), List.getElem?_eq_none (by simp; omega)]
theorem chg_own {b o n : Nat} {v v' : Value} {H H' : Heap} (hb : b < H.size) (hv : blkOf v ≠ some b) (hi : ∀ i, i < H.size → blkOf v ≠ some i → H'[i]? = H[i]?) (hs : H.size ≤ H'.size) (hk : ∀ k, blkOf v' = some k → blkOf v = some k ∨ H.size ≤ k) : Chg b o n (blkS v) (blkS v') H H' :=
  ⟨hs, fun i h1 _ h3 => hi i h1 h3, fun cs t fr hc => ⟨cs, (hi b hb hv).trans hc, rfl, fun _ _ => rfl⟩, fun k h => hk k h⟩
theorem wspill_spec {D : List UInt8} {acc n : Nat} (hs : Sub H b o [dv, u64 acc, i64 n]) (ho : Own H dv 1 (D.map byteV)) (ha : acc < 2 ^ n) (hn : n < 64) (hne : blkOf dv ≠ some b) (hbig : 8 * D.length + n ≤ 70368744177664)
    (h : ∀ H' dv', Wr H' b o dv' (toBits D ++ bitsN acc n) → Chg b o 3 (blkS dv) (blkS dv') H H' → R (.tuple #[]) H') : CallsH Tryz.prog 51 #[at_ b o] H R := by
  have hbH := hs.lt
  refine bits_Writer_spill.vc _ _ _ ?_
  unfold bits_Writer_spill.res
  refine ⟨fun H' => ∃ (D' : List UInt8) (acc' n' : Nat) (dv' : Value), Sub H' b o [dv', u64 acc', i64 n'] ∧ Own H' dv' 1 (D'.map byteV) ∧ acc' < 2 ^ n' ∧ n' < 64 ∧ blkOf dv' ≠ some b ∧ toBits D' ++ bitsN acc' n' = toBits D ++ bitsN acc n ∧ Chg b o 3 (blkS dv) (blkS dv') H H',
    fun H' => match cellAt H' ⟨b, o + 2, none⟩ with | some (.int _ q) => q.toNat | _ => 0, ⟨D, acc, n, dv, hs, ho, ha, hn, hne, rfl, Chg.refl⟩, ?_⟩
  rintro _ H1 ⟨D', acc', n', dv', hs1, ho1, ha1, hn1, hne1, he1, c1⟩
  have hlen := congrArg List.length he1
  rw [List.length_append, List.length_append, bitsN_len, bitsN_len, toBits_len, toBits_len] at hlen
  simp only [pPick_v, pNil_v, pNil_f, pAdd_v, pSub_v, pMul_v, pAdd_s, pQuo_v, pRem_v, pBits_v, pShl_v, pShr_v, pLt_v, pLe_v, pGt_v, pGe_v, pEq_0, pNe_0, pEq_1, pNe_1, pEq_2, pNe_2, pEq_3n, pNe_3n, pEq_3s, pNe_3s, pEq_3t, pNe_3t, pEq_5n, pNe_5n, pEq_5s, pNe_5s, pEq_5t, pNe_5t, pEq_4n, pNe_4n, pEq_4s, pNe_4s, pNot_v, pNeg_v, pCom_v, pConv_v, pConvS_v, pMin_v, pMax_v, pFieldAddr_v, pField1_v, pFieldN_v, pExtract_v, pIdxArr_v, pIdxSl_v, pIdxStr_v, pBounds_00, pBounds_10, pBounds_01, pBounds_11, pSlStr_v, pSlSl_v, pSlArr_v, pLenS_v, pLen_v, pCap_v, pBuild_n, pBuild_c, cells_int, cells_str, cells_bool, cells_ptr, cells_slice, cells_map, cells_agg, oneCell_int, oneCell_str, oneCell_bool, oneCell_ptr, oneCell_slice, oneCell_map, putL_cons, putL_nil, pAnd_pure, pOr_pure, pAnd_pureE, pOr_pureE, pAnd_false, pOr_true, pCond_true, pCond_false, add_mk, bys_mk, bys_size, cond_true, cond_false, decide_true, decide_false, decide_not', dec_and, dec_or, dec_eqt, Bool.not_true, Bool.not_false, Option.isNone_none, Option.isNone_some, Option.map_some, Option.map_none, List.getElem?_toArray, List.getElem?_cons_zero, List.getElem?_cons_succ, List.size_toArray, List.length_cons, List.length_nil, List.length_replicate, List.set_cons_zero, List.set_cons_succ, Nat.reduceAdd, Nat.reduceMul, Nat.reduceSub, Nat.reduceLeDiff, Nat.zero_add, Nat.add_zero, Nat.zero_le, true_and, and_true, not_false_eq_true, ne_eq, Int.reduceNeg, Int.reduceEq, Int.reduceNe, Int.reduceLT, Int.reduceLE, le_refl', List.setIfInBounds_toArray, Nat.reduceLT, Array.size_setIfInBounds, if_true, if_false, reduceCtorEq, List.toArray_toList', List.drop_succ_cons, List.drop_zero, List.take_succ_cons, List.take_zero, List.nil_append, List.append_nil, List.cons_append, Bool.and_true, Bool.true_and, Bool.or_false, Bool.false_or, Bool.and_false, Bool.or_true, Bool.true_or, Bool.false_and, eq_self, pLoad_cell (hs1.cell0 rfl), pLoad_cell (hs1.cell (k := 1) rfl), pLoad_cell (hs1.cell (k := 2) rfl)]
  refine pCond_if (fun hc => ?_) (fun hc => ?_)
  · rw [byte_low]
    refine own_build1 rfl rfl fun y H2 sy e2 _ => ?_
    have hs2 := hs1.ext e2
    simp only [pPick_v, pNil_v, pNil_f, pAdd_v, pSub_v, pMul_v, pAdd_s, pQuo_v, pRem_v, pBits_v, pShl_v, pShr_v, pLt_v, pLe_v, pGt_v, pGe_v, pEq_0, pNe_0, pEq_1, pNe_1, pEq_2, pNe_2, pEq_3n, pNe_3n, pEq_3s, pNe_3s, pEq_3t, pNe_3t, pEq_5n, pNe_5n, pEq_5s, pNe_5s, pEq_5t, pNe_5t, pEq_4n, pNe_4n, pEq_4s, pNe_4s, pNot_v, pNeg_v, pCom_v, pConv_v, pConvS_v, pMin_v, pMax_v, pFieldAddr_v, pField1_v, pFieldN_v, pExtract_v, pIdxArr_v, pIdxSl_v, pIdxStr_v, pBounds_00, pBounds_10, pBounds_01, pBounds_11, pSlStr_v, pSlSl_v, pSlArr_v, pLenS_v, pLen_v, pCap_v, pBuild_n, pBuild_c, cells_int, cells_str, cells_bool, cells_ptr, cells_slice, cells_map, cells_agg, oneCell_int, oneCell_str, oneCell_bool, oneCell_ptr, oneCell_slice, oneCell_map, putL_cons, putL_nil, pAnd_pure, pOr_pure, pAnd_pureE, pOr_pureE, pAnd_false, pOr_true, pCond_true, pCond_false, add_mk, bys_mk, bys_size, cond_true, cond_false, decide_true, decide_false, decide_not', dec_and, dec_or, dec_eqt, Bool.not_true, Bool.not_false, Option.isNone_none, Option.isNone_some, Option.map_some, Option.map_none, List.getElem?_toArray, List.getElem?_cons_zero, List.getElem?_cons_succ, List.size_toArray, List.length_cons, List.length_nil, List.length_replicate, List.set_cons_zero, List.set_cons_succ, Nat.reduceAdd, Nat.reduceMul, Nat.reduceSub, Nat.reduceLeDiff, Nat.zero_add, Nat.add_zero, Nat.zero_le, true_and, and_true, not_false_eq_true, ne_eq, Int.reduceNeg, Int.reduceEq, Int.reduceNe, Int.reduceLT, Int.reduceLE, le_refl', List.setIfInBounds_toArray, Nat.reduceLT, Array.size_setIfInBounds, if_true, if_false, reduceCtorEq, List.toArray_toList', List.drop_succ_cons, List.drop_zero, List.take_succ_cons, List.take_zero, List.nil_append, List.append_nil, List.cons_append, Bool.and_true, Bool.true_and, Bool.or_false, Bool.false_or, Bool.and_false, Bool.or_true, Bool.true_or, Bool.false_and, eq_self, pLoad_cell (hs2.cell0 rfl)]
    have ho2 := ho1.ext e2
    refine ho2.append (n := D'.length) (m := 1) (by decide) rfl (sy.lenV (n := 1) rfl (by decide)) sy.cellsOf (by simp) rfl rfl (by omega) fun v3 H3 o3 i3 s3 k3 => ?_
    have hs3 : Sub H3 b o [dv', u64 acc', i64 n'] := hs2.same (i3 b hs2.lt hne1)
    have c3 : Chg b o 3 (blkS dv') (blkS v3) H1 H3 := by
      have := e2.size
      refine chg_own hs1.lt hne1 (fun i h1 h2 => by rw [i3 i (by omega) h2, e2.get i h1]) (by omega) (fun k hk => ?_)
      rcases k3 with h' | h'
      · exact .inl (h' ▸ hk)
      · right; rw [h', Option.some.injEq] at hk; omega
    have hv3 : blkOf v3 ≠ some b := fun e => by
      rcases c3.new b e with h' | h'
      · exact hne1 h'
      · have := hs1.lt; omega
    refine pStore_sub0 (F := none_) (n := 3) hs3 rfl (by simp) (own_one o3) fun H4 s4 hs4 c4 => ?_
    simp only [pPick_v, pNil_v, pNil_f, pAdd_v, pSub_v, pMul_v, pAdd_s, pQuo_v, pRem_v, pBits_v, pShl_v, pShr_v, pLt_v, pLe_v, pGt_v, pGe_v, pEq_0, pNe_0, pEq_1, pNe_1, pEq_2, pNe_2, pEq_3n, pNe_3n, pEq_3s, pNe_3s, pEq_3t, pNe_3t, pEq_5n, pNe_5n, pEq_5s, pNe_5s, pEq_5t, pNe_5t, pEq_4n, pNe_4n, pEq_4s, pNe_4s, pNot_v, pNeg_v, pCom_v, pConv_v, pConvS_v, pMin_v, pMax_v, pFieldAddr_v, pField1_v, pFieldN_v, pExtract_v, pIdxArr_v, pIdxSl_v, pIdxStr_v, pBounds_00, pBounds_10, pBounds_01, pBounds_11, pSlStr_v, pSlSl_v, pSlArr_v, pLenS_v, pLen_v, pCap_v, pBuild_n, pBuild_c, cells_int, cells_str, cells_bool, cells_ptr, cells_slice, cells_map, cells_agg, oneCell_int, oneCell_str, oneCell_bool, oneCell_ptr, oneCell_slice, oneCell_map, putL_cons, putL_nil, pAnd_pure, pOr_pure, pAnd_pureE, pOr_pureE, pAnd_false, pOr_true, pCond_true, pCond_false, add_mk, bys_mk, bys_size, cond_true, cond_false, decide_true, decide_false, decide_not', dec_and, dec_or, dec_eqt, Bool.not_true, Bool.not_false, Option.isNone_none, Option.isNone_some, Option.map_some, Option.map_none, List.getElem?_toArray, List.getElem?_cons_zero, List.getElem?_cons_succ, List.size_toArray, List.length_cons, List.length_nil, List.length_replicate, List.set_cons_zero, List.set_cons_succ, Nat.reduceAdd, Nat.reduceMul, Nat.reduceSub, Nat.reduceLeDiff, Nat.zero_add, Nat.add_zero, Nat.zero_le, true_and, and_true, not_false_eq_true, ne_eq, Int.reduceNeg, Int.reduceEq, Int.reduceNe, Int.reduceLT, Int.reduceLE, le_refl', List.setIfInBounds_toArray, Nat.reduceLT, Array.size_setIfInBounds, if_true, if_false, reduceCtorEq, List.toArray_toList', List.drop_succ_cons, List.drop_zero, List.take_succ_cons, List.take_zero, List.nil_append, List.append_nil, List.cons_append, Bool.and_true, Bool.true_and, Bool.or_false, Bool.false_or, Bool.and_false, Bool.or_true, Bool.true_or, Bool.false_and, eq_self, pLoad_cell (hs4.cell (k := 1) rfl)]
    rw [fdiv_nat (n := acc') (m := min (Int.toNat 8) IntKind.u64.bits) (j := 8) rfl]
    refine pStore_sub (F := none_) (k := 1) (n := 3) hs4 rfl (by simp) rfl fun H5 s5 hs5 c5 => ?_
    simp only [pPick_v, pNil_v, pNil_f, pAdd_v, pSub_v, pMul_v, pAdd_s, pQuo_v, pRem_v, pBits_v, pShl_v, pShr_v, pLt_v, pLe_v, pGt_v, pGe_v, pEq_0, pNe_0, pEq_1, pNe_1, pEq_2, pNe_2, pEq_3n, pNe_3n, pEq_3s, pNe_3s, pEq_3t, pNe_3t, pEq_5n, pNe_5n, pEq_5s, pNe_5s, pEq_5t, pNe_5t, pEq_4n, pNe_4n, pEq_4s, pNe_4s, pNot_v, pNeg_v, pCom_v, pConv_v, pConvS_v, pMin_v, pMax_v, pFieldAddr_v, pField1_v, pFieldN_v, pExtract_v, pIdxArr_v, pIdxSl_v, pIdxStr_v, pBounds_00, pBounds_10, pBounds_01, pBounds_11, pSlStr_v, pSlSl_v, pSlArr_v, pLenS_v, pLen_v, pCap_v, pBuild_n, pBuild_c, cells_int, cells_str, cells_bool, cells_ptr, cells_slice, cells_map, cells_agg, oneCell_int, oneCell_str, oneCell_bool, oneCell_ptr, oneCell_slice, oneCell_map, putL_cons, putL_nil, pAnd_pure, pOr_pure, pAnd_pureE, pOr_pureE, pAnd_false, pOr_true, pCond_true, pCond_false, add_mk, bys_mk, bys_size, cond_true, cond_false, decide_true, decide_false, decide_not', dec_and, dec_or, dec_eqt, Bool.not_true, Bool.not_false, Option.isNone_none, Option.isNone_some, Option.map_some, Option.map_none, List.getElem?_toArray, List.getElem?_cons_zero, List.getElem?_cons_succ, List.size_toArray, List.length_cons, List.length_nil, List.length_replicate, List.set_cons_zero, List.set_cons_succ, Nat.reduceAdd, Nat.reduceMul, Nat.reduceSub, Nat.reduceLeDiff, Nat.zero_add, Nat.add_zero, Nat.zero_le, true_and, and_true, not_false_eq_true, ne_eq, Int.reduceNeg, Int.reduceEq, Int.reduceNe, Int.reduceLT, Int.reduceLE, le_refl', List.setIfInBounds_toArray, Nat.reduceLT, Array.size_setIfInBounds, if_true, if_false, reduceCtorEq, List.toArray_toList', List.drop_succ_cons, List.drop_zero, List.take_succ_cons, List.take_zero, List.nil_append, List.append_nil, List.cons_append, Bool.and_true, Bool.true_and, Bool.or_false, Bool.false_or, Bool.and_false, Bool.or_true, Bool.true_or, Bool.false_and, eq_self, pLoad_cell (hs5.cell (k := 2) rfl)]
    rw [w64 (n := (n' : Int) - 8) (by omega) (by omega), show (n' : Int) - 8 = ((n' - 8 : Nat) : Int) by omega]
    refine pStore_sub (F := none_) (k := 2) (n := 3) hs5 rfl (by simp) rfl fun H6 s6 hs6 c6 => ?_
    have c36 := (c4.trans c5).trans c6
    have o6 : Own H6 v3 1 ((D' ++ [UInt8.ofNat (acc' % 256)]).map byteV) := by
      rw [List.map_append]
      exact c36.own o3 hv3 (fun _ _ h => h)
    refine ⟨⟨D' ++ [UInt8.ofNat (acc' % 256)], acc' / 2 ^ 8, n' - 8, v3, hs6, o6, div_lt ha1 (by omega), by omega, hv3, ?_, c1.trans (c3.trans c36.any)⟩, ?_⟩
    · rw [← he1, toBits_append, List.append_assoc, byte_low_bits (n := n') (by omega)]
    · rw [hs6.cell (k := 2) rfl, hs1.cell (k := 2) rfl]
      show ((n' - 8 : Nat) : Int).toNat < (n' : Int).toNat
      omega
  · exact h H1 dv' ⟨⟨D', acc', n', hs1, ho1, he1.symm, ha1, by omega⟩, hne1, by rw [List.length_append, bitsN_len, toBits_len]; omega⟩ c1
theorem wWrite_no {v n : Int} (hno : ¬ (1 ≤ n ∧ n ≤ 32)) (h : R (.tuple #[]) H) : CallsH Tryz.prog 22 #[at_ b o, .int .u64 v, .int .i64 n] H R := by
  refine bits_Writer_Write.vc _ _ _ _ _ ?_
  unfold bits_Writer_Write.res
  simp only [pPick_v, pNil_v, pNil_f, pAdd_v, pSub_v, pMul_v, pAdd_s, pQuo_v, pRem_v, pBits_v, pShl_v, pShr_v, pLt_v, pLe_v, pGt_v, pGe_v, pEq_0, pNe_0, pEq_1, pNe_1, pEq_2, pNe_2, pEq_3n, pNe_3n, pEq_3s, pNe_3s, pEq_3t, pNe_3t, pEq_5n, pNe_5n, pEq_5s, pNe_5s, pEq_5t, pNe_5t, pEq_4n, pNe_4n, pEq_4s, pNe_4s, pNot_v, pNeg_v, pCom_v, pConv_v, pConvS_v, pMin_v, pMax_v, pFieldAddr_v, pField1_v, pFieldN_v, pExtract_v, pIdxArr_v, pIdxSl_v, pIdxStr_v, pBounds_00, pBounds_10, pBounds_01, pBounds_11, pSlStr_v, pSlSl_v, pSlArr_v, pLenS_v, pLen_v, pCap_v, pBuild_n, pBuild_c, cells_int, cells_str, cells_bool, cells_ptr, cells_slice, cells_map, cells_agg, oneCell_int, oneCell_str, oneCell_bool, oneCell_ptr, oneCell_slice, oneCell_map, putL_cons, putL_nil, pAnd_pure, pOr_pure, pAnd_pureE, pOr_pureE, pAnd_false, pOr_true, pCond_true, pCond_false, add_mk, bys_mk, bys_size, cond_true, cond_false, decide_true, decide_false, decide_not', dec_and, dec_or, dec_eqt, Bool.not_true, Bool.not_false, Option.isNone_none, Option.isNone_some, Option.map_some, Option.map_none, List.getElem?_toArray, List.getElem?_cons_zero, List.getElem?_cons_succ, List.size_toArray, List.length_cons, List.length_nil, List.length_replicate, List.set_cons_zero, List.set_cons_succ, Nat.reduceAdd, Nat.reduceMul, Nat.reduceSub, Nat.reduceLeDiff, Nat.zero_add, Nat.add_zero, Nat.zero_le, true_and, and_true, not_false_eq_true, ne_eq, Int.reduceNeg, Int.reduceEq, Int.reduceNe, Int.reduceLT, Int.reduceLE, le_refl', List.setIfInBounds_toArray, Nat.reduceLT, Array.size_setIfInBounds, if_true, if_false, reduceCtorEq, List.toArray_toList', List.drop_succ_cons, List.drop_zero, List.take_succ_cons, List.take_zero, List.nil_append, List.append_nil, List.cons_append, Bool.and_true, Bool.true_and, Bool.or_false, Bool.false_or, Bool.and_false, Bool.or_true, Bool.true_or, Bool.false_and, eq_self]
  intros
  rw [decide_eq_true (by omega), pCond_true]
  exact h
theorem wWrite_spec {v k : Nat} (hv : v < 18446744073709551616) (hk0 : 1 ≤ k) (hk : k ≤ 32) (hw : Wr H b o dv B) (hbig : B.length + 32 ≤ 70368744177664)
    (h : ∀ H' dv', Wr H' b o dv' (B ++ bitsN v k) → Chg b o 3 (blkS dv) (blkS dv') H H' → R (.tuple #[]) H') : CallsH Tryz.prog 22 #[at_ b o, u64 v, i64 k] H R := by
  obtain ⟨⟨D, acc, n, hs, ho, rfl, ha, hn⟩, hne, hb⟩ := hw
  rw [List.length_append, bitsN_len, toBits_len] at hbig
  refine bits_Writer_Write.vc _ _ _ _ _ ?_
  unfold bits_Writer_Write.res
  simp only [pPick_v, pNil_v, pNil_f, pAdd_v, pSub_v, pMul_v, pAdd_s, pQuo_v, pRem_v, pBits_v, pShl_v, pShr_v, pLt_v, pLe_v, pGt_v, pGe_v, pEq_0, pNe_0, pEq_1, pNe_1, pEq_2, pNe_2, pEq_3n, pNe_3n, pEq_3s, pNe_3s, pEq_3t, pNe_3t, pEq_5n, pNe_5n, pEq_5s, pNe_5s, pEq_5t, pNe_5t, pEq_4n, pNe_4n, pEq_4s, pNe_4s, pNot_v, pNeg_v, pCom_v, pConv_v, pConvS_v, pMin_v, pMax_v, pFieldAddr_v, pField1_v, pFieldN_v, pExtract_v, pIdxArr_v, pIdxSl_v, pIdxStr_v, pBounds_00, pBounds_10, pBounds_01, pBounds_11, pSlStr_v, pSlSl_v, pSlArr_v, pLenS_v, pLen_v, pCap_v, pBuild_n, pBuild_c, cells_int, cells_str, cells_bool, cells_ptr, cells_slice, cells_map, cells_agg, oneCell_int, oneCell_str, oneCell_bool, oneCell_ptr, oneCell_slice, oneCell_map, putL_cons, putL_nil, pAnd_pure, pOr_pure, pAnd_pureE, pOr_pureE, pAnd_false, pOr_true, pCond_true, pCond_false, add_mk, bys_mk, bys_size, cond_true, cond_false, decide_true, decide_false, decide_not', dec_and, dec_or, dec_eqt, Bool.not_true, Bool.not_false, Option.isNone_none, Option.isNone_some, Option.map_some, Option.map_none, List.getElem?_toArray, List.getElem?_cons_zero, List.getElem?_cons_succ, List.size_toArray, List.length_cons, List.length_nil, List.length_replicate, List.set_cons_zero, List.set_cons_succ, Nat.reduceAdd, Nat.reduceMul, Nat.reduceSub, Nat.reduceLeDiff, Nat.zero_add, Nat.add_zero, Nat.zero_le, true_and, and_true, not_false_eq_true, ne_eq, Int.reduceNeg, Int.reduceEq, Int.reduceNe, Int.reduceLT, Int.reduceLE, le_refl', List.setIfInBounds_toArray, Nat.reduceLT, Array.size_setIfInBounds, if_true, if_false, reduceCtorEq, List.toArray_toList', List.drop_succ_cons, List.drop_zero, List.take_succ_cons, List.take_zero, List.nil_append, List.append_nil, List.cons_append, Bool.and_true, Bool.true_and, Bool.or_false, Bool.false_or, Bool.and_false, Bool.or_true, Bool.true_or, Bool.false_and, eq_self]
  intros
  rw [decide_eq_false (by omega), pCond_false]
  simp only [pPick_v, pNil_v, pNil_f, pAdd_v, pSub_v, pMul_v, pAdd_s, pQuo_v, pRem_v, pBits_v, pShl_v, pShr_v, pLt_v, pLe_v, pGt_v, pGe_v, pEq_0, pNe_0, pEq_1, pNe_1, pEq_2, pNe_2, pEq_3n, pNe_3n, pEq_3s, pNe_3s, pEq_3t, pNe_3t, pEq_5n, pNe_5n, pEq_5s, pNe_5s, pEq_5t, pNe_5t, pEq_4n, pNe_4n, pEq_4s, pNe_4s, pNot_v, pNeg_v, pCom_v, pConv_v, pConvS_v, pMin_v, pMax_v, pFieldAddr_v, pField1_v, pFieldN_v, pExtract_v, pIdxArr_v, pIdxSl_v, pIdxStr_v, pBounds_00, pBounds_10, pBounds_01, pBounds_11, pSlStr_v, pSlSl_v, pSlArr_v, pLenS_v, pLen_v, pCap_v, pBuild_n, pBuild_c, cells_int, cells_str, cells_bool, cells_ptr, cells_slice, cells_map, cells_agg, oneCell_int, oneCell_str, oneCell_bool, oneCell_ptr, oneCell_slice, oneCell_map, putL_cons, putL_nil, pAnd_pure, pOr_pure, pAnd_pureE, pOr_pureE, pAnd_false, pOr_true, pCond_true, pCond_false, add_mk, bys_mk, bys_size, cond_true, cond_false, decide_true, decide_false, decide_not', dec_and, dec_or, dec_eqt, Bool.not_true, Bool.not_false, Option.isNone_none, Option.isNone_some, Option.map_some, Option.map_none, List.getElem?_toArray, List.getElem?_cons_zero, List.getElem?_cons_succ, List.size_toArray, List.length_cons, List.length_nil, List.length_replicate, List.set_cons_zero, List.set_cons_succ, Nat.reduceAdd, Nat.reduceMul, Nat.reduceSub, Nat.reduceLeDiff, Nat.zero_add, Nat.add_zero, Nat.zero_le, true_and, and_true, not_false_eq_true, ne_eq, Int.reduceNeg, Int.reduceEq, Int.reduceNe, Int.reduceLT, Int.reduceLE, le_refl', List.setIfInBounds_toArray, Nat.reduceLT, Array.size_setIfInBounds, if_true, if_false, reduceCtorEq, List.toArray_toList', List.drop_succ_cons, List.drop_zero, List.take_succ_cons, List.take_zero, List.nil_append, List.append_nil, List.cons_append, Bool.and_true, Bool.true_and, Bool.or_false, Bool.false_or, Bool.and_false, Bool.or_true, Bool.true_or, Bool.false_and, eq_self, pLoad_cell (hs.cell (k := 1) rfl), pLoad_cell (hs.cell (k := 2) rfl)]
  refine ⟨by omega, ?_⟩
  rw [mask_u64 hv hk]
  refine ⟨by omega, ?_⟩
  have hpk : (2 : Nat) ^ k ≤ 2 ^ 32 := Nat.pow_le_pow_right (by decide) hk
  have hpn : (2 : Nat) ^ n ≤ 2 ^ 7 := Nat.pow_le_pow_right (by decide) (by omega)
  have hm := Nat.mod_lt v (Nat.two_pow_pos k)
  have hprod : v % 2 ^ k * 2 ^ n ≤ 2 ^ 32 * 2 ^ 7 := Nat.mul_le_mul (by omega) hpn
  rw [shl_u64 (by omega) (by omega), or_u64 (by omega) (by omega), or_disj ha]
  refine pStore_sub (F := none_) (k := 1) (n := 3) hs rfl (by simp) rfl fun H1 s1 hs1 c1 => ?_
  simp only [pPick_v, pNil_v, pNil_f, pAdd_v, pSub_v, pMul_v, pAdd_s, pQuo_v, pRem_v, pBits_v, pShl_v, pShr_v, pLt_v, pLe_v, pGt_v, pGe_v, pEq_0, pNe_0, pEq_1, pNe_1, pEq_2, pNe_2, pEq_3n, pNe_3n, pEq_3s, pNe_3s, pEq_3t, pNe_3t, pEq_5n, pNe_5n, pEq_5s, pNe_5s, pEq_5t, pNe_5t, pEq_4n, pNe_4n, pEq_4s, pNe_4s, pNot_v, pNeg_v, pCom_v, pConv_v, pConvS_v, pMin_v, pMax_v, pFieldAddr_v, pField1_v, pFieldN_v, pExtract_v, pIdxArr_v, pIdxSl_v, pIdxStr_v, pBounds_00, pBounds_10, pBounds_01, pBounds_11, pSlStr_v, pSlSl_v, pSlArr_v, pLenS_v, pLen_v, pCap_v, pBuild_n, pBuild_c, cells_int, cells_str, cells_bool, cells_ptr, cells_slice, cells_map, cells_agg, oneCell_int, oneCell_str, oneCell_bool, oneCell_ptr, oneCell_slice, oneCell_map, putL_cons, putL_nil, pAnd_pure, pOr_pure, pAnd_pureE, pOr_pureE, pAnd_false, pOr_true, pCond_true, pCond_false, add_mk, bys_mk, bys_size, cond_true, cond_false, decide_true, decide_false, decide_not', dec_and, dec_or, dec_eqt, Bool.not_true, Bool.not_false, Option.isNone_none, Option.isNone_some, Option.map_some, Option.map_none, List.getElem?_toArray, List.getElem?_cons_zero, List.getElem?_cons_succ, List.size_toArray, List.length_cons, List.length_nil, List.length_replicate, List.set_cons_zero, List.set_cons_succ, Nat.reduceAdd, Nat.reduceMul, Nat.reduceSub, Nat.reduceLeDiff, Nat.zero_add, Nat.add_zero, Nat.zero_le, true_and, and_true, not_false_eq_true, ne_eq, Int.reduceNeg, Int.reduceEq, Int.reduceNe, Int.reduceLT, Int.reduceLE, le_refl', List.setIfInBounds_toArray, Nat.reduceLT, Array.size_setIfInBounds, if_true, if_false, reduceCtorEq, List.toArray_toList', List.drop_succ_cons, List.drop_zero, List.take_succ_cons, List.take_zero, List.nil_append, List.append_nil, List.cons_append, Bool.and_true, Bool.true_and, Bool.or_false, Bool.false_or, Bool.and_false, Bool.or_true, Bool.true_or, Bool.false_and, eq_self, pLoad_cell (hs1.cell (k := 2) rfl)]
  rw [w64 (n := (n : Int) + (k : Int)) (by omega) (by omega), show (n : Int) + (k : Int) = ((n + k : Nat) : Int) by omega]
  refine pStore_sub (F := none_) (k := 2) (n := 3) hs1 rfl (by simp) rfl fun H2 s2 hs2 c2 => ?_
  have c12 := c1.trans c2
  have ho2 := c12.own ho hne (fun _ _ h => h)
  have hlt : acc + v % 2 ^ k * 2 ^ n < 2 ^ (n + k) := by
    rw [Nat.pow_add]
    have h1 : v % 2 ^ k * 2 ^ n ≤ (2 ^ k - 1) * 2 ^ n := Nat.mul_le_mul_right _ (by omega)
    rw [Nat.sub_mul, Nat.one_mul, Nat.mul_comm (2 ^ k)] at h1
    have h2 : 2 ^ n ≤ 2 ^ n * 2 ^ k := Nat.le_mul_of_pos_right _ (Nat.two_pow_pos k)
    omega
  refine wspill_spec hs2 ho2 hlt (by omega) hne (by omega) fun H3 dv' hw3 c3 => ?_
  refine h H3 dv' ?_ ((c12.any).trans c3)
  rw [bitsN_join ha, bitsN_mod, ← List.append_assoc] at hw3
  exact hw3
def padB (B : List Bool) : List Bool := B ++ List.replicate ((8 - B.length % 8) % 8) false
theorem padB_len (B : List Bool) : (padB B).length % 8 = 0 ∧ (padB B).length ≤ B.length + 7 ∧ B.length ≤ (padB B).length := by
  unfold padB; rw [List.length_append, List.length_replicate]; omega
theorem wAlign_spec (hw : Wr H b o dv B) (hbig : B.length + 32 ≤ 70368744177664) (h : ∀ H' dv', Wr H' b o dv' (padB B) → Chg b o 3 (blkS dv) (blkS dv') H H' → R (.tuple #[]) H') : CallsH Tryz.prog 7 #[at_ b o] H R := by
  have hw' := hw
  obtain ⟨⟨D, acc, n, hs, ho, he, ha, hn⟩, hne, hb⟩ := hw
  have hl : B.length = 8 * D.length + n := by rw [he, List.length_append, bitsN_len, toBits_len]
  refine bits_Writer_Align.vc _ _ _ ?_
  unfold bits_Writer_Align.res
  simp only [pPick_v, pNil_v, pNil_f, pAdd_v, pSub_v, pMul_v, pAdd_s, pQuo_v, pRem_v, pBits_v, pShl_v, pShr_v, pLt_v, pLe_v, pGt_v, pGe_v, pEq_0, pNe_0, pEq_1, pNe_1, pEq_2, pNe_2, pEq_3n, pNe_3n, pEq_3s, pNe_3s, pEq_3t, pNe_3t, pEq_5n, pNe_5n, pEq_5s, pNe_5s, pEq_5t, pNe_5t, pEq_4n, pNe_4n, pEq_4s, pNe_4s, pNot_v, pNeg_v, pCom_v, pConv_v, pConvS_v, pMin_v, pMax_v, pFieldAddr_v, pField1_v, pFieldN_v, pExtract_v, pIdxArr_v, pIdxSl_v, pIdxStr_v, pBounds_00, pBounds_10, pBounds_01, pBounds_11, pSlStr_v, pSlSl_v, pSlArr_v, pLenS_v, pLen_v, pCap_v, pBuild_n, pBuild_c, cells_int, cells_str, cells_bool, cells_ptr, cells_slice, cells_map, cells_agg, oneCell_int, oneCell_str, oneCell_bool, oneCell_ptr, oneCell_slice, oneCell_map, putL_cons, putL_nil, pAnd_pure, pOr_pure, pAnd_pureE, pOr_pureE, pAnd_false, pOr_true, pCond_true, pCond_false, add_mk, bys_mk, bys_size, cond_true, cond_false, decide_true, decide_false, decide_not', dec_and, dec_or, dec_eqt, Bool.not_true, Bool.not_false, Option.isNone_none, Option.isNone_some, Option.map_some, Option.map_none, List.getElem?_toArray, List.getElem?_cons_zero, List.getElem?_cons_succ, List.size_toArray, List.length_cons, List.length_nil, List.length_replicate, List.set_cons_zero, List.set_cons_succ, Nat.reduceAdd, Nat.reduceMul, Nat.reduceSub, Nat.reduceLeDiff, Nat.zero_add, Nat.add_zero, Nat.zero_le, true_and, and_true, not_false_eq_true, ne_eq, Int.reduceNeg, Int.reduceEq, Int.reduceNe, Int.reduceLT, Int.reduceLE, le_refl', List.setIfInBounds_toArray, Nat.reduceLT, Array.size_setIfInBounds, if_true, if_false, reduceCtorEq, List.toArray_toList', List.drop_succ_cons, List.drop_zero, List.take_succ_cons, List.take_zero, List.nil_append, List.append_nil, List.cons_append, Bool.and_true, Bool.true_and, Bool.or_false, Bool.false_or, Bool.and_false, Bool.or_true, Bool.true_or, Bool.false_and, eq_self, pLoad_cell (hs.cell (k := 2) rfl)]
  refine fun _ => pCond_if (fun hc => ?_) (fun hc => ?_)
  · rw [w64 (n := 8 - (n : Int)) (by omega) (by omega), show 8 - (n : Int) = ((8 - n : Nat) : Int) by omega]
    refine wWrite_spec (v := 0) (by decide) (by omega) (by omega) hw' hbig fun H1 dv1 hw1 c1 => ?_
    refine h H1 dv1 ?_ c1
    rw [bits_zero] at hw1
    unfold padB
    rw [show (8 - B.length % 8) % 8 = 8 - n by omega]
    exact hw1
  · refine h H dv ?_ Chg.refl
    unfold padB
    rw [show (8 - B.length % 8) % 8 = 0 by omega, List.replicate_zero, List.append_nil]
    exact hw'
theorem wAdd_spec {s : List UInt8} (hw : Wr H b o dv B) (hbig : B.length + 8 * s.length + 32 ≤ 70368744177664) (h : ∀ H' dv', Wr H' b o dv' (padB B ++ toBits s) → Chg b o 3 (blkS dv) (blkS dv') H H' → R (.tuple #[]) H') : CallsH Tryz.prog 23 #[at_ b o, str s] H R := by
  have hbH := hw.lt
  refine bits_Writer_Add.vc _ _ _ _ ?_
  unfold bits_Writer_Add.res
  simp only [pPick_v, pNil_v, pNil_f, pAdd_v, pSub_v, pMul_v, pAdd_s, pQuo_v, pRem_v, pBits_v, pShl_v, pShr_v, pLt_v, pLe_v, pGt_v, pGe_v, pEq_0, pNe_0, pEq_1, pNe_1, pEq_2, pNe_2, pEq_3n, pNe_3n, pEq_3s, pNe_3s, pEq_3t, pNe_3t, pEq_5n, pNe_5n, pEq_5s, pNe_5s, pEq_5t, pNe_5t, pEq_4n, pNe_4n, pEq_4s, pNe_4s, pNot_v, pNeg_v, pCom_v, pConv_v, pConvS_v, pMin_v, pMax_v, pFieldAddr_v, pField1_v, pFieldN_v, pExtract_v, pIdxArr_v, pIdxSl_v, pIdxStr_v, pBounds_00, pBounds_10, pBounds_01, pBounds_11, pSlStr_v, pSlSl_v, pSlArr_v, pLenS_v, pLen_v, pCap_v, pBuild_n, pBuild_c, cells_int, cells_str, cells_bool, cells_ptr, cells_slice, cells_map, cells_agg, oneCell_int, oneCell_str, oneCell_bool, oneCell_ptr, oneCell_slice, oneCell_map, putL_cons, putL_nil, pAnd_pure, pOr_pure, pAnd_pureE, pOr_pureE, pAnd_false, pOr_true, pCond_true, pCond_false, add_mk, bys_mk, bys_size, cond_true, cond_false, decide_true, decide_false, decide_not', dec_and, dec_or, dec_eqt, Bool.not_true, Bool.not_false, Option.isNone_none, Option.isNone_some, Option.map_some, Option.map_none, List.getElem?_toArray, List.getElem?_cons_zero, List.getElem?_cons_succ, List.size_toArray, List.length_cons, List.length_nil, List.length_replicate, List.set_cons_zero, List.set_cons_succ, Nat.reduceAdd, Nat.reduceMul, Nat.reduceSub, Nat.reduceLeDiff, Nat.zero_add, Nat.add_zero, Nat.zero_le, true_and, and_true, not_false_eq_true, ne_eq, Int.reduceNeg, Int.reduceEq, Int.reduceNe, Int.reduceLT, Int.reduceLE, le_refl', List.setIfInBounds_toArray, Nat.reduceLT, Array.size_setIfInBounds, if_true, if_false, reduceCtorEq, List.toArray_toList', List.drop_succ_cons, List.drop_zero, List.take_succ_cons, List.take_zero, List.nil_append, List.append_nil, List.cons_append, Bool.and_true, Bool.true_and, Bool.or_false, Bool.false_or, Bool.and_false, Bool.or_true, Bool.true_or, Bool.false_and, eq_self]
  refine wAlign_spec hw (by omega) fun H1 dv1 hw1 c1 => ?_
  have hp := padB_len B
  obtain ⟨⟨D, acc, n, hs, ho, he, ha, hn⟩, hne, hb⟩ := hw1
  have hl : (padB B).length = 8 * D.length + n := by rw [he, List.length_append, bitsN_len, toBits_len]
  have hn0 : n = 0 := by omega
  subst hn0
  simp only [pPick_v, pNil_v, pNil_f, pAdd_v, pSub_v, pMul_v, pAdd_s, pQuo_v, pRem_v, pBits_v, pShl_v, pShr_v, pLt_v, pLe_v, pGt_v, pGe_v, pEq_0, pNe_0, pEq_1, pNe_1, pEq_2, pNe_2, pEq_3n, pNe_3n, pEq_3s, pNe_3s, pEq_3t, pNe_3t, pEq_5n, pNe_5n, pEq_5s, pNe_5s, pEq_5t, pNe_5t, pEq_4n, pNe_4n, pEq_4s, pNe_4s, pNot_v, pNeg_v, pCom_v, pConv_v, pConvS_v, pMin_v, pMax_v, pFieldAddr_v, pField1_v, pFieldN_v, pExtract_v, pIdxArr_v, pIdxSl_v, pIdxStr_v, pBounds_00, pBounds_10, pBounds_01, pBounds_11, pSlStr_v, pSlSl_v, pSlArr_v, pLenS_v, pLen_v, pCap_v, pBuild_n, pBuild_c, cells_int, cells_str, cells_bool, cells_ptr, cells_slice, cells_map, cells_agg, oneCell_int, oneCell_str, oneCell_bool, oneCell_ptr, oneCell_slice, oneCell_map, putL_cons, putL_nil, pAnd_pure, pOr_pure, pAnd_pureE, pOr_pureE, pAnd_false, pOr_true, pCond_true, pCond_false, add_mk, bys_mk, bys_size, cond_true, cond_false, decide_true, decide_false, decide_not', dec_and, dec_or, dec_eqt, Bool.not_true, Bool.not_false, Option.isNone_none, Option.isNone_some, Option.map_some, Option.map_none, List.getElem?_toArray, List.getElem?_cons_zero, List.getElem?_cons_succ, List.size_toArray, List.length_cons, List.length_nil, List.length_replicate, List.set_cons_zero, List.set_cons_succ, Nat.reduceAdd, Nat.reduceMul, Nat.reduceSub, Nat.reduceLeDiff, Nat.zero_add, Nat.add_zero, Nat.zero_le, true_and, and_true, not_false_eq_true, ne_eq, Int.reduceNeg, Int.reduceEq, Int.reduceNe, Int.reduceLT, Int.reduceLE, le_refl', List.setIfInBounds_toArray, Nat.reduceLT, Array.size_setIfInBounds, if_true, if_false, reduceCtorEq, List.toArray_toList', List.drop_succ_cons, List.drop_zero, List.take_succ_cons, List.take_zero, List.nil_append, List.append_nil, List.cons_append, Bool.and_true, Bool.true_and, Bool.or_false, Bool.false_or, Bool.and_false, Bool.or_true, Bool.true_or, Bool.false_and, eq_self, pLoad_cell (hs.cell0 rfl)]
  refine ho.append (n := D.length) (m := s.length) (new := s.map byteV) (by decide) rfl rfl rfl (by simp) (by simp) (by
    rw [List.all_eq_true]; intro x hx; obtain ⟨y, _, rfl⟩ := List.mem_map.1 hx; rfl) (by omega) fun v2 H2 o2 i2 s2 k2 => ?_
  have hs2 : Sub H2 b o [dv1, u64 acc, i64 0] := hs.same (i2 b hs.lt hne)
  have c2 : Chg b o 3 (blkS dv1) (blkS v2) H1 H2 := chg_own hs.lt hne i2 s2 (fun k hk => by
    rcases k2 with h' | h'
    · exact .inl (h' ▸ hk)
    · right; rw [h', Option.some.injEq] at hk; omega)
  have hv2 : blkOf v2 ≠ some b := fun e => by
    rcases c2.new b e with h' | h'
    · exact hne h'
    · have := hs.lt; omega
  refine pStore_sub0 (F := none_) (n := 3) hs2 rfl (by simp) (own_one o2) fun H3 s3 hs3 c3 => ?_
  refine h H3 v2 ⟨⟨D ++ s, acc, 0, hs3, ?_, ?_, ha, by omega⟩, hv2, ?_⟩ (c1.trans (c2.trans c3.any))
  · rw [List.map_append]; exact c3.own o2 hv2 (fun _ _ h => h)
  · rw [he, bitsN_zero, List.append_nil, List.append_nil, toBits_append]
  · rw [List.length_append, toBits_len]; omega
theorem wDrain_spec (hw : Wr H b o dv B) (h : ∀ H' dv', Wr H' b o dv' (B.drop (8 * (B.length / 8))) → Chg b o 3 (blkS dv) (blkS dv') H H' → R (str (toBytes B)) H') : CallsH Tryz.prog 8 #[at_ b o] H R := by
  obtain ⟨⟨D, acc, n, hs, ho, he, ha, hn⟩, hne, hb⟩ := hw
  have hl : B.length = 8 * D.length + n := by rw [he, List.length_append, bitsN_len, toBits_len]
  refine bits_Writer_Drain.vc _ _ _ ?_
  unfold bits_Writer_Drain.res
  simp only [pPick_v, pNil_v, pNil_f, pAdd_v, pSub_v, pMul_v, pAdd_s, pQuo_v, pRem_v, pBits_v, pShl_v, pShr_v, pLt_v, pLe_v, pGt_v, pGe_v, pEq_0, pNe_0, pEq_1, pNe_1, pEq_2, pNe_2, pEq_3n, pNe_3n, pEq_3s, pNe_3s, pEq_3t, pNe_3t, pEq_5n, pNe_5n, pEq_5s, pNe_5s, pEq_5t, pNe_5t, pEq_4n, pNe_4n, pEq_4s, pNe_4s, pNot_v, pNeg_v, pCom_v, pConv_v, pConvS_v, pMin_v, pMax_v, pFieldAddr_v, pField1_v, pFieldN_v, pExtract_v, pIdxArr_v, pIdxSl_v, pIdxStr_v, pBounds_00, pBounds_10, pBounds_01, pBounds_11, pSlStr_v, pSlSl_v, pSlArr_v, pLenS_v, pLen_v, pCap_v, pBuild_n, pBuild_c, cells_int, cells_str, cells_bool, cells_ptr, cells_slice, cells_map, cells_agg, oneCell_int, oneCell_str, oneCell_bool, oneCell_ptr, oneCell_slice, oneCell_map, putL_cons, putL_nil, pAnd_pure, pOr_pure, pAnd_pureE, pOr_pureE, pAnd_false, pOr_true, pCond_true, pCond_false, add_mk, bys_mk, bys_size, cond_true, cond_false, decide_true, decide_false, decide_not', dec_and, dec_or, dec_eqt, Bool.not_true, Bool.not_false, Option.isNone_none, Option.isNone_some, Option.map_some, Option.map_none, List.getElem?_toArray, List.getElem?_cons_zero, List.getElem?_cons_succ, List.size_toArray, List.length_cons, List.length_nil, List.length_replicate, List.set_cons_zero, List.set_cons_succ, Nat.reduceAdd, Nat.reduceMul, Nat.reduceSub, Nat.reduceLeDiff, Nat.zero_add, Nat.add_zero, Nat.zero_le, true_and, and_true, not_false_eq_true, ne_eq, Int.reduceNeg, Int.reduceEq, Int.reduceNe, Int.reduceLT, Int.reduceLE, le_refl', List.setIfInBounds_toArray, Nat.reduceLT, Array.size_setIfInBounds, if_true, if_false, reduceCtorEq, List.toArray_toList', List.drop_succ_cons, List.drop_zero, List.take_succ_cons, List.take_zero, List.nil_append, List.append_nil, List.cons_append, Bool.and_true, Bool.true_and, Bool.or_false, Bool.false_or, Bool.and_false, Bool.or_true, Bool.true_or, Bool.false_and, eq_self, pLoad_cell (hs.cell0 rfl)]
  refine Sl.str (ho.sl (by decide)) ?_
  refine ho.cut0 fun v1 o1 k1 => ?_
  have hv1 : blkOf v1 ≠ some b := by rw [k1]; exact hne
  refine pStore_sub0 (F := none_) (n := 3) hs rfl (by simp) (own_one o1) fun H1 s1 hs1 c1 => ?_
  have h := h H1 v1 ⟨⟨[], acc, n, hs1, c1.own o1 hv1 (fun _ _ h => h), ?_, ha, hn⟩, hv1, by rw [List.length_drop]; omega⟩ (c1.any.weak (fun _ h => h) (fun k hk => .inl (by
    have hk' : blkOf v1 = some k := hk
    rw [k1] at hk'; exact hk')))
  · rw [he, toBytes_toBits D _ (by rw [bitsN_len]; omega)] at h
    exact h
  · rw [hl, show (8 * D.length + n) / 8 = D.length by omega, he, ← toBits_len D, List.drop_append_of_le_length (Nat.le_refl _), List.drop_of_length_le (Nat.le_refl _)]
    rfl
end Go.Proofs.YtameljhbkedhjaaGreatDoor
namespace Go.Proofs.YtameljhbkedhjaaGreatDoor
open Go Go.Vc Go.Proofs
set_option linter.unusedVariables false
set_option linter.unusedSimpArgs false
variable {H : Heap} {B : List Bool}
def wrT (b : Nat) (dv : Value) (B : List Bool) : Thing where
  foot k := k = b ∨ blkOf dv = some k
  holds H := Wr H b 0 dv B
  frame := fun h hf => by
    obtain ⟨⟨D, acc, n, g1, g2, g3⟩, g4, g5⟩ := h
    have hi : It.holds _ (.sl dv 1 (D.map byteV)) := ⟨by decide, g2⟩
    exact ⟨⟨D, acc, n, g1.same (hf b (.inl rfl)), (It.frame hi fun k hk => hf k (.inr hk)).2, g3⟩, g4, g5⟩
  lt := fun h hf => by
    rcases hf with rfl | hf
    · exact h.lt
    · exact h.live _ hf
theorem owns_wr {H0 H' : Heap} {L L' : List It} {b : Nat} {dv dv' : Value} {B' : List Bool} (o : Owns H0 H L) (w : Wr H' b 0 dv' B') (c : Chg b 0 3 (blkS dv) (blkS dv') H H') (hr : Rep (.thing (wrT b dv B)) (.thing (wrT b dv' B')) L L') : Owns H0 H' L' :=
  o.turn hr c.size (fun k hk hf => c.ne k hk (fun h => hf (.inl h)) (fun h => hf (.inr h))) w (fun k hk => by
    rcases hk with hk | hk
    · exact .inl (.inl hk)
    · rcases c.new k hk with h | h
      · exact .inl (.inr h)
      · exact .inr h)
theorem wr_at {H0 : Heap} {L : List It} {b : Nat} {dv : Value} (o : Owns H0 H L) (h : It.thing (wrT b dv B) ∈ L) : Wr H b 0 dv B := o.thing h
theorem wr_new {H0 : Heap} {L : List It} {b : Nat} {t : TypeId} (o : Owns H0 H (.box b [.slice none 0 0, .int .u64 0, .int .i64 0] t :: L)) : Owns H0 H (.thing (wrT b (.slice none 0 0) []) :: L) := by
  have hb := o.blk (b := b) List.mem_cons_self
  exact o.turn Rep.here (Nat.le_refl _) (fun _ _ _ => rfl) (Wr.new (Sub.all hb)) (fun k hk => by
    rcases hk with rfl | hk
    · exact .inl rfl
    · simp [blkOf] at hk)
theorem padB_ext7 (B : List Bool) : ∃ r, padB B = B ++ r ∧ r.length < 8 := ⟨_, rfl, by simp; omega⟩
end Go.Proofs.YtameljhbkedhjaaGreatDoor
namespace Go.Proofs.YtameljhbkedhjaaGreatDoor
open Go Go.Vc Go.Proofs
set_option linter.unusedVariables false
set_option linter.unusedSimpArgs false
variable {H H0 H' : Heap} {R : Value → Heap → Prop} {v : Value} {L : List It} {zs : List Int} {b : Nat} {B : List Bool}
theorem wbitsG {n : Nat} {k : Nat} {dv : Value} (hv : n < 18446744073709551616) (hk : k ≤ 32) (hbig : B.length ≤ 1000000000) (o : Owns H0 H (.thing (wrT b dv B) :: L)) (h : ∀ H' dv', Owns H0 H' (.thing (wrT b dv' (B ++ bitsN n k)) :: L) → R (.tuple #[]) H') : CallsH Tryz.prog 22 #[at_ b 0, .int .u64 (n : Int), .int .i64 (k : Int)] H R := by
  by_cases h0 : 1 ≤ k
  · exact wWrite_spec hv h0 hk (wr_at o (by repeat (first | exact List.mem_cons_self | apply List.mem_cons_of_mem))) (by omega) fun H1 dv1 w c => h H1 dv1 (owns_wr o w c Rep.here)
  · have : k = 0 := by omega
    subst this
    exact wWrite_no (by omega) (h H dv (by rw [bitsN_zero, List.append_nil]; exact o))
theorem cwrite_spec {s : Nat} {p dv : Value} (hc : HasC L zs p) (hw : hasW zs s) (hbig : B.length ≤ 1000000000) (o : Owns H0 H (.thing (wrT b dv B) :: L)) (h : ∀ H' dv', Owns H0 H' (.thing (wrT b dv' (B ++ wordB (natL zs) s)) :: L) → R (.tuple #[]) H') :
    CallsH Tryz.prog 14 #[p, at_ b 0, .int .i64 (s : Int)] H R := by
  obtain ⟨hz, cb, lv, wv, sv, rfl, hm⟩ := hc
  have hle := ok_le hz.1
  refine canon_Code_Write.vc _ _ _ _ _ ?_
  unfold canon_Code_Write.res
  refine word_spec o (lv := lv) (wv := wv) (sv := sv) (List.mem_cons_of_mem _ (hm (.box cb (codeCells lv wv (countsL (natL zs)) sv) 90 ) List.mem_cons_self)) (List.mem_cons_of_mem _ (hm (.sl wv 2 (wordsV (natL zs))) (by simp [codeIts]))) hz.1.1 ?_
  refine pExtract_to rfl ?_
  refine pExtract_to rfl ?_
  have hs : s < (natL zs).length := by rw [natL_len]; exact hw.1
  rw [wordP_in hs]
  have h15 := getD_le hle s
  have hcl := code_pow hz.2 hle hs hw.2
  have hrv : revN (codeL (natL zs) s) ((natL zs).getD s 0) < 2 ^ 15 := Nat.lt_of_lt_of_le (revN_lt _ _) (Nat.pow_le_pow_right (by decide) h15)
  refine wbitsG (by omega) (by omega) hbig o fun H1 dv1 o1 => ?_
  exact h H1 dv1 o1
theorem idx_kind {sz : Nat} {k k' : IntKind} {i : Int} {K : Value → Prop} : pIdxSl sz v (.int k i) K = pIdxSl sz v (.int k' i) K := by
  cases v <;> try rfl
  rename_i a n c
  cases a <;> rfl
structure CntOk (G : List Tok) (cs ds : List Int) : Prop where
  cl : cs.length = 286
  dl : ds.length = 30
  cr : ∀ z ∈ cs, 0 ≤ z ∧ z ≤ (G.length : Int) + 1
  dr : ∀ z ∈ ds, 0 ≤ z ∧ z ≤ (G.length : Int) + 1
  ce : 1 ≤ cs.getD 256 0
  ct : ∀ t ∈ G, if t.n = 0 then 1 ≤ cs.getD t.b.toNat 0 else 1 ≤ cs.getD (symL t.n).toNat 0 ∧ 1 ≤ ds.getD (symD t.d).toNat 0
theorem inc_get {cs : List Int} {a : Nat} (ha : a < cs.length) (s : Nat) : (cs.set a (cs[a] + 1)).getD s 0 = if s = a then cs[a] + 1 else cs.getD s 0 := by
  rw [List.getD_eq_getElem?_getD, List.getElem?_set]
  by_cases e : a = s
  · subst e; rw [if_pos rfl, if_pos ha, if_pos rfl]; rfl
  · rw [if_neg e, if_neg (fun h => e h.symm), List.getD_eq_getElem?_getD]
theorem inc_le {cs : List Int} {a : Nat} (ha : a < cs.length) (s : Nat) : cs.getD s 0 ≤ (cs.set a (cs[a] + 1)).getD s 0 := by
  rw [inc_get ha]
  split
  · rename_i e; subst e; rw [List.getD_eq_getElem?_getD, List.getElem?_eq_getElem ha]; show cs[s] ≤ _; omega
  · exact Int.le_refl _
theorem inc_rng {cs : List Int} {a : Nat} {N : Int} (ha : a < cs.length) (h : ∀ z ∈ cs, 0 ≤ z ∧ z ≤ N) : ∀ z ∈ cs.set a (cs[a] + 1), 0 ≤ z ∧ z ≤ N + 1 := fun z hz => by
  rcases List.mem_or_eq_of_mem_set hz with hz | rfl
  · have := h z hz; omega
  · have := h _ (List.getElem_mem ha); omega
theorem rng_up {cs : List Int} {N : Int} (h : ∀ z ∈ cs, 0 ≤ z ∧ z ≤ N) : ∀ z ∈ cs, 0 ≤ z ∧ z ≤ N + 1 := fun z hz => by have := h z hz; omega
theorem inc_spec {y : Value} {cs : List Int} {a : Nat} {N : Int} {M : List It} {kd : IntKind} {K : Value → Heap → Prop} (o : Owns H0 H L) (hin : It.sl y 1 (numsV cs) ∈ L) (ha : a < cs.length) (hr : ∀ z ∈ cs, 0 ≤ z ∧ z ≤ N) (hN : N ≤ 1000000)
    (hrep : Rep (.sl y 1 (numsV cs)) (.sl y 1 (numsV (cs.set a (cs[a] + 1)))) L M) (hk : ∀ H', Owns H0 H' M → K undef H') :
    pIdxSl 1 y (.int kd (a : Int)) fun x24 => pLoad H x24 fun x25 => pAdd x25 (.int .i64 1) fun x26 => pIdxSl 1 y (.int kd (a : Int)) fun x27 => pStore H x27 x26 K := by
  have hyl : (numsV cs).length = cs.length * 1 := by rw [numsV_len]; omega
  have hy := o.sl hin
  have hra := hr _ (List.getElem_mem ha)
  rw [idx_kind (k' := .i64)]
  refine hy.at_ hyl (by decide) (by omega) (by omega) fun p hp => ?_
  refine hp.load hy (w := .int .i64 cs[a]) (by rw [Int.toNat_natCast, Nat.mul_one, numsV_get ha]) ?_
  rw [pAdd_v, w64 (by omega) (by omega), idx_kind (k' := .i64)]
  refine hy.at_ hyl (by decide) (by omega) (by omega) fun p hp => ?_
  rw [Int.toNat_natCast, Nat.mul_one] at hp
  exact o.store hp hin (by rw [numsV_len]; exact ha) rfl (by rw [numsV_set]; exact hrep) fun H' o' _ => hk H' o'
theorem pField1_to {vs : List Value} {x : Value} {i : Nat} {K : Value → Prop} (hv : vs[i]? = some x) (h : K x) : pField1 i (.agg vs.toArray) K := by rw [pField1_v, hv]; exact h
theorem symL_nat {n : Int} (h0 : 3 ≤ n) (h1 : n ≤ 258) : ∃ s : Nat, symL n = s ∧ 257 ≤ s ∧ s ≤ 285 := by
  have := symL_facts h0 h1
  exact ⟨(symL n).toNat, by omega, by omega, by omega⟩
theorem symD_nat {n : Int} (h0 : 1 ≤ n) (h1 : n ≤ 32768) : ∃ s : Nat, symD n = s ∧ s ≤ 29 := by
  have := symD_facts h0 h1
  exact ⟨(symD n).toNat, by omega, by omega⟩
theorem counts_spec {G : List Tok} (hs : Sl H v 3 (toksL G)) (hlen : G.length ≤ 65535) (hg : ∀ t ∈ G, goodK t = true) (h : ∀ y z cs ds H', CntOk G cs ds → Owns H H' [.sl y 1 (numsV cs), .sl z 1 (numsV ds)] → R (.tuple #[y, z]) H') : CallsH Tryz.prog 54 #[v] H R := by
  have hvl := toksL_len G
  refine block_counts.vc _ _ _ ?_
  unfold block_counts.res
  refine ⟨fun y z H' => Owns H H' [.sl y 1 (numsV (List.replicate 286 0)), .sl z 1 (numsV (List.replicate 30 0))], ?_, ?_, ?_⟩
  · intro _ y z H1 o
    refine (o.sl (v := y) (by repeat (first | exact List.mem_cons_self | apply List.mem_cons_of_mem))).at_ (n := 286) (by rw [numsV_len, List.length_replicate]) (by decide) (by decide) (by decide) fun p hp => ?_
    refine o.store (j := 256) hp (by repeat (first | exact List.mem_cons_self | apply List.mem_cons_of_mem)) (by rw [numsV_len, List.length_replicate]; decide) rfl (by repeat (first | exact Rep.here | apply Rep.there)) fun H2 o2 _ => ?_
    rw [numsV_set] at o2
    refine hs.len hvl (by decide) ?_
    refine ⟨fun i H' => ∃ (k : Nat) (cs ds : List Int), i = .int .i64 k ∧ k ≤ G.length ∧ CntOk (G.take k) cs ds ∧ Owns H H' [.sl y 1 (numsV cs), .sl z 1 (numsV ds)], fun i _ => match i with | .int _ x => (G.length - x).toNat | _ => 0,
      ⟨0, _, _, rfl, by omega, ⟨by rw [List.length_set, List.length_replicate], List.length_replicate, ?_, ?_, ?_, fun t ht => by simp at ht⟩, o2⟩, ?_⟩
    · intro q hq
      rcases List.mem_or_eq_of_mem_set hq with hq | rfl
      · rw [List.eq_of_mem_replicate hq, List.take_zero]; decide
      · rw [List.take_zero]; decide
    · intro q hq; rw [List.eq_of_mem_replicate hq, List.take_zero]; decide
    · rw [List.getD_eq_getElem?_getD, List.getElem?_set_self (by rw [List.length_replicate]; decide)]; decide
    rintro _ _ H3 ⟨k, cs, ds, rfl, hk, c, o⟩
    rw [pLt_v]
    refine pCond_if (fun hc => ?_) (fun hc => ?_)
    · have hkn : k < G.length := by omega
      have hat := toksL_at G k _ (List.getElem?_eq_getElem hkn)
      have htk : G.take (k + 1) = G.take k ++ [G[k]] := by rw [List.take_add_one, List.getElem?_eq_getElem hkn]; rfl
      have hgk := hg _ (List.getElem_mem hkn)
      have hkl : (G.take k).length = k := by rw [List.length_take]; omega
      generalize G[k] = t at hat htk hgk
      have hs1 := hs.ext o.ext
      refine hs1.at_ hvl (by decide) (by omega) (by omega) fun p hp => ?_
      rw [Int.toNat_natCast] at hp
      refine hp.loadN hs1 (ws := t.cells) hat rfl ?_
      refine o.box fun tb H4 o4 _ => ?_
      refine o4.bstoreN (vs := t.cells) (by repeat (first | exact List.mem_cons_self | apply List.mem_cons_of_mem)) rfl rfl rfl (by repeat (first | exact Rep.here | apply Rep.there)) fun H5 o5 _ => ?_
      rw [pFieldAddr_v, add_mk]
      refine o5.bload (b := tb) (f := 0 + 1) (w := .int .i64 t.n) (by repeat (first | exact List.mem_cons_self | apply List.mem_cons_of_mem)) rfl ?_
      rw [pEq_0]
      have hcl := c.cl; have hdl := c.dl
      have cr := c.cr; have dr := c.dr
      rw [hkl] at cr dr
      refine pCond_if (fun h0 => ?_) (fun h0 => ?_)
      · have hx := t.b.toNat_lt
        rw [pFieldAddr_v, add_mk]
        refine o5.bload (b := tb) (f := 0 + 0) (w := byteV t.b) (by repeat (first | exact List.mem_cons_self | apply List.mem_cons_of_mem)) rfl ?_
        refine inc_spec (a := t.b.toNat) (kd := .u8) o5 (by repeat (first | exact List.mem_cons_self | apply List.mem_cons_of_mem)) (by omega) cr (by omega) (by repeat (first | exact Rep.here | apply Rep.there)) fun H6 o6 => ?_
        rw [pAdd_v, w64 (by omega) (by omega)]
        refine ⟨⟨k + 1, cs.set t.b.toNat (cs[t.b.toNat]'(by omega) + 1), ds, rfl, by omega, ⟨by rw [List.length_set]; exact hcl, hdl, ?_, ?_, ?_, ?_⟩, o6.arr (by repeat (first | exact Sels.nil | exact Sel.here | apply Sels.cons | apply Sel.there))⟩, by show (_ : Int).toNat < (_ : Int).toNat; omega⟩
        · rw [htk, List.length_append, hkl]; exact inc_rng (by omega) cr
        · rw [htk, List.length_append, hkl]; exact rng_up dr
        · have := inc_le (cs := cs) (a := t.b.toNat) (by omega) 256; have := c.ce; omega
        · intro u hu
          rw [htk] at hu
          rcases List.mem_append.1 hu with hu | hu
          · have := c.ct u hu
            split at this
            · rename_i e; rw [if_pos e]; have := inc_le (cs := cs) (a := t.b.toNat) (by omega) u.b.toNat; omega
            · rename_i e; rw [if_neg e]; have h5 := inc_le (cs := cs) (a := t.b.toNat) (by omega) (symL u.n).toNat; exact ⟨by omega, this.2⟩
          · rw [List.mem_singleton.1 hu, if_pos h0, inc_get (by omega), if_pos rfl]
            have := cr _ (List.getElem_mem (show t.b.toNat < cs.length by omega)); omega
      · rcases goodK_facts hgk with ⟨h, _⟩ | ⟨h1, h2, h3, h4⟩
        · exact absurd h h0
        obtain ⟨s, es, s1, s2⟩ := symL_nat h1 h2
        obtain ⟨d, ed, d1⟩ := symD_nat h3 h4
        rw [pFieldAddr_v, add_mk]
        refine o5.bload (b := tb) (f := 0 + 1) (w := .int .i64 t.n) (by repeat (first | exact List.mem_cons_self | apply List.mem_cons_of_mem)) rfl ?_
        refine length_spec fun H6 hx6 => ?_
        unfold lenX
        rw [if_neg (by omega), es]
        unfold exv
        refine pField1_to rfl ?_
        refine inc_spec (a := s) (kd := .i64) (o5.more hx6) (by repeat (first | exact List.mem_cons_self | apply List.mem_cons_of_mem)) (by omega) cr (by omega) (by repeat (first | exact Rep.here | apply Rep.there)) fun H7 o7 => ?_
        rw [pFieldAddr_v, add_mk]
        refine o7.bload (b := tb) (f := 0 + 2) (w := .int .i64 t.d) (by repeat (first | exact List.mem_cons_self | apply List.mem_cons_of_mem)) rfl ?_
        refine dist_spec fun H8 hx8 => ?_
        unfold distX
        rw [if_neg (by omega), ed]
        unfold exv
        refine pField1_to rfl ?_
        refine inc_spec (a := d) (kd := .i64) (o7.more hx8) (by repeat (first | exact List.mem_cons_self | apply List.mem_cons_of_mem)) (by omega) dr (by omega) (by repeat (first | exact Rep.here | apply Rep.there)) fun H9 o9 => ?_
        rw [pAdd_v, w64 (by omega) (by omega)]
        refine ⟨⟨k + 1, cs.set s (cs[s]'(by omega) + 1), ds.set d (ds[d]'(by omega) + 1), rfl, by omega, ⟨by rw [List.length_set]; exact hcl, by rw [List.length_set]; exact hdl, ?_, ?_, ?_, ?_⟩, o9.arr (by repeat (first | exact Sels.nil | exact Sel.here | apply Sels.cons | apply Sel.there))⟩, by show (_ : Int).toNat < (_ : Int).toNat; omega⟩
        · rw [htk, List.length_append, hkl]; exact inc_rng (by omega) cr
        · rw [htk, List.length_append, hkl]; exact inc_rng (by omega) dr
        · have := inc_le (cs := cs) (a := s) (by omega) 256; have := c.ce; omega
        · intro u hu
          rw [htk] at hu
          rcases List.mem_append.1 hu with hu | hu
          · have := c.ct u hu
            split at this
            · rename_i e; rw [if_pos e]; have := inc_le (cs := cs) (a := s) (by omega) u.b.toNat; omega
            · rename_i e; rw [if_neg e]; have h5 := inc_le (cs := cs) (a := s) (by omega) (symL u.n).toNat; have h6 := inc_le (cs := ds) (a := d) (by omega) (symD u.d).toNat; exact ⟨by omega, by omega⟩
          · rw [List.mem_singleton.1 hu, if_neg h0, es, ed, Int.toNat_natCast, Int.toNat_natCast, inc_get (by omega), if_pos rfl, inc_get (by omega), if_pos rfl]
            have := cr _ (List.getElem_mem (show s < cs.length by omega)); have := dr _ (List.getElem_mem (show d < ds.length by omega)); omega
    · have hkG : k = G.length := by omega
      rw [hkG, List.take_length] at c
      exact h _ _ _ _ _ c o
  · refine (Owns.start (H := H)).make1 (by decide) (by decide) (by decide) fun y H1 o1 => ?_
    refine o1.make1 (by decide) (by decide) (by decide) fun z H2 o2 => ?_
    rw [numsV_rep, numsV_rep] at o2
    exact o2.arr (by repeat (first | exact Sels.nil | exact Sel.here | apply Sels.cons | apply Sel.there))
  · refine (Owns.start (H := H)).make1 (by decide) (by decide) (by decide) fun z H1 o1 => ?_
    refine o1.make1 (by decide) (by decide) (by decide) fun y H2 o2 => ?_
    rw [numsV_rep, numsV_rep] at o2
    exact o2.arr (by repeat (first | exact Sels.nil | exact Sel.here | apply Sels.cons | apply Sel.there))
end Go.Proofs.YtameljhbkedhjaaGreatDoor
namespace Go.Proofs.YtameljhbkedhjaaGreatDoor
open Go Go.Vc Go.Proofs
set_option linter.unusedVariables false
set_option linter.unusedSimpArgs false
variable {H H0 H' : Heap} {R : Value → Heap → Prop} {v : Value} {L : List It} {zs : List Int} {b : Nat} {B : List Bool}
theorem bits_pow (k : Nat) : ((2 ^ k : Nat) : Int) = 2 ^ k := by push_cast; rfl
theorem lenX_ex {n : Int} (h0 : 3 ≤ n) (h1 : n ≤ 258) : ∃ s e x : Nat, symL n = s ∧ lenX n = .agg ([.int .i64 (s : Int), .int .i64 (e : Int), .int .u64 (x : Int)] : List Value).toArray ∧ lenX2 n = bitsN x e ∧ e ≤ 5 ∧ x < 2 ^ e := by
  obtain ⟨f1, f2, f3, f4, f5, f6⟩ := symL_facts h0 h1
  obtain ⟨s, hs⟩ : ∃ s : Nat, symL n = s := ⟨(symL n).toNat, by omega⟩
  rw [hs] at f1 f2 f3 f4 f5 f6
  rw [← bits_pow] at f4
  have l0 : 0 ≤ (lenOf (s : Int)).1 := by
    have := len_low ⟨s - 257, by omega⟩
    dsimp only at this
    rwa [show (257 : Int) + ((s - 257 : Nat) : Int) = (s : Int) by omega] at this
  refine ⟨s, (lenOf (s : Int)).2.toNat, (n - (lenOf (s : Int)).1).toNat, hs, ?_, by unfold lenX2; rw [hs], by omega, by omega⟩
  unfold lenX exv
  rw [if_neg (by omega), hs, w64 (by omega) (by omega), wu64 (by omega) (by omega), show (((lenOf (s : Int)).2.toNat : Nat) : Int) = (lenOf (s : Int)).2 by omega, show (((n - (lenOf (s : Int)).1).toNat : Nat) : Int) = n - (lenOf (s : Int)).1 by omega]
theorem dstX_ex {n : Int} (h0 : 1 ≤ n) (h1 : n ≤ 32768) : ∃ s e x : Nat, symD n = s ∧ distX n = .agg ([.int .i64 (s : Int), .int .i64 (e : Int), .int .u64 (x : Int)] : List Value).toArray ∧ dstX2 n = bitsN x e ∧ e ≤ 13 ∧ x < 2 ^ e := by
  obtain ⟨f1, f2, f3, f4, f5, f6⟩ := symD_facts h0 h1
  obtain ⟨s, hs⟩ : ∃ s : Nat, symD n = s := ⟨(symD n).toNat, by omega⟩
  rw [hs] at f1 f2 f3 f4 f5 f6
  rw [← bits_pow] at f4
  have l0 : 0 ≤ (distOf (s : Int)).1 := dist_low ⟨s, by omega⟩
  refine ⟨s, (distOf (s : Int)).2.toNat, (n - (distOf (s : Int)).1).toNat, hs, ?_, by unfold dstX2; rw [hs], by omega, by omega⟩
  unfold distX exv
  rw [if_neg (by omega), hs, w64 (by omega) (by omega), wu64 (by omega) (by omega), show (((distOf (s : Int)).2.toNat : Nat) : Int) = (distOf (s : Int)).2 by omega, show (((n - (distOf (s : Int)).1).toNat : Nat) : Int) = n - (distOf (s : Int)).1 by omega]
theorem wordB_le {zs : List Int} (hz : okC zs) (s : Nat) : (wordB (natL zs) s).length ≤ 15 := by rw [wordB_len]; exact getD_le (ok_le hz.1) s
theorem _root_.Go.Vc.Owns.tl {i : It} (o : Owns H0 H (i :: L)) : Owns H0 H L := o.pick (List.Sublist.cons _ (List.Sublist.refl _))
theorem tokens_spec {G : List Tok} {lv dv ps pd : Value} {rest : List Value} {cb : Nat} {ct : TypeId} {sy di : List Int} (hl : It.sl lv 3 (toksL G) ∈ L) (hcb : It.box cb (ps :: pd :: rest) ct ∈ L) (hsy : HasC L sy ps) (hdi : HasC L di pd) (he : hasW sy 256)
    (hG : ∀ t ∈ G, goodK t = true ∧ hasT sy di t) (hlen : G.length ≤ 65535) (hbig : B.length ≤ 500000000) (o : Owns H0 H (.thing (wrT b dv B) :: L)) (h : ∀ H' dv', Owns H0 H' (.thing (wrT b dv' (B ++ toksG sy di G)) :: L) → R (.tuple #[]) H') :
    CallsH Tryz.prog 26 #[.pointer (some ⟨cb, 0, none⟩), at_ b 0, lv] H R := by
  have hvl := toksL_len G
  refine block_coder_tokens.vc _ _ _ _ _ ?_
  unfold block_coder_tokens.res
  refine (o.sl (v := lv) (List.mem_cons_of_mem _ hl)).len hvl (by decide) ?_
  refine ⟨fun i H' => ∃ (k : Nat) (dv' : Value), i = .int .i64 k ∧ k ≤ G.length ∧ ((G.take k).flatMap (tokG sy di)).length ≤ 50 * k ∧ Owns H0 H' (.thing (wrT b dv' (B ++ (G.take k).flatMap (tokG sy di))) :: L), fun i _ => match i with | .int _ x => (G.length - x).toNat | _ => 0, ⟨0, dv, rfl, by omega, by simp, by simpa using o⟩, ?_⟩
  rintro _ _ H1 ⟨k, dv1, rfl, hk, hbl, o⟩
  rw [pLt_v]
  refine pCond_if (fun hc => ?_) (fun hc => ?_)
  · have hkn : k < G.length := by omega
    have hat := toksL_at G k _ (List.getElem?_eq_getElem hkn)
    have htk : (G.take (k + 1)).flatMap (tokG sy di) = (G.take k).flatMap (tokG sy di) ++ tokG sy di G[k] := by rw [List.take_add_one, List.getElem?_eq_getElem hkn, List.flatMap_append]; simp
    obtain ⟨hgk, hhk⟩ := hG _ (List.getElem_mem hkn)
    have hsl := o.sl (v := lv) (List.mem_cons_of_mem _ hl)
    generalize G[k] = t at hat htk hgk hhk
    generalize (G.take k).flatMap (tokG sy di) = X at o hbl htk
    refine hsl.at_ hvl (by decide) (by omega) (by omega) fun p hp => ?_
    rw [Int.toNat_natCast] at hp
    refine hp.loadN hsl (ws := t.cells) hat rfl ?_
    refine o.box fun tb H4 o _ => ?_
    refine o.bstoreN (vs := t.cells) (by repeat (first | exact List.mem_cons_self | apply List.mem_cons_of_mem)) rfl rfl rfl (by repeat (first | exact Rep.here | apply Rep.there)) fun H5 o _ => ?_
    rw [pFieldAddr_v, add_mk]
    refine o.bload (b := tb) (f := 0 + 1) (w := .int .i64 t.n) (by repeat (first | exact List.mem_cons_self | apply List.mem_cons_of_mem)) rfl ?_
    rw [pEq_0]
    unfold hasT at hhk
    refine pCond_if (fun h0 => ?_) (fun h0 => ?_)
    · rw [if_pos h0] at hhk
      have hx := t.b.toNat_lt
      have etk : tokG sy di t = wordB (natL sy) t.b.toNat := by unfold tokG; rw [if_pos h0]
      have hw := wordB_le hsy.1 t.b.toNat
      rw [pNil_v, pFieldAddr_v, add_mk]
      refine o.bload (b := cb) (f := 0 + 0) (cs := ps :: pd :: rest) (t := ct) (w := ps) (by simp [hcb]) rfl ?_
      rw [pFieldAddr_v, add_mk]
      refine o.bload (b := tb) (f := 0 + 0) (w := byteV t.b) (by repeat (first | exact List.mem_cons_self | apply List.mem_cons_of_mem)) rfl ?_
      refine pConv_to ?_
      rw [w64 (by omega) (by omega)]
      have o2 := o.tl
      refine cwrite_spec (s := t.b.toNat) hsy hhk (by rw [List.length_append]; omega) o2 fun H6 dv6 o6 => ?_
      rw [pAdd_v, w64 (by omega) (by omega)]
      exact ⟨⟨k + 1, dv6, rfl, by omega, by rw [htk, List.length_append, etk]; omega, by rw [htk, etk, ← List.append_assoc]; exact o6⟩, by show (_ : Int).toNat < (_ : Int).toNat; omega⟩
    · rw [if_neg h0] at hhk
      rcases goodK_facts hgk with ⟨h, _⟩ | ⟨h1, h2, h3, h4⟩
      · exact absurd h h0
      obtain ⟨s, e, x, es, el, eb, he5, hx5⟩ := lenX_ex h1 h2
      obtain ⟨d, f, z, ed, edl, edb, hf13, hz13⟩ := dstX_ex h3 h4
      rw [es, ed, Int.toNat_natCast, Int.toNat_natCast] at hhk
      have etk : tokG sy di t = wordB (natL sy) s ++ (bitsN x e ++ (wordB (natL di) d ++ bitsN z f)) := by unfold tokG; rw [if_neg h0, es, ed, Int.toNat_natCast, Int.toNat_natCast, eb, edb]
      have hw1 := wordB_le hsy.1 s
      have hw2 := wordB_le hdi.1 d
      have hp1 : 2 ^ e ≤ 2 ^ 5 := Nat.pow_le_pow_right (by decide) he5
      have hp2 : 2 ^ f ≤ 2 ^ 13 := Nat.pow_le_pow_right (by decide) hf13
      refine ⟨fun x8 y9 H' => ∃ b8 b9 : Nat, x8 = .pointer (some ⟨b8, 0, none⟩) ∧ y9 = .pointer (some ⟨b9, 0, none⟩) ∧ Owns H0 H' (.box b8 [.int .i64 (s : Int), .int .i64 (e : Int), .int .u64 (x : Int)] 106 :: .box b9 [.int .i64 (d : Int), .int .i64 (f : Int), .int .u64 (z : Int)] 106 :: .box tb t.cells 32 :: .thing (wrT b dv1 (B ++ X)) :: L), ?_, ?_⟩
      · rintro _ _ _ H8 ⟨b8, b9, rfl, rfl, o⟩
        rw [pNil_v, pFieldAddr_v, add_mk]
        refine o.bload (b := cb) (f := 0 + 0) (cs := ps :: pd :: rest) (t := ct) (w := ps) (by simp [hcb]) rfl ?_
        rw [pFieldAddr_v, add_mk]
        refine o.bload (b := b8) (f := 0 + 0) (w := .int .i64 (s : Int)) (by repeat (first | exact List.mem_cons_self | apply List.mem_cons_of_mem)) rfl ?_
        have o2 := o.arrT (L' := .thing (wrT b dv1 (B ++ X)) :: .box b8 [.int .i64 (s : Int), .int .i64 (e : Int), .int .u64 (x : Int)] 106 :: .box b9 [.int .i64 (d : Int), .int .i64 (f : Int), .int .u64 (z : Int)] 106 :: .box tb t.cells 32 :: L) (by repeat (first | exact SelsT.refl | exact Sel.here | apply SelsT.cons | apply Sel.there))
        refine cwrite_spec (s := s) hsy.cons.cons.cons hhk.1 (by rw [List.length_append]; omega) o2 fun H9 dv9 o => ?_
        rw [pFieldAddr_v, add_mk]
        refine o.bload (b := b8) (f := 0 + 2) (w := .int .u64 (x : Int)) (by repeat (first | exact List.mem_cons_self | apply List.mem_cons_of_mem)) rfl ?_
        rw [pFieldAddr_v, add_mk]
        refine o.bload (b := b8) (f := 0 + 1) (w := .int .i64 (e : Int)) (by repeat (first | exact List.mem_cons_self | apply List.mem_cons_of_mem)) rfl ?_
        refine wbitsG (n := x) (k := e) (by omega) (by omega) (by simp only [List.length_append]; omega) o fun H10 dv10 o => ?_
        rw [pNil_v, pFieldAddr_v, add_mk]
        refine o.bload (b := cb) (f := 0 + 1) (cs := ps :: pd :: rest) (t := ct) (w := pd) (by simp [hcb]) rfl ?_
        rw [pFieldAddr_v, add_mk]
        refine o.bload (b := b9) (f := 0 + 0) (w := .int .i64 (d : Int)) (by repeat (first | exact List.mem_cons_self | apply List.mem_cons_of_mem)) rfl ?_
        refine cwrite_spec (s := d) hdi.cons.cons.cons hhk.2 (by simp only [List.length_append, bitsN_len]; omega) o fun H11 dv11 o => ?_
        rw [pFieldAddr_v, add_mk]
        refine o.bload (b := b9) (f := 0 + 2) (w := .int .u64 (z : Int)) (by repeat (first | exact List.mem_cons_self | apply List.mem_cons_of_mem)) rfl ?_
        rw [pFieldAddr_v, add_mk]
        refine o.bload (b := b9) (f := 0 + 1) (w := .int .i64 (f : Int)) (by repeat (first | exact List.mem_cons_self | apply List.mem_cons_of_mem)) rfl ?_
        refine wbitsG (n := z) (k := f) (by omega) (by omega) (by simp only [List.length_append, bitsN_len]; omega) o fun H12 dv12 o => ?_
        rw [pAdd_v, w64 (by omega) (by omega)]
        refine ⟨⟨k + 1, dv12, rfl, by omega, by rw [htk, List.length_append, etk]; simp only [List.length_append, bitsN_len]; omega, ?_⟩, by show (_ : Int).toNat < (_ : Int).toNat; omega⟩
        rw [htk, etk]
        simp only [List.append_assoc] at o ⊢
        exact o.pick (List.Sublist.cons_cons _ (List.Sublist.cons _ (List.Sublist.cons _ (List.Sublist.cons _ (List.Sublist.refl _)))))
      · rw [pFieldAddr_v, add_mk]
        refine o.bload (b := tb) (f := 0 + 1) (w := .int .i64 t.n) (by repeat (first | exact List.mem_cons_self | apply List.mem_cons_of_mem)) rfl ?_
        rw [pFieldAddr_v, add_mk]
        refine o.bload (b := tb) (f := 0 + 2) (w := .int .i64 t.d) (by repeat (first | exact List.mem_cons_self | apply List.mem_cons_of_mem)) rfl ?_
        repeat' (first
          | with_reducible refine And.intro ?_ ?_
          | (with_reducible refine length_spec fun Hx hx => ?_; rw [el]; replace o := o.more hx)
          | (with_reducible refine dist_spec fun Hx hx => ?_; rw [edl]; replace o := o.more hx)
          | with_reducible refine o.box fun bb Hx o _ => ?_
          | exact o.bload (b := tb) (by repeat (first | exact List.mem_cons_self | apply List.mem_cons_of_mem)) rfl rfl
          | with_reducible refine o.bstoreN (vs := [.int .i64 (s : Int), .int .i64 (e : Int), .int .u64 (x : Int)]) (by repeat (first | exact List.mem_cons_self | apply List.mem_cons_of_mem)) rfl rfl rfl (by repeat (first | exact Rep.here | apply Rep.there)) fun Hx o _ => ?_
          | with_reducible refine o.bstoreN (vs := [.int .i64 (d : Int), .int .i64 (f : Int), .int .u64 (z : Int)]) (by repeat (first | exact List.mem_cons_self | apply List.mem_cons_of_mem)) rfl rfl rfl (by repeat (first | exact Rep.here | apply Rep.there)) fun Hx o _ => ?_
          | exact ⟨_, _, rfl, rfl, o.arrT (by repeat (first | exact SelsT.refl | exact Sel.here | apply SelsT.cons | apply Sel.there))⟩)
  · have hkG : k = G.length := by omega
    rw [hkG, List.take_length] at o hbl
    rw [pNil_v, pFieldAddr_v, add_mk]
    refine o.bload (b := cb) (f := 0 + 0) (cs := ps :: pd :: rest) (t := ct) (w := ps) (by simp [hcb]) rfl ?_
    refine cwrite_spec (s := 256) hsy he (by rw [List.length_append]; omega) o fun H6 dv6 o6 => ?_
    refine h H6 dv6 ?_
    unfold toksG
    rw [← List.append_assoc]
    exact o6
end Go.Proofs.YtameljhbkedhjaaGreatDoor
namespace Go.Proofs.YtameljhbkedhjaaGreatDoor
open Go Go.Vc Go.Proofs
set_option linter.unusedVariables false
set_option linter.unusedSimpArgs false
variable {H H0 H' : Heap} {R : Value → Heap → Prop} {v : Value} {L : List It} {zs : List Int} {b : Nat} {B : List Bool}
def viewT (v : Value) (sz : Nat) (l : List Value) : Thing where
  foot k := blkOf v = some k
  holds H := Sl H v sz l ∧ l ≠ []
  frame h hf := ⟨h.1.frame hf, h.2⟩
  lt h hk := h.1.lt h.2 hk
theorem _root_.Go.Vc.Owns.view {y : Value} {sz sz' : Nat} {l l0 : List Value} (o : Owns H0 H (.sl y sz' l0 :: L)) (hs : Sl H v sz l) (hl : l ≠ []) (hb : ∀ k, blkOf v = some k → blkOf y = some k) : Owns H0 H (.thing (viewT v sz l) :: L) :=
  o.turn (i := .sl y sz' l0) (i' := .thing (viewT v sz l)) Rep.here (Nat.le_refl _) (fun _ _ _ => rfl) ⟨hs, hl⟩ (fun k hk => .inl (hb k hk))
theorem HasC.oneB {p : Value} (h : HasC L zs p) : oneCell p = true := by obtain ⟨_, _, _, _, _, rfl, _⟩ := h; rfl
theorem Rep.app {i j : It} {L L' : List It} (h : Rep i j L L') : ∀ M : List It, Rep i j (M ++ L) (M ++ L')
  | [] => h
  | m :: M => Rep.there (Rep.app h M)
theorem share_zero : ∀ (l : List Nat), (∀ j, l.getD j 0 = 0) → shareL l 15 = 0
  | [], h => rfl
  | a :: l, h => by
    have h0 := h 0
    simp at h0; subst h0
    have := share_zero l fun j => by simpa using h (j + 1)
    unfold shareL at this ⊢
    rw [List.map_cons, List.sum_cons, this]; rfl
theorem share_take {l : List Nat} {n : Nat} (h : ∀ j, n ≤ j → l.getD j 0 = 0) : shareL (l.take n) 15 = shareL l 15 := by
  have e : shareL l 15 = shareL (l.take n) 15 + shareL (l.drop n) 15 := by
    conv => lhs; rw [← List.take_append_drop n l]
    unfold shareL
    rw [List.map_append, List.sum_append]
  rw [e, share_zero (l.drop n) (fun j => by
    rw [List.getD_eq_getElem?_getD, List.getElem?_drop, ← List.getD_eq_getElem?_getD]
    exact h _ (by omega))]
  rfl
theorem natL_take (zs : List Int) (n : Nat) : natL (zs.take n) = (natL zs).take n := by unfold natL; rw [List.map_take]
theorem why_full {xs : List Int} {loose : Bool} (hz : okZ xs) (h : shareL (natL xs) 15 = 32768) : whyL xs loose = 0 := by
  rw [why_ok hz, if_neg (by omega), if_neg (by omega)]
theorem why_slack {xs : List Int} (hz : okZ xs) (h : shareL (natL xs) 15 ≤ 32768) (hs : slackL (natL xs) = true) : whyL xs true = 0 := by
  rw [why_ok hz, if_neg (by omega), if_neg (by rw [hs]; simp)]
theorem slack_of {l : List Nat} (hn : nzL l ≤ 1) (h1 : ∀ k ∈ l, k ≤ 1) : slackL l = true := by
  have e : cntL l 1 = nzL l := by
    unfold cntL nzL
    refine List.countP_congr fun k hk => ?_
    have := h1 k hk
    simp; omega
  unfold slackL
  rw [e]
  have : nzL l = 0 ∨ nzL l = 1 := by omega
  rcases this with h | h <;> simp [h]
theorem Told.sym : ∀ {es : List Ex} {out l : List Int}, Told out es l → ∀ e ∈ es, e.1 ≤ 18
  | [], out, l, h, e, he => by simp at he
  | u :: es, out, l, h, e, he => by
    rcases List.mem_cons.1 he with rfl | he
    · rcases h.1 with h | h | h | h <;> omega
    · exact h.2.sym e he
theorem take_getD {xs : List Int} {n s : Nat} (h : s < n) : (xs.take n).getD s 0 = xs.getD s 0 := by
  rw [List.getD_eq_getElem?_getD, List.getElem?_take_of_lt h, ← List.getD_eq_getElem?_getD]
theorem okZ_of {xs : List Int} (hl : xs.length ≤ 288) (h : ∀ s, 0 ≤ xs.getD s 0 ∧ xs.getD s 0 ≤ 15) : okZ xs := ⟨hl, fun z hz => by
  obtain ⟨i, hi, rfl⟩ := List.getElem_of_mem hz
  have := h i
  rwa [List.getD_eq_getElem?_getD, List.getElem?_eq_getElem hi] at this⟩
theorem syms_why {cs xs : List Int} {a : Nat} (hx : StrOk cs 15 xs) (hl : cs.length = 286) (hz : ∀ j, a ≤ j → xs.getD j 0 = 0) (ha : a ≤ 286) : whyL (xs.take a) false = 0 := by
  have hxl := hx.len
  refine why_full (okZ_of (by rw [List.length_take]; omega) fun s => ?_) ?_
  · by_cases h : s < a
    · rw [take_getD h]; exact hx.rng s
    · rw [List.getD_eq_getElem?_getD, List.getElem?_eq_none (by rw [List.length_take]; omega)]; simp
  · rw [natL_take, share_take (fun j hj => by rw [natL_getD0, hz j hj]; rfl), hx.share]
theorem dists_why {ds ys : List Int} {n : Nat} (hy : lensOk ds 15 ys) (hl : ds.length = 30) (hz : ∀ j, n ≤ j → ys.getD j 0 = 0) (hn : n ≤ 30) : whyL (ys.take n) true = 0 := by
  have hsl := suppU_len ds ds.length
  obtain ⟨f1, f2, f3, f4, f5⟩ := lensOk_facts hy (by decide) (by decide) (by rw [hl] at hsl; rw [hl]; omega)
  have hrng : ∀ s, 0 ≤ ys.getD s 0 ∧ ys.getD s 0 ≤ 15 := fun s => by
    by_cases hs : s < ds.length
    · have := f2 s hs
      split at this <;> omega
    · rw [List.getD_eq_getElem?_getD, List.getElem?_eq_none (by omega)]; simp
  have hok : okZ (ys.take n) := okZ_of (by rw [List.length_take]; omega) fun s => by
    by_cases h : s < n
    · rw [take_getD h]; exact hrng s
    · rw [List.getD_eq_getElem?_getD, List.getElem?_eq_none (by rw [List.length_take]; omega)]; simp
  have hsh : shareL (natL (ys.take n)) 15 = shareL (natL ys) 15 := by rw [natL_take, share_take (fun j hj => by rw [natL_getD0, hz j hj]; rfl)]
  by_cases h2 : 2 ≤ (suppU ds ds.length).length
  · exact why_full hok (by rw [hsh, f3 h2])
  · obtain ⟨g1, g2⟩ := f4 (by omega)
    refine why_slack hok (by rw [hsh, g1]; omega) (slack_of ?_ fun k hk => ?_)
    · have e : nzL (natL ys) = nzL ((natL ys).take n) + nzL ((natL ys).drop n) := by rw [← nzL_append, List.take_append_drop]
      rw [natL_take]; omega
    · unfold natL at hk
      rw [List.mem_map] at hk
      obtain ⟨z, hz, rfl⟩ := hk
      obtain ⟨i, hi, rfl⟩ := List.getElem_of_mem (List.mem_of_mem_take hz)
      have := g2 i (by omega)
      rw [List.getD_eq_getElem?_getD, List.getElem?_eq_getElem hi] at this
      show (ys[i]).toNat ≤ 1
      have h3 : ys[i] ≤ 1 := this
      omega
end Go.Proofs.YtameljhbkedhjaaGreatDoor
namespace Go.Proofs.YtameljhbkedhjaaGreatDoor
open Go Go.Vc Go.Proofs
set_option linter.unusedVariables false
set_option linter.unusedSimpArgs false
variable {H H0 : Heap} {R : Value → Heap → Prop} {v : Value} {zs : List Int} {ls : List Nat} {B : List Bool} {L : List It} {b : Nat} {post : List Value} {t : TypeId}
def ordV : List Value := orderL.map fun n : Nat => i64 n
abbrev ordN (i : Nat) : Nat := orderL.getD i 0
theorem ordV_get {i : Nat} (h : i < 19) : ordV[i]? = some (i64 (orderL.getD i 0)) := by
  unfold ordV
  rw [List.getElem?_map, List.getElem?_eq_getElem (by exact h), List.getD_eq_getElem?_getD, List.getElem?_eq_getElem (by exact h)]; rfl
theorem orderL_lt : ∀ i : Fin 19, orderL.getD i.val 0 < 19 := by decide
theorem teller_spec {c : Nat} (hG : Reads H0 ⟨1, 0, none⟩ ordV) (hc : c ≤ 19) (o : Owns H0 H (rdI b post t B :: L))
    (hok : ∀ l C H' M p, tellM (orderL.take c) (List.replicate 19 0) B = .ok l C → whyL l false = 0 → HasC M l p → Owns H0 H' (rdI b post t C :: (M ++ L)) → R (.tuple #[p, .int .i64 0]) H')
    (hwhy : ∀ l C H', tellM (orderL.take c) (List.replicate 19 0) B = .ok l C → whyL l false ≠ 0 → Owns H0 H' (rdI b post t C :: L) → R (.tuple #[.pointer none, .int .i64 (whyL l false)]) H')
    (her : ∀ e C H', tellM (orderL.take c) (List.replicate 19 0) B = .er e → e ≠ 0 → Owns H0 H' (rdI b post t C :: L) → R (.tuple #[.pointer none, .int .i64 e]) H') : CallsH Tryz.prog 101 #[at_ b 0, i64 c] H R := by
  generalize hT : tellM (orderL.take c) (List.replicate 19 0) B = T at *
  refine inflate_teller.vc _ _ _ _ ?_
  unfold inflate_teller.res
  refine o.make1 (n := 19) (by decide) (by decide) (by decide) fun y H1 o => ?_
  rw [show (19 : Int).toNat = 19 from rfl, numsV_rep] at o
  rw [pSlArr_v, pBounds_01]
  refine ⟨by omega, by omega, ?_⟩
  rw [Int.toNat_natCast, Nat.sub_zero, if_neg (by decide), add_mk, pLen_v]
  refine ⟨fun u H' => ∃ (i : Nat) (l : List Int) (C : List Bool), u = i64 i ∧ i ≤ c ∧ l.length = 19 ∧ tellM ((orderL.take c).drop i) l C = T ∧ Owns H0 H' (rdI b post t C :: .sl y 1 (numsV l) :: L), fun u _ => match u with | .int _ i => (c - i).toNat | _ => 0, ⟨0, _, B, rfl, by omega, by simp, hT, o.swap⟩, ?_⟩
  rintro _ _ H2 ⟨i, l, C, rfl, hi, hl, hk, o⟩
  rw [pLt_v]
  refine pCond_if (fun hc1 => ?_) (fun hc1 => ?_)
  · have hic : i < c := by omega
    rw [pIdxSl_v]
    refine ⟨by omega, by omega, ?_⟩
    have hcell := (hG.ext o.ext) i _ (ordV_get (by omega))
    rw [add_mk, Nat.zero_add] at hcell
    rw [add_mk, Int.toNat_natCast, show 0 + 0 + i * 1 = i by omega, pLoad_cell hcell]
    have hlt := orderL_lt ⟨i, by omega⟩
    dsimp only at hlt
    have hsp : (orderL.take c).drop i = orderL.getD i 0 :: (orderL.take c).drop (i + 1) := by
      have h1 : i < (orderL.take c).length := by rw [List.length_take]; show i < min c 19; omega
      rw [List.drop_eq_getElem_cons h1, List.getElem_take, List.getD_eq_getElem?_getD, List.getElem?_eq_getElem (by show i < 19; omega)]; rfl
    rw [hsp] at hk
    unfold tellM at hk
    refine need_spec (n := 3) (by decide) o (fun x C1 H3 hx hx8 o => ?_) (fun hx => ?_)
    · refine pExtract_to rfl ?_
      refine pExtract_to rfl ?_
      refine ne_ok ?_
      rw [pCond_false]
      have hll : (numsV l).length = 19 * 1 := by rw [numsV_len, hl]
      refine (o.sl (v := y) (by repeat (first | exact List.mem_cons_self | apply List.mem_cons_of_mem))).at_ hll (by decide) (by omega) (by omega) fun p hp => ?_
      refine o.store hp (by repeat (first | exact List.mem_cons_self | apply List.mem_cons_of_mem)) (by rw [hll]; omega) rfl (by repeat (first | exact Rep.here | apply Rep.there)) fun H4 o _ => ?_
      rw [Int.toNat_natCast, Nat.mul_one, numsV_set] at o
      rw [pAdd_v, w64 (by omega) (by omega)]
      rw [hx] at hk
      exact ⟨⟨i + 1, _, C1, rfl, by omega, by rw [List.length_set, hl], hk, o⟩, by show (_ : Int).toNat < (_ : Int).toNat; omega⟩
    · refine pExtract_to rfl ?_
      refine pExtract_to rfl ?_
      refine ne_er (by decide) ?_
      rw [pCond_true]
      rw [hx] at hk
      exact her 2 C H2 hk.symm (by decide) o.drop2
  · have hic : i = c := by omega
    subst hic
    rw [List.drop_of_length_le (by rw [List.length_take]; omega)] at hk
    refine newO_spec (zs := l) o (o.sl (v := y) (by repeat (first | exact List.mem_cons_self | apply List.mem_cons_of_mem))) (by omega) (fun H3 hw o => ?_) fun H3 M p hw hp o => ?_
    · refine pExtract_to rfl ?_
      refine pExtract_to rfl ?_
      exact hwhy l C H3 hk.symm hw o.drop2
    · refine pExtract_to rfl ?_
      refine pExtract_to rfl ?_
      refine hok l C H3 M p hk.symm hw hp ?_
      exact (o.mid).pick (List.Sublist.cons_cons _ (List.Sublist.append (List.Sublist.refl M) (List.sublist_cons_self _ L)))
theorem dynamic_spec (hG : Reads H0 ⟨1, 0, none⟩ ordV) (o : Owns H0 H (rdI b post t B :: L))
    (hok : ∀ p C H' M x y, dynM B = .ok p C → HasC M p.1 x → HasC M p.2 y → Owns H0 H' (rdI b post t C :: (M ++ L)) → R (.tuple #[x, y, .int .i64 0]) H')
    (her : ∀ e C H' x y, dynM B = .er e → e ≠ 0 → oneCell x = true → oneCell y = true → Owns H0 H' (rdI b post t C :: L) → R (.tuple #[x, y, .int .i64 e]) H') : CallsH Tryz.prog 87 #[at_ b 0] H R := by
  generalize hT : dynM B = T at *
  unfold dynM at hT
  refine inflate_dynamicCodes.vc _ _ _ ?_
  unfold inflate_dynamicCodes.res
  refine need_spec (n := 14) (by decide) o (fun x C1 H1 hx hx14 o => ?_) (fun hx => ?_)
  rotate_left
  · rw [hx] at hT
    refine pExtract_to rfl ?_
    refine pExtract_to rfl ?_
    refine ne_er (by decide) ?_
    rw [pCond_true]
    exact her 2 B H _ _ hT.symm (by decide) rfl rfl o
  rw [hx] at hT
  dsimp only [Rs.bind] at hT
  refine pExtract_to rfl ?_
  refine pExtract_to rfl ?_
  refine ne_ok ?_
  rw [pCond_false, pBits_v, and_i64 (k := 5) (m := 31) (by decide) rfl, show (2 : Nat) ^ 5 = 32 from rfl, pAdd_v, show ((x % 32 : Nat) : Int) + 257 = ((x % 32 + 257 : Nat) : Int) by omega, w64 (by omega) (by omega), pShr_v]
  refine ⟨by decide, ?_⟩
  rw [fdiv_nat (m := min (Int.toNat 5) IntKind.i64.bits) (j := 5) rfl, show (2 : Nat) ^ 5 = 32 from rfl, pBits_v, and_i64 (k := 5) (m := 31) (by decide) rfl, show (2 : Nat) ^ 5 = 32 from rfl, pAdd_v, show ((x / 32 % 32 : Nat) : Int) + 1 = ((x / 32 % 32 + 1 : Nat) : Int) by omega, w64 (by omega) (by omega), pShr_v]
  refine ⟨by decide, ?_⟩
  rw [fdiv_nat (m := min (Int.toNat 10) IntKind.i64.bits) (j := 10) rfl, show (2 : Nat) ^ 10 = 1024 from rfl, pAdd_v, show ((x / 1024 : Nat) : Int) + 4 = ((x / 1024 + 4 : Nat) : Int) by omega, w64 (by omega) (by omega), pGt_v]
  have ha : 257 ≤ x % 32 + 257 := by omega
  have hcc : x / 1024 + 4 ≤ 19 := by omega
  have ha3 : x % 32 + 257 ≤ 288 := by omega
  have hd3 : x / 32 % 32 + 1 ≤ 32 := by omega
  generalize x % 32 + 257 = a at *
  generalize x / 32 % 32 + 1 = d at *
  generalize x / 1024 + 4 = c at *
  refine pOr_if (d := decide ((30 : Int) < (d : Int))) (fun _ => ?_) ?_
  · rw [pGt_v]; exact ⟨rfl, rfl⟩
  intro _
  refine pCond_b (fun hb => ?_) (fun hb => ?_)
  · rw [Bool.or_eq_true, decide_eq_true_eq, decide_eq_true_eq] at hb
    rw [if_pos (by omega)] at hT
    exact her 20 C1 H1 _ _ hT.symm (by decide) rfl rfl o
  rw [Bool.or_eq_false_iff, decide_eq_false_iff_not, decide_eq_false_iff_not] at hb
  rw [if_neg (by omega)] at hT
  have ha2 : a ≤ 286 := by omega
  have hd2 : d ≤ 30 := by omega
  refine teller_spec hG hcc o (fun tl C2 H2 M p ht hw hp o => ?_) (fun tl C2 H2 ht hw o => ?_) (fun e C2 H2 ht he o => ?_)
  rotate_left
  · rw [ht] at hT
    dsimp only [Rs.bind] at hT
    rw [if_pos hw] at hT
    refine pExtract_to rfl ?_
    refine pExtract_to rfl ?_
    refine ne_er hw ?_
    rw [pCond_true]
    exact her _ C2 H2 _ _ hT.symm hw rfl rfl o
  · rw [ht] at hT
    refine pExtract_to rfl ?_
    refine pExtract_to rfl ?_
    refine ne_er he ?_
    rw [pCond_true]
    exact her e C2 H2 _ _ hT.symm he rfl rfl o
  rw [ht] at hT
  dsimp only [Rs.bind] at hT
  rw [if_neg (fun g => g hw)] at hT
  refine pExtract_to rfl ?_
  refine pExtract_to rfl ?_
  refine ne_ok ?_
  rw [pCond_false, pAdd_v, show (a : Int) + (d : Int) = ((a + d : Nat) : Int) by omega, w64 (by omega) (by omega)]
  refine lengths_spec7 (n := a + d) (by omega) hp.appl o (fun l C3 lv H3 hl hll o => ?_) (fun e C3 H3 hl he o => ?_)
  rotate_left
  · rw [hl] at hT
    refine pExtract_to rfl ?_
    refine pExtract_to rfl ?_
    refine ne_er he ?_
    rw [pCond_true]
    exact her e C3 H3 _ _ hT.symm he rfl rfl (o.pick (List.Sublist.cons_cons _ (List.sublist_append_right M L)))
  rw [hl] at hT
  dsimp only [Rs.bind] at hT
  refine pExtract_to rfl ?_
  refine pExtract_to rfl ?_
  refine ne_ok ?_
  rw [pCond_false]
  have hlen : (numsV l).length = (a + d) * 1 := by rw [numsV_len, hll]; omega
  have hS := o.sl (v := lv) (by repeat (first | exact List.mem_cons_self | apply List.mem_cons_of_mem))
  have oL : Owns H0 H3 (rdI b post t C3 :: L) := o.pick (List.Sublist.cons_cons _ (List.Sublist.cons _ (List.sublist_append_right M L)))
  refine hS.at_ (n := a + d) hlen (by decide) (by decide) (by omega) fun p hp => ?_
  refine hp.load hS (w := .int .i64 (l.getD 256 0)) (numsV_getD (by rw [hll]; show 256 < a + d; omega)) ?_
  rw [pEq_0]
  refine pCond_if (fun hc5 => ?_) (fun hc5 => ?_)
  · rw [if_pos hc5] at hT
    exact her 12 C3 H3 _ _ hT.symm (by decide) rfl rfl oL
  rw [if_neg hc5] at hT
  refine hS.cut (by decide) (n := a + d) (lo := 0) (hi := a) hlen (by omega) (by omega) (fun v1 h1 => ?_) (.inr ⟨rfl, rfl⟩) (.inl rfl)
  rw [Nat.zero_mul, List.drop_zero, Nat.sub_zero, Nat.mul_one, numsV_take] at h1
  refine newO_spec (zs := l.take a) o h1 (by rw [List.length_take]; omega) (fun H4 hw1 o => ?_) (fun H4 M1 p1 hw1 hp1 o => ?_)
  · rw [if_pos hw1] at hT
    refine pExtract_to rfl ?_
    refine pExtract_to rfl ?_
    refine ne_er hw1 ?_
    rw [pCond_true]
    exact her _ C3 H4 _ _ hT.symm hw1 rfl rfl (o.pick (List.Sublist.cons_cons _ (List.Sublist.cons _ (List.sublist_append_right M L))))
  rw [if_neg (fun g => g hw1)] at hT
  refine pExtract_to rfl ?_
  refine pExtract_to rfl ?_
  refine ne_ok ?_
  rw [pCond_false]
  have hS4 := o.sl (v := lv) (List.mem_append_right _ (by repeat (first | exact List.mem_cons_self | apply List.mem_cons_of_mem)))
  refine hS4.cut (by decide) (n := a + d) (lo := a) (hi := a + d) hlen (by omega) (by omega) (fun v2 h2 => ?_) (.inl rfl) (.inr ⟨rfl, rfl⟩)
  rw [Nat.mul_one, Nat.mul_one, numsV_drop, List.take_of_length_le (by rw [numsV_len, List.length_drop]; omega)] at h2
  have o := (o.mid).pick (List.Sublist.cons_cons (rdI b post t C3) (List.Sublist.append (List.Sublist.refl M1) (List.Sublist.cons _ (List.sublist_append_right M L))))
  refine newO_spec (zs := l.drop a) o h2 (by rw [List.length_drop]; omega) (fun H5 hw2 o => ?_) (fun H5 M2 p2 hw2 hp2 o => ?_)
  · rw [if_pos hw2] at hT
    refine pExtract_to rfl ?_
    refine pExtract_to rfl ?_
    obtain ⟨-, cb, _, _, _, rfl, -⟩ := hp1
    exact her _ C3 H5 _ _ hT.symm hw2 rfl rfl (o.pick (List.Sublist.cons_cons _ (List.sublist_append_right M1 L)))
  · rw [if_neg (fun g => g hw2)] at hT
    refine pExtract_to rfl ?_
    refine pExtract_to rfl ?_
    refine hok _ C3 H5 (M2 ++ M1) p1 p2 hT.symm hp1.app hp2.appl ?_
    rw [List.append_assoc]
    exact o.mid
end Go.Proofs.YtameljhbkedhjaaGreatDoor
namespace Go.Proofs.YtameljhbkedhjaaGreatDoor
open Go Go.Vc Go.Proofs
set_option linter.unusedVariables false
set_option linter.unusedSimpArgs false
variable {H : Heap} {R : Value → Heap → Prop}
structure Ring (ring all : List UInt8) : Prop where
  len : ring.length = min all.length 32768
  at_ : ∀ i, i < all.length → all.length ≤ i + 32768 → ring[i % 32768]? = all[i]?
structure Win (H : Heap) (b : Nat) (rv : Value) (all : List UInt8) : Prop where
  blk : H[b]? = some (.cells #[rv, .int .i64 all.length] 70 (0, 0))
  ring : ∃ ring, Own H rv 1 (ring.map byteV) ∧ Ring ring all
  ne : blkOf rv ≠ some b
  size : all.length ≤ 1099511627776
structure Step (b : Nat) (rv : Value) (H : Heap) (rv' : Value) (H' : Heap) : Prop where
  size : H.size ≤ H'.size
  same : ∀ i, i < H.size → i ≠ b → blkOf rv ≠ some i → H'[i]? = H[i]?
  blk : ∀ k, blkOf rv' = some k → blkOf rv = some k ∨ H.size ≤ k
theorem Step.refl {b : Nat} {rv : Value} : Step b rv H rv H := ⟨Nat.le_refl _, fun _ _ _ _ => rfl, fun _ h => .inl h⟩
theorem Step.trans {b : Nat} {rv rv' rv'' : Value} {H H' H'' : Heap} (h : Step b rv H rv' H') (k : Step b rv' H' rv'' H'') : Step b rv H rv'' H'' :=
  ⟨Nat.le_trans h.size k.size, fun i hi hb hr => (k.same i (Nat.lt_of_lt_of_le hi h.size) hb (fun e => by
      rcases h.blk i e with h' | h'
      · exact hr h'
      · omega)).trans (h.same i hi hb hr), fun j hj => by
    rcases k.blk j hj with h' | h'
    · exact h.blk j h'
    · right; have := h.size; omega⟩
theorem Step.ext {A H H' : Heap} {b : Nat} {rv rv' : Value} (h : Step b rv H rv' H') (hx : Ext A H) (hb : A.size ≤ b) (hr : ∀ k, blkOf rv = some k → A.size ≤ k) : Ext A H' ∧ ∀ k, blkOf rv' = some k → A.size ≤ k :=
  ⟨⟨Nat.le_trans hx.size h.size, fun i hi => (h.same i (Nat.lt_of_lt_of_le hi hx.size) (by omega) (fun e => by have := hr i e; omega)).trans (hx.get i hi)⟩, fun k hk => by
    rcases h.blk k hk with h' | h'
    · exact hr k h'
    · have := hx.size; omega⟩
theorem Win.ext {H H' : Heap} {b : Nat} {rv : Value} {all : List UInt8} (h : Win H b rv all) (hx : Ext H H') : Win H' b rv all := by
  obtain ⟨ring, ho, hr⟩ := h.ring
  exact ⟨hx.blk h.blk, ⟨ring, ho.ext hx, hr⟩, h.ne, h.size⟩
variable {b : Nat} {rv : Value} {all : List UInt8}
end Go.Proofs.YtameljhbkedhjaaGreatDoor
namespace Go.Proofs.YtameljhbkedhjaaGreatDoor
open Go Go.Vc Go.Proofs
set_option linter.unusedVariables false
set_option linter.unusedSimpArgs false
variable {H H0 : Heap} {R : Value → Heap → Prop} {v : Value} {zs : List Int} {ls : List Nat} {B : List Bool} {L : List It} {b : Nat} {q : List Value} {t : TypeId} {all : List UInt8}
def WinO (H0 H : Heap) (b : Nat) (q : List Value) (t : TypeId) (B : List Bool) (all : List UInt8) (L : List It) : Prop :=
  ∃ rv ring, Ring ring all ∧ all.length ≤ 1099511627776 ∧ Owns H0 H (rdI b (rv :: i64 all.length :: q) t B :: .sl rv 1 (ring.map byteV) :: L)
theorem ring_len (ring : List UInt8) : (ring.map byteV).length = ring.length * 1 := by simp
theorem wlen7 (w : WinO H0 H b q t B all L) (h : R (i64 (min all.length 32768)) H) : CallsH Tryz.prog 118 #[at_ b 3] H R := by
  obtain ⟨rv, ring, hr, hs, o⟩ := w
  refine window_Window_Len.vc _ _ _ ?_
  unfold window_Window_Len.res
  rw [pEq_3s, pCond_false, pNil_v, pFieldAddr_v, add_mk]
  refine o.pl (by repeat (first | exact List.mem_cons_self | apply List.mem_cons_of_mem)) (by decide) rfl ?_
  refine o.len1 (v := rv) (by repeat (first | exact List.mem_cons_self | apply List.mem_cons_of_mem)) ?_
  rw [List.length_map, hr.len]; exact h
theorem wput7 {x : UInt8} (w : WinO H0 H b q t B all L) (hsz : all.length < 1099511627776) (h : ∀ H', WinO H0 H' b q t B (all ++ [x]) L → R (.tuple #[]) H') : CallsH Tryz.prog 92 #[at_ b 3, byteV x] H R := by
  obtain ⟨rv, ring, hr, hs, o⟩ := w
  have hlen := hr.len
  refine window_Window_Put.vc _ _ _ _ ?_
  unfold window_Window_Put.res
  rw [pEq_3s, pCond_false]
  refine ⟨fun H' => ∃ rv' ring', Ring ring' (all ++ [x]) ∧ Owns H0 H' (rdI b (rv' :: i64 all.length :: q) t B :: .sl rv' 1 (ring'.map byteV) :: L), ?_, ?_⟩
  · rintro _ H1 ⟨rv', ring', hr1, o⟩
    rw [pNil_v, pFieldAddr_v, add_mk]
    refine o.pl (by repeat (first | exact List.mem_cons_self | apply List.mem_cons_of_mem)) (by decide) rfl ?_
    rw [pAdd_v, w64 (by omega) (by omega), pNil_v, pFieldAddr_v, add_mk]
    refine o.ps (g := 3 + 1) Rep.here (by decide) (by simp) rfl fun H2 o _ => ?_
    refine h H2 ⟨rv', ring', hr1, by rw [List.length_append, List.length_singleton]; omega, ?_⟩
    have e : i64 (all ++ [x]).length = .int .i64 ((all.length : Int) + 1) := by rw [List.length_append, List.length_singleton]; rfl
    rw [e]
    exact o
  · rw [pNil_v, pFieldAddr_v, add_mk]
    refine o.pl (by repeat (first | exact List.mem_cons_self | apply List.mem_cons_of_mem)) (by decide) rfl ?_
    refine o.len1 (v := rv) (by repeat (first | exact List.mem_cons_self | apply List.mem_cons_of_mem)) ?_
    rw [List.length_map, pLt_v]
    refine pCond_if (fun hc => ?_) (fun hc => ?_)
    · rw [pNil_v, pFieldAddr_v, add_mk]
      refine o.pl (by repeat (first | exact List.mem_cons_self | apply List.mem_cons_of_mem)) (by decide) rfl ?_
      refine o.build1 (by decide) rfl rfl fun y H1 o => ?_
      refine o.app (v := rv) (x := y) (by repeat (first | exact Sel.here | apply Sel.there)) (o.sl (by repeat (first | exact List.mem_cons_self | apply List.mem_cons_of_mem))) (by rfl) (by rw [List.length_map]; show 2 * (ring.length + 1) * 1 ≤ _; omega) fun y2 H2 o => ?_
      rw [pNil_v, pFieldAddr_v, add_mk]
      have hy2 := (o.sl (v := y2) (by repeat (first | exact List.mem_cons_self | apply List.mem_cons_of_mem))).one
      refine o.ps (b := b) (post := rv :: i64 all.length :: q) (t := t) (B := B) (g := 3 + 0) (by repeat (first | exact Rep.here | apply Rep.there)) (by decide) (by simp) hy2 fun H3 o _ => ?_
      have hring : ring = all := by
        apply List.ext_getElem?
        intro i
        by_cases hi : i < all.length
        · rw [← hr.at_ i hi (by omega), Nat.mod_eq_of_lt (by omega)]
        · rw [List.getElem?_eq_none (by omega), List.getElem?_eq_none (by omega)]
      subst hring
      refine ⟨y2, ring ++ [x], ⟨by simp; omega, fun i hi _ => by rw [Nat.mod_eq_of_lt (by simp at hi; omega)]⟩, ?_⟩
      rw [List.map_append]
      exact o.drop2.swap
    · have hall : 32768 ≤ all.length := by omega
      rw [pNil_v, pFieldAddr_v, add_mk]
      refine o.pl (by repeat (first | exact List.mem_cons_self | apply List.mem_cons_of_mem)) (by decide) rfl ?_
      rw [pNil_v, pFieldAddr_v, add_mk]
      refine o.pl (by repeat (first | exact List.mem_cons_self | apply List.mem_cons_of_mem)) (by decide) rfl ?_
      rw [pRem_v]
      refine ⟨by decide, ?_⟩
      rw [Int.tmod_eq_emod_of_nonneg (by omega)]
      have hm : ((all.length : Int) % 32768).toNat * 1 = all.length % 32768 := by omega
      refine (o.sl (v := rv) (by repeat (first | exact List.mem_cons_self | apply List.mem_cons_of_mem))).at_ (ring_len ring) (by decide) (by omega) (by omega) fun p hp => ?_
      refine o.store hp (by repeat (first | exact List.mem_cons_self | apply List.mem_cons_of_mem)) (by rw [List.length_map]; omega) rfl (by repeat (first | exact Rep.here | apply Rep.there)) fun H1 o _ => ?_
      rw [hm] at o
      refine ⟨rv, ring.set (all.length % 32768) x, ⟨by simp; omega, fun i hi hi2 => ?_⟩, by rw [List.map_set]; exact o⟩
      rw [List.length_append, List.length_singleton] at hi hi2
      by_cases he : i = all.length
      · subst he
        rw [List.getElem?_set_self (by omega), List.getElem?_append_right (Nat.le_refl _), Nat.sub_self]
        rfl
      · rw [List.getElem?_set_ne (by omega), List.getElem?_append_left (by omega)]
        exact hr.at_ i (by omega) (by omega)
theorem wback7 {d : Int} (w : WinO H0 H b q t B all L) (hd1 : 1 ≤ d) (hd2 : d ≤ (min all.length 32768 : Nat)) (h : R (.tuple #[byteV (all.getD (all.length - d.toNat) 0), .bool true]) H) : CallsH Tryz.prog 119 #[at_ b 3, .int .i64 d] H R := by
  have w0 := w
  obtain ⟨rv, ring, hr, hs, o⟩ := w
  refine window_Window_Back.vc _ _ _ _ ?_
  unfold window_Window_Back.res
  rw [pLt_v, decide_eq_false (by omega)]
  refine pOr_false ?_
  refine wlen7 w0 ?_
  rw [pGt_v, decide_eq_false (by omega)]
  intro _
  rw [pCond_false, pNil_v, pFieldAddr_v, add_mk]
  refine o.pl (by repeat (first | exact List.mem_cons_self | apply List.mem_cons_of_mem)) (by decide) rfl ?_
  rw [pNil_v, pFieldAddr_v, add_mk]
  refine o.pl (by repeat (first | exact List.mem_cons_self | apply List.mem_cons_of_mem)) (by decide) rfl ?_
  rw [pSub_v, w64 (by omega) (by omega), pRem_v]
  refine ⟨by decide, ?_⟩
  rw [Int.tmod_eq_emod_of_nonneg (by omega)]
  have hlen := hr.len
  have hm : (((all.length : Int) - d) % 32768).toNat * 1 = (all.length - d.toNat) % 32768 := by omega
  have hS := o.sl (v := rv) (by repeat (first | exact List.mem_cons_self | apply List.mem_cons_of_mem))
  refine hS.at_ (ring_len ring) (by decide) (by omega) (by omega) fun p hp => ?_
  refine hp.load hS (w := byteV (all.getD (all.length - d.toNat) 0)) ?_ h
  rw [hm, List.getElem?_map, hr.at_ _ (by omega) (by omega), List.getElem?_eq_getElem (by omega), List.getD_eq_getElem?_getD, List.getElem?_eq_getElem (by omega)]
  rfl
theorem wadd7 {s : List UInt8} (w : WinO H0 H b q t B all L) (hsz : all.length + s.length ≤ 1099511627776) (h : ∀ H', WinO H0 H' b q t B (all ++ s) L → R (.tuple #[]) H') : CallsH Tryz.prog 88 #[at_ b 3, str s] H R := by
  refine window_Window_Add.vc _ _ _ _ ?_
  unfold window_Window_Add.res
  refine pLenS_to ?_
  refine ⟨fun v H' => ∃ (i : Nat), v = .int .i64 i ∧ i ≤ s.length ∧ WinO H0 H' b q t B (all ++ s.take i) L, fun v _ => match v with | .int _ i => (s.length - i).toNat | _ => 0, ⟨0, rfl, by omega, by simpa using w⟩, ?_⟩
  rintro _ _ H1 ⟨i, rfl, hi, w⟩
  rw [pLt_v]
  refine pCond_if (fun hc => ?_) (fun hc => ?_)
  · rw [pIdxStr_v, bys_mk]
    refine ⟨by omega, by omega, ?_⟩
    rw [Int.toNat_natCast]
    refine wput7 w (by rw [List.length_append, List.length_take]; omega) fun H2 w => ?_
    rw [pAdd_v, w64 (by omega) (by omega)]
    refine ⟨⟨i + 1, rfl, by omega, ?_⟩, by show (_ : Int).toNat < (_ : Int).toNat; omega⟩
    rw [List.take_add_one, List.getElem?_eq_getElem (by omega), ← List.append_assoc]
    rw [List.getD_eq_getElem?_getD, List.getElem?_eq_getElem (by omega)] at w
    exact w
  · have : i = s.length := by omega
    subst this
    rw [List.take_length] at w
    exact h _ w
theorem wcopy_no7 {n d : Nat} (w : WinO H0 H b q t B all L) (hn : n ≤ 258) (hno : d < 1 ∨ min all.length 32768 < d) (h : R (.tuple #[str [], .bool false]) H) : CallsH Tryz.prog 105 #[at_ b 3, i64 n, i64 d] H R := by
  refine window_Window_Copy.vc _ _ _ _ _ ?_
  unfold window_Window_Copy.res
  rw [pLt_v, decide_eq_false (by omega)]
  refine pOr_false ?_
  rw [pGt_v, decide_eq_false (by omega)]
  intro _
  refine pOr_false ?_
  rw [pLt_v]
  intro _
  refine pOr_if (d := decide (((min all.length 32768 : Nat) : Int) < d)) (fun _ => ?_) ?_
  · refine wlen7 w ?_
    rw [pGt_v]
    exact ⟨rfl, rfl⟩
  intro _
  refine pCond_b (fun _ => h) (fun hc => ?_)
  simp only [Bool.or_eq_false_iff, decide_eq_false_iff_not] at hc
  omega
theorem WinO.slow {i : It} (w : WinO H0 H b q t B all (i :: L)) : ∃ rv ring, Ring ring all ∧ all.length ≤ 1099511627776 ∧ Owns H0 H (i :: rdI b (rv :: i64 all.length :: q) t B :: .sl rv 1 (ring.map byteV) :: L) := by
  obtain ⟨rv, ring, hr, hs, o⟩ := w
  refine ⟨rv, ring, hr, hs, o.perm ?_⟩
  exact List.Perm.trans (List.Perm.swap ..) (List.Perm.cons _ (List.Perm.swap ..))
theorem WinO.fast {i : It} {rv : Value} {ring : List UInt8} (hr : Ring ring all) (hs : all.length ≤ 1099511627776) (o : Owns H0 H (i :: rdI b (rv :: i64 all.length :: q) t B :: .sl rv 1 (ring.map byteV) :: L)) : WinO H0 H b q t B all (i :: L) := by
  refine ⟨rv, ring, hr, hs, o.perm ?_⟩
  exact List.Perm.trans (List.Perm.cons _ (List.Perm.swap ..)) (List.Perm.swap ..)
theorem wcopy7 {n d : Nat} (w : WinO H0 H b q t B all L) (hn1 : n ≤ 258) (hd0 : 1 ≤ d) (hd1 : d ≤ min all.length 32768) (hsz : all.length + 258 ≤ 1099511627776)
    (h : ∀ H', WinO H0 H' b q t B (copyN n all d) L → R (.tuple #[str ((copyN n all d).drop all.length), .bool true]) H') : CallsH Tryz.prog 105 #[at_ b 3, i64 n, i64 d] H R := by
  refine window_Window_Copy.vc _ _ _ _ _ ?_
  unfold window_Window_Copy.res
  rw [pLt_v, decide_eq_false (by omega)]
  refine pOr_false ?_
  rw [pGt_v, decide_eq_false (by omega)]
  intro _
  refine pOr_false ?_
  rw [pLt_v, decide_eq_false (by omega)]
  intro _
  refine pOr_false ?_
  refine wlen7 w ?_
  rw [pGt_v, decide_eq_false (by omega)]
  intro _
  rw [pCond_false]
  obtain ⟨rv, ring, hr, hs, o⟩ := w
  refine o.make1 (by omega) (by omega) (by omega) fun ov H1 o => ?_
  rw [Int.toNat_natCast] at o
  have w := WinO.fast hr hs o
  refine o.len1 (v := ov) (by repeat (first | exact List.mem_cons_self | apply List.mem_cons_of_mem)) ?_
  rw [List.length_replicate]
  refine ⟨fun v H' => ∃ (i : Nat) (out : List Value), v = .int .i64 i ∧ i ≤ n ∧ WinO H0 H' b q t B (copyN i all d) (.sl ov 1 out :: L) ∧ out.length = n ∧ out.take i = ((copyN i all d).drop all.length).map byteV,
    fun v _ => match v with | .int _ i => (n - i).toNat | _ => 0, ⟨0, _, rfl, by omega, w, by simp, by simp [copyN]⟩, ?_⟩
  rintro _ _ H2 ⟨i, out, rfl, hi, w2, hol, hot⟩
  have hl := copyN_len i all d
  rw [pLt_v]
  refine pCond_if (fun hc => ?_) (fun hc => ?_)
  · refine wback7 (d := d) w2 (by omega) (by rw [hl]; omega) ?_
    refine pExtract_to rfl ?_
    refine pExtract_to rfl ?_
    rw [Int.toNat_natCast]
    generalize hx : (copyN i all d).getD ((copyN i all d).length - d) 0 = x
    obtain ⟨rv, ring, hr, hs2, o⟩ := w2.slow
    refine (o.sl (v := ov) (by repeat (first | exact List.mem_cons_self | apply List.mem_cons_of_mem))).at_ (n := n) (by omega) (by decide) (by omega) (by omega) fun p hp => ?_
    refine o.store hp (by repeat (first | exact List.mem_cons_self | apply List.mem_cons_of_mem)) (by omega) rfl (by repeat (first | exact Rep.here | apply Rep.there)) fun H3 o _ => ?_
    rw [Int.toNat_natCast, Nat.mul_one] at o
    have hS := o.sl (v := ov) (by repeat (first | exact List.mem_cons_self | apply List.mem_cons_of_mem))
    refine hS.at_ (n := n) (by rw [List.length_set]; omega) (by decide) (by omega) (by omega) fun p hp => ?_
    refine hp.load hS (w := byteV x) (by rw [Int.toNat_natCast, Nat.mul_one, List.getElem?_set_self (by omega)]) ?_
    refine wput7 (WinO.fast hr hs2 o) (by rw [hl]; omega) fun H4 w => ?_
    rw [pAdd_v, w64 (by omega) (by omega)]
    refine ⟨⟨i + 1, out.set i (byteV x), rfl, by omega, ?_, by simpa using hol, ?_⟩, by show (_ : Int).toNat < (_ : Int).toNat; omega⟩
    · rw [copyN_end, hx]; exact w
    · rw [copyN_end, hx, List.drop_append_of_le_length (by rw [hl]; omega), List.map_append, ← hot]
      rw [List.take_add_one, List.getElem?_set_self (by omega), List.take_set_of_le (by omega)]
      rfl
  · have hi2 : i = n := by omega
    subst hi2
    rw [List.take_of_length_le (by omega)] at hot
    rw [hot] at w2
    obtain ⟨rv, ring, hr, hs2, o⟩ := w2.slow
    refine Sl.str (o.sl (v := ov) (by repeat (first | exact List.mem_cons_self | apply List.mem_cons_of_mem))) ?_
    exact h _ ⟨rv, ring, hr, hs2, o.pick (List.sublist_cons_self _ _)⟩
theorem WinO.pl {K : Value → Prop} {g : Nat} {x : Value} (w : WinO H0 H b q t B all L) (h5 : 5 ≤ g) (hx : q[g - 5]? = some x) (hk : K x) : pLoad H (at_ b g) K := by
  obtain ⟨rv, ring, hr, hs, o⟩ := w
  refine o.pl (w := x) (by repeat (first | exact List.mem_cons_self | apply List.mem_cons_of_mem)) (by omega) ?_ hk
  obtain ⟨j, rfl⟩ : ∃ j, g = j + 5 := ⟨g - 5, by omega⟩
  simp only [Nat.add_sub_cancel] at hx
  rw [show j + 5 - 3 = j + 1 + 1 by omega]
  exact hx
theorem WinO.ps {K : Value → Heap → Prop} {g : Nat} {x : Value} (w : WinO H0 H b q t B all L) (h5 : 5 ≤ g) (hg : g - 5 < q.length) (hx : oneCell x = true) (hk : ∀ H', WinO H0 H' b (q.set (g - 5) x) t B all L → K undef H') : pStore H (at_ b g) x K := by
  obtain ⟨rv, ring, hr, hs, o⟩ := w
  refine o.ps (g := g) Rep.here (by omega) (by simp; omega) hx fun H' o _ => hk H' ⟨rv, ring, hr, hs, ?_⟩
  obtain ⟨j, rfl⟩ : ∃ j, g = j + 5 := ⟨g - 5, by omega⟩
  rw [show j + 5 - 3 = j + 1 + 1 by omega] at o
  exact o
end Go.Proofs.YtameljhbkedhjaaGreatDoor
set_option linter.unusedVariables false
namespace Go.Proofs
open Go.Shelf Go.RowKit
set_option maxHeartbeats 1000000 in
set_option maxRecDepth 100000 in
theorem Tryz.copyCheck_used (b f : Nat) (w : World) (h0 : w.cell? ⟨b, f, none⟩ = some (.pointer (some ⟨b, f, none⟩))) :
    Calls Tryz.prog 103 #[.pointer (some ⟨b, f, none⟩)] w fun e w' => e = .returned (.tuple #[]) ∧ w' = w := by
  obtain ⟨j, hj, hjs⟩ := Option.map_eq_some_iff.1 (show (Tryz.prog.info? 73).map (·.size) = some 2 by kernel_rfl)
  go_enter Tryz.func103, Tryz.f103
  go_wp2
  rw [Lib.run_neq_ptr_same w _ Tryz.underlying71 hj]
  go_wp2
  go_end0
  exact ⟨rfl, rfl⟩
set_option maxHeartbeats 1000000 in
set_option maxRecDepth 100000 in
theorem Tryz.copyCheck_fresh (b : Nat) (w : World) (h0 : w.cell? ⟨b, 5, none⟩ = some (.pointer none)) (hsh : w.shape? b = some (76, 14)) (hfz : w.frozen? ⟨b, 5, none⟩ = false) :
    Calls Tryz.prog 103 #[.pointer (some ⟨b, 5, none⟩)] w fun e w' => e = .returned (.tuple #[]) ∧ w' = w.setCell ⟨b, 5, none⟩ (.pointer (some ⟨b, 5, none⟩)) := by
  obtain ⟨j, hj, hjs⟩ := Option.map_eq_some_iff.1 (show (Tryz.prog.info? 73).map (·.size) = some 2 by kernel_rfl)
  have hlies : liesAt Tryz.prog Tryz.prog.depth 76 (14 / Tryz.prog.cellsOf 76) 5 73 1 = true := by kernel_rfl
  go_enter Tryz.func103, Tryz.f103
  go_wp2
  rw [Lib.run_to_unsafe w ⟨b, 5, none⟩ Tryz.underlying71 Tryz.underlying175 hj (by rw [hjs]; decide) hsh (show 5 < 14 by decide)]
  simp only [Result.andThen]
  rw [Oper.upon_value]
  go_wp2
  rw [run_callFunc_extern Tryz.func117 (by kernel_rfl) (by kernel_rfl) (by kernel_rfl) (e := Extern.AbiNoEscape.same) (by kernel_rfl)]
  rw [Lib.run_noEscape]
  simp only [Result.andThen]
  rw [Oper.upon_value]
  go_wp2
  rw [Lib.run_from_unsafe w ⟨b, 5, none⟩ Tryz.underlying175 Tryz.underlying71 hj hsh hlies]
  simp only [Result.andThen]
  rw [Oper.upon_value]
  go_wp2
  go_end0
  exact ⟨rfl, rfl⟩
set_option maxHeartbeats 1000000 in
set_option maxRecDepth 100000 in
theorem Tryz.String_some (b g cap : Nat) (cur : Array Value) (fr : Nat × Nat) (l : List UInt8) (w : World) (h1 : w.cell? ⟨b, 6, none⟩ = some (.slice (some ⟨g, 0, none⟩) l.length cap)) (hg : w.heap[g]? = some (.cells cur 5 fr)) (h0 : l ≠ []) (hl : l.length ≤ cap) (hm : l.length ≤ 9223372036854775807) (hn : l.length ≤ cur.size)
    (hc : ∀ (j : Nat) (x : UInt8), l[j]? = some x → cur[j]? = some (Value.int .u8 x.toNat)) :
    Calls Tryz.prog 31 #[.pointer (some ⟨b, 5, none⟩)] w fun e w' => e = .returned (.string ⟨l.toArray⟩) ∧ w' = w.drew.freeze ⟨g, 0, none⟩ l.length := by
  have hl0 : l.length ≠ 0 := by simpa using h0
  have c1 : w.drew.cell? ⟨b, 6, none⟩ = some (.slice (some ⟨g, 0, none⟩) l.length cap) := h1
  have hSD : (Builtin.unsafeSliceData_ #[24 ] 116 #[.slice (some ⟨g, 0, none⟩) l.length cap]).run Tryz.prog w.drew = .ok (.pointer (some ⟨g, 0, none⟩)) w.drew :=
    Lib.run_unsafeSliceData_row _ _ _ _ _ _ (by omega)
  have hUS : (Builtin.unsafeString_ #[116, 3 ] 9 #[.pointer (some ⟨g, 0, none⟩), .int .i64 l.length]).run Tryz.prog w.drew = .ok (.string ⟨l.toArray⟩) (w.drew.freeze ⟨g, 0, none⟩ l.length) := by
    refine Lib.run_unsafeString_row w.drew 116 3 9 5 Tryz.underlying116 (by kernel_rfl) g cur.size (by have hg' : w.drew.heap[g]? = some (.cells cur 5 fr) := hg; simp [World.shape?, hg']) l h0 hn hm ?_
    intro j x hx
    have hg' : w.drew.heap[g]? = some (.cells cur 5 fr) := hg
    have := hc j x hx
    rw [show (⟨g, 0, none⟩ : Addr).add j = ⟨g, j, none⟩ from by cases j <;> simp [Addr.add], Lib.cell_of_heap hg']
    exact this
  go_enter Tryz.func31, Tryz.f31
  go_wp2
  go_region
  all_goals (go_wp2; go_ret; exact ⟨rfl, rfl⟩)
set_option maxHeartbeats 1000000 in
set_option maxRecDepth 100000 in
theorem Tryz.String_nil (b : Nat) (w : World) (h1 : w.cell? ⟨b, 6, none⟩ = some (.slice none 0 0)) :
    Calls Tryz.prog 31 #[.pointer (some ⟨b, 5, none⟩)] w fun e w' => e = .returned (.string ⟨#[]⟩) ∧ w' = w.drew := by
  have c1 : w.drew.cell? ⟨b, 6, none⟩ = some (.slice none 0 0) := h1
  have hSD : (Builtin.unsafeSliceData_ #[24 ] 116 #[.slice none 0 0]).run Tryz.prog w.drew = .ok (.pointer none) w.drew := rfl
  have hUS : ∀ (W : World) (q : Option Addr), (Builtin.unsafeString_ #[116, 3 ] 9 #[.pointer q, .int .i64 0]).run Tryz.prog W = .ok (.string .empty) W := fun W q => Lib.run_unsafeString_none W _ _ _ q
  go_enter Tryz.func31, Tryz.f31
  go_wp2
  go_region
  all_goals (go_wp2; go_ret; exact ⟨rfl, rfl⟩)
end Go.Proofs
namespace Go.Proofs.YtameljhbkedhjaaGreatDoor
open Go Go.Vc Go.Proofs
set_option linter.unusedVariables false
set_option linter.unusedSimpArgs false
variable {H H0 : Heap} {R : Value → Heap → Prop} {v : Value} {B : List Bool} {L M : List It} {b : Nat} {q : List Value} {W out : List UInt8}
def bufT (v : Value) (out : List UInt8) : Thing where
  foot k := blkOf v = some k
  holds H := (v = .slice none 0 0 ∧ out = []) ∨ (out ≠ [] ∧ ∃ (g cap : Nat) (sp : List Value) (fr : Nat × Nat), v = .slice (some ⟨g, 0, none⟩) out.length cap ∧ H[g]? = some (.cells (out.map byteV ++ sp).toArray 5 fr) ∧ Thawed fr cap ∧ out.length + sp.length = cap)
  frame := fun h hf => by
    rcases h with h | ⟨h0, g, cap, sp, fr, rfl, h1, h2⟩
    · exact .inl h
    · exact .inr ⟨h0, g, cap, sp, fr, rfl, (hf g rfl).trans h1, h2⟩
  lt := fun h hf => by
    rcases h with ⟨rfl, _⟩ | ⟨h0, g, cap, sp, fr, rfl, h1, h2⟩
    · simp [blkOf] at hf
    · simp only [blkOf, Option.some.injEq] at hf; subst hf; exact lt_of_blk h1
theorem bytes_one (l : List UInt8) : (l.map byteV).all oneCell = true := by simp [oneCell]
theorem buf_app {K : Value → Heap → Prop} {x : Value} {new : List UInt8} (o : Owns H0 H L) (hin : Sel (.thing (bufT v out)) L M) (hlen : lenV x = some new.length) (hcells : cellsOf H 1 x = some (new.map byteV)) (hsize : out.length + new.length ≤ 140737488355328)
    (hk : ∀ v' H', Owns H0 H' (.thing (bufT v' (out ++ new)) :: M) → K v' H') : pAppend H 5 1 1 [.int .u8 0] v x K := by
  have o1 := o.front hin
  have hh := o1.thing (T := bufT v out) List.mem_cons_self
  have key : ∀ v' H', H.size ≤ H'.size → (∀ k, k < H.size → blkOf v ≠ some k → H'[k]? = H[k]?) → (bufT v' (out ++ new)).holds H' → (∀ k, blkOf v' = some k → blkOf v = some k ∨ H.size ≤ k) → K v' H' :=
    fun v' H' h1 h2 h3 h4 => hk v' H' (o1.turn Rep.here h1 h2 h3 h4)
  rcases hh with ⟨rfl, rfl⟩ | ⟨h0, g, cap, sp, fr, rfl, hb, hf, hc⟩
  · simp only [pAppend, hlen, hcells]
    refine ⟨fun hle => ?_, fun hlt => ?_⟩
    · have : new = [] := List.length_eq_zero_iff.1 (by omega)
      subst this
      exact key _ H (Nat.le_refl _) (fun _ _ _ => rfl) (.inl ⟨rfl, rfl⟩) (fun k hk => .inl hk)
    · refine ⟨by simp at hsize; omega, ?_⟩
      simp only [cellsOf, List.nil_append]
      intro c hc
      refine key _ _ (by simp) (fun i hi _ => get_push_lt hi) (.inr ⟨by intro e; rw [List.append_eq_nil_iff] at e; rw [e.2] at hlt; simp at hlt, H.size, c, repL [.int .u8 0] (c - (0 + new.length)), (0, 0), by simp, ?_, .inl rfl, ?_⟩) (fun k hk => ?_)
      · exact get_push_self
      · rw [repL_len]; simp; omega
      · simp only [blkOf, Option.some.injEq] at hk; right; omega
  · simp only [pAppend, hlen, hcells]
    refine ⟨fun hle => ?_, fun hlt => ?_⟩
    · simp only [add_mk, Nat.zero_add, Nat.mul_one]
      have hsp : new.length ≤ sp.length := by omega
      rw [setsAt_thaw hf (new.map byteV) H out.length 0 (out.map byteV ++ sp) hb (bytes_one new) (by simp; omega) (by simp; omega)]
      simp only [Nat.add_zero]
      have hp := putL_mid (new.map byteV) (out.map byteV) sp (by simpa using hsp)
      rw [List.length_map] at hp
      rw [hp, List.length_map]
      refine key _ _ (by simp) (fun i hi hne => get_set_ne (by intro e; subst e; exact hne rfl)) (.inr ⟨by simp [h0], g, cap, sp.drop new.length, fr, by simp, ?_, hf, ?_⟩) (fun k hk => .inl hk)
      · rw [List.map_append]; exact get_set_self (lt_of_blk hb)
      · rw [List.length_append, List.length_drop]; omega
    · refine ⟨by omega, ?_⟩
      have hr : cellsOf H 1 (.slice (some ⟨g, 0, none⟩) out.length cap) = some (out.map byteV) := by
        have := (Own.sl (by decide) (.inr ⟨g, out.length, cap, sp, rfl, ⟨⟨_, fr, hb, by simpa using hf⟩, by simp, by simp; omega⟩⟩ : Own H (.slice (some ⟨g, 0, none⟩) out.length cap) 1 (out.map byteV))).cellsOf
        exact this
      rw [hr]
      intro c hc2
      refine key _ _ (by simp) (fun i hi _ => get_push_lt hi) (.inr ⟨by simp [h0], H.size, c, repL [.int .u8 0] (c - (out.length + new.length)), (0, 0), by simp, ?_, .inl rfl, ?_⟩) (fun k hk => ?_)
      · rw [List.map_append]; exact get_push_self
      · rw [repL_len, List.length_append]; simp; omega
      · simp only [blkOf, Option.some.injEq] at hk; right; omega
def Dc (H0 H : Heap) (b : Nat) (q : List Value) (B : List Bool) (W out : List UInt8) (L : List It) : Prop :=
  ∃ bp bv, (bp = .pointer none ∨ bp = at_ b 5) ∧ oneCell bv = true ∧ WinO H0 H b (bp :: bv :: q) 76 B W (.thing (bufT bv out) :: L)
def Idle (H0 H : Heap) (b : Nat) (q : List Value) (B : List Bool) (W : List UInt8) (L : List It) : Prop :=
  ∃ bp bv, oneCell bp = true ∧ oneCell bv = true ∧ WinO H0 H b (bp :: bv :: q) 76 B W L
theorem pStore_setAt {K : Value → Heap → Prop} {a : Addr} {x : Value} (h : pStore H (.pointer (some a)) x K) : K undef (setAt H (a.add 0) x) := by
  simp only [pStore, setsAt] at h
  cases hc : cellAt H (a.add 0) with
  | none => simp only [hc] at h
  | some y =>
    simp only [hc] at h
    cases hq : frozenAt H (a.add 0) with
    | true => simp only [hq, cond_true] at h
    | false =>
      cases ho : oneCell x with
      | false => simp only [hq, ho, cond_false] at h
      | true => simpa only [hq, ho, cond_false, cond_true] using h
theorem copyCheck_spec {bp bv : Value} (hq : q.length = 7) (hbp : bp = .pointer none ∨ bp = at_ b 5) (w : WinO H0 H b (bp :: bv :: q) 76 B W L)
    (h : ∀ H', WinO H0 H' b (at_ b 5 :: bv :: q) 76 B W L → R (.tuple #[]) H') : CallsH Tryz.prog 103 #[at_ b 5] H R := by
  obtain ⟨rv, ring, hr, hs, o⟩ := id w
  obtain ⟨rest, acc, n, h1, -⟩ := o.thing (T := rdP b (rv :: i64 W.length :: bp :: bv :: q) 76 B) (by repeat (first | exact List.mem_cons_self | apply List.mem_cons_of_mem))
  intro wd hw
  subst hw
  have hc := Lib.cell_of_heap h1 5
  rcases hbp with rfl | rfl
  · have hst := w.ps (K := fun _ H' => R (.tuple #[]) H') (g := 5) (x := at_ b 5) (by decide) (by simp) rfl (fun H' w' => h H' w')
    have := pStore_setAt hst
    refine (Tryz.copyCheck_fresh b wd hc ?_ (Lib.frozen_of_heap h1 5)).mono fun e w' ⟨he, hw'⟩ => ⟨_, he, ?_, ?_⟩
    · simp [World.shape?, h1, hq]
    · subst hw'; exact ⟨rfl, rfl, rfl, by first | exact Nat.le_refl _ | exact Nat.le_succ _⟩
    · subst hw'; exact this
  · exact (Tryz.copyCheck_used b 5 wd hc).mono fun e w' ⟨he, hw'⟩ => ⟨_, he, by subst hw'; exact Rest.refl _, by subst hw'; exact h _ w⟩
theorem buf_one (o : Owns H0 H L) (h : It.thing (bufT v out) ∈ L) : oneCell v = true := by
  rcases o.thing h with ⟨rfl, _⟩ | ⟨_, _, _, _, _, rfl, _⟩ <;> rfl
theorem bwrite_core {x : Value} {new : List UInt8} {bv : Value} (hq : q.length = 7) (hn : out.length + new.length ≤ 140737488355328) (w : WinO H0 H b (at_ b 5 :: bv :: q) 76 B W (.thing (bufT bv out) :: L))
    (hlen : lenV x = some new.length) (hcells : cellsOf H 1 x = some (new.map byteV)) (h : ∀ H', Dc H0 H' b q B W (out ++ new) L → R undef H') :
    pNil (at_ b 5) fun x10 => pFieldAddr 1 x10 fun x11 => pLoad H x11 fun x12 => pAppend H 5 1 1 [(.int .u8 0)] x12 x fun x14 H_2 => pNil (at_ b 5) fun x15 => pFieldAddr 1 x15 fun x16 => pStore H_2 x16 x14 R := by
  rw [pNil_v, pFieldAddr_v, add_mk]
  refine w.pl (g := 5 + 1) (x := bv) (by decide) rfl ?_
  obtain ⟨rv, ring, hr, hs, o⟩ := w.slow
  refine buf_app o (by repeat (first | exact Sel.here | apply Sel.there)) hlen hcells hn fun v' H2 o => ?_
  have h1 := buf_one o (by repeat (first | exact List.mem_cons_self | apply List.mem_cons_of_mem))
  have w := WinO.fast hr hs o
  rw [pNil_v, pFieldAddr_v, add_mk]
  refine w.ps (g := 5 + 1) (by decide) (by simp) h1 fun H3 w => ?_
  exact h H3 ⟨_, v', .inr rfl, h1, w⟩
theorem bwriteS7 {s : List UInt8} (hq : q.length = 7) (hs : out.length + s.length ≤ 140737488355328) (d : Dc H0 H b q B W out L) (h : ∀ H', Dc H0 H' b q B W (out ++ s) L → R (.tuple #[i64 s.length, .nilIface]) H') : CallsH Tryz.prog 89 #[at_ b 5, str s] H R := by
  obtain ⟨bp, bv, hbp, hbv, w⟩ := d
  refine strings_Builder_WriteString.vc _ _ _ _ ?_
  unfold strings_Builder_WriteString.res
  refine copyCheck_spec hq hbp w fun H1 w => ?_
  refine bwrite_core (x := str s) (new := s) hq hs w (by simp [lenV, bys_mk]) (by simp [cellsOf, bys_mk]) fun H2 d => ?_
  refine pLenS_to ?_
  exact h H2 d
theorem bwriteB7 {x : UInt8} (hq : q.length = 7) (hs : out.length + 1 ≤ 140737488355328) (d : Dc H0 H b q B W out L) (h : ∀ H', Dc H0 H' b q B W (out ++ [x]) L → R .nilIface H') : CallsH Tryz.prog 93 #[at_ b 5, byteV x] H R := by
  obtain ⟨bp, bv, hbp, hbv, w⟩ := d
  refine strings_Builder_WriteByte.vc _ _ _ _ ?_
  unfold strings_Builder_WriteByte.res
  refine copyCheck_spec hq hbp w fun H1 w => ?_
  rw [pNil_v, pFieldAddr_v, add_mk]
  refine w.pl (g := 5 + 1) (x := bv) (by decide) rfl ?_
  obtain ⟨rv, ring, hr, hs2, o⟩ := w.slow
  refine o.build1 (sz := 1) (by decide) rfl rfl fun y H2 o => ?_
  have hS := o.sl (v := y) (by repeat (first | exact List.mem_cons_self | apply List.mem_cons_of_mem))
  refine buf_app (new := [x]) o (by repeat (first | exact Sel.here | apply Sel.there)) (hS.lenV (n := 1) rfl (by decide)) hS.cellsOf hs fun v' H2 o => ?_
  have h1 := buf_one o (by repeat (first | exact List.mem_cons_self | apply List.mem_cons_of_mem))
  have w := WinO.fast hr hs2 o.drop2
  rw [pNil_v, pFieldAddr_v, add_mk]
  refine w.ps (g := 5 + 1) (by decide) (by simp) h1 fun H3 w => ?_
  exact h H3 ⟨_, v', .inr rfl, h1, w⟩
theorem breset7 (hq : q.length = 7) (d : Idle H0 H b q B W L) (h : ∀ H', Dc H0 H' b q B W [] L → R (.tuple #[]) H') : CallsH Tryz.prog 29 #[at_ b 5] H R := by
  obtain ⟨bp, bv, hbp, hbv, w⟩ := d
  refine strings_Builder_Reset.vc _ _ _ ?_
  unfold strings_Builder_Reset.res
  rw [pNil_v, pFieldAddr_v, add_mk]
  refine w.ps (g := 5 + 0) (by decide) (by simp) rfl fun H1 w => ?_
  rw [pNil_v, pFieldAddr_v, add_mk]
  refine w.ps (g := 5 + 1) (by decide) (by simp) rfl fun H2 w => ?_
  refine h H2 ⟨.pointer none, .slice none 0 0, .inl rfl, rfl, ?_⟩
  obtain ⟨rv, ring, hr, hs, o⟩ := w
  refine WinO.fast (rv := rv) hr hs ?_
  exact o.add (Ext.refl _) (i := .thing (bufT (.slice none 0 0) [])) (.inl ⟨rfl, rfl⟩) (by intro k hk; simp [It.foot, bufT, blkOf] at hk)
def noneT : Thing where
  foot _ := False
  holds _ := True
  frame := fun _ _ => trivial
  lt := fun _ h => h.elim
theorem bstring7 (hq : q.length = 7) (hs : out.length ≤ 140737488355328) (d : Dc H0 H b q B W out L) (h : ∀ H', Idle H0 H' b q B W L → R (str out) H') : CallsH Tryz.prog 31 #[at_ b 5] H R := by
  obtain ⟨bp, bv, hbp, hbv, w⟩ := d
  have hbp1 : oneCell bp = true := by rcases hbp with rfl | rfl <;> rfl
  obtain ⟨rv, ring, hr, hs2, o⟩ := w.slow
  obtain ⟨rest, acc, n, h1, -⟩ := o.thing (T := rdP b (rv :: i64 W.length :: bp :: bv :: q) 76 B) (by repeat (first | exact List.mem_cons_self | apply List.mem_cons_of_mem))
  intro wd hw
  subst hw
  have hc : wd.cell? ⟨b, 6, none⟩ = some bv := Lib.cell_of_heap h1 6
  rcases o.thing (T := bufT bv out) (by repeat (first | exact List.mem_cons_self | apply List.mem_cons_of_mem)) with ⟨rfl, rfl⟩ | ⟨h0, g, cap, sp, fr, rfl, hg, hf, hcap⟩
  · refine (Tryz.String_nil b wd hc).mono fun e w' ⟨he, hw'⟩ => ⟨_, he, by subst hw'; exact ⟨rfl, rfl, rfl, by first | exact Nat.le_refl _ | exact Nat.le_succ _⟩, ?_⟩
    subst hw'
    exact h _ ⟨bp, _, hbp1, rfl, rv, ring, hr, hs2, o.pick (List.sublist_cons_self _ _)⟩
  · have hl0 : out.length ≠ 0 := by simpa using h0
    have hfz : (wd.drew.freeze ⟨g, 0, none⟩ out.length).heap = wd.heap.modify g fun
        | .cells c elem (lo, hi) => .cells c elem (if lo == hi then (0, 0 + out.length) else (min lo 0, max hi (0 + out.length)))
        | o => o := by
      unfold World.freeze
      rw [if_neg hl0]
      rfl
    refine (Tryz.String_some b g cap _ fr out wd hc hg h0 (by omega) (by omega) (by simp) ?_).mono fun e w' ⟨he, hw'⟩ => ⟨_, he, ?_, ?_⟩
    · intro j x hx
      have hj := (List.getElem?_eq_some_iff.1 hx).1
      rw [List.getElem?_toArray, List.getElem?_append_left (by simpa using hj), List.getElem?_map, hx]; rfl
    · subst hw'
      unfold World.freeze
      rw [if_neg hl0]
      exact ⟨rfl, rfl, rfl, by first | exact Nat.le_refl _ | exact Nat.le_succ _⟩
    · subst hw'
      have o2 : Owns H0 (wd.drew.freeze ⟨g, 0, none⟩ out.length).heap (.thing noneT :: rdI b (rv :: i64 W.length :: bp :: .slice (some ⟨g, 0, none⟩) out.length cap :: q) 76 B :: .sl rv 1 (ring.map byteV) :: L) := by
        rw [hfz]
        refine o.turn Rep.here (by simp) (fun k hk hne => ?_) trivial (fun k hk => hk.elim)
        rw [Array.getElem?_modify, if_neg]
        intro e
        exact hne (by simp [It.foot, bufT, blkOf, e])
      exact h _ ⟨bp, _, hbp1, rfl, rv, ring, hr, hs2, o2.pick (List.sublist_cons_self _ _)⟩
end Go.Proofs.YtameljhbkedhjaaGreatDoor
namespace Go.Proofs.YtameljhbkedhjaaGreatDoor
open Go Go.Vc Go.Proofs
set_option linter.unusedVariables false
set_option linter.unusedSimpArgs false
variable {H H0 : Heap} {R : Value → Heap → Prop} {v fed : Value} {B : List Bool} {L M : List It} {b : Nat} {q : List Value} {W out : List UInt8}
theorem inf_xor {a b : Nat} (ha : a < 4611686018427387904) (hb : b < 4611686018427387904) : bitsOf .xor .i64 (a : Int) (b : Int) = ((a ^^^ b : Nat) : Int) := by
  have hlt : a ^^^ b < 2 ^ 62 := Nat.xor_lt_two_pow (by simpa using ha) (by simpa using hb)
  have e : ((BitVec.ofInt 64 (a : Int)) ^^^ (BitVec.ofInt 64 (b : Int))).toNat = a ^^^ b := by
    rw [BitVec.toNat_xor, BitVec.ofInt_natCast, BitVec.ofInt_natCast, BitVec.toNat_ofNat, BitVec.toNat_ofNat, Nat.mod_eq_of_lt (by omega), Nat.mod_eq_of_lt (by omega)]
  show IntKind.i64.wrap ((((BitVec.ofInt 64 (a : Int)) ^^^ (BitVec.ofInt 64 (b : Int))).toNat : Nat) : Int) = _
  rw [e, w64 (by omega) (by omega)]
def AnyQ (fed : Value) (q : List Value) : Prop := ∃ (n : Nat) (last left sy di : Value), q = [i64 n, last, left, sy, di, fed, .int .i64 0] ∧ n < 3 ∧ oneCell last = true ∧ oneCell left = true ∧ oneCell sy = true ∧ oneCell di = true
def StQ (L : List It) (fed : Value) (s : St) (q : List Value) : Prop := ∃ (st last left sy di : Value), q = [st, last, left, sy, di, fed, .int .i64 0] ∧ oneCell last = true ∧ oneCell left = true ∧ oneCell sy = true ∧ oneCell di = true ∧ match s with
  | .hd => st = i64 0
  | .cp n l => st = i64 1 ∧ last = .bool l ∧ left = i64 n
  | .tl zs zd l => st = i64 2 ∧ last = .bool l ∧ HasC L zs sy ∧ HasC L zd di
  | .dn => st = i64 3
theorem StQ.len {s : St} (h : StQ L fed s q) : q.length = 7 := by obtain ⟨_, _, _, _, _, rfl, _⟩ := h; rfl
theorem AnyQ.len (h : AnyQ fed q) : q.length = 7 := by obtain ⟨_, _, _, _, _, rfl, _⟩ := h; rfl
theorem StQ.mono {L' : List It} {s : St} (h : StQ L fed s q) (hm : ∀ i ∈ L, i ∈ L') : StQ L' fed s q := by
  obtain ⟨st, last, left, sy, di, h1, h2, h3, h4, h5, h6⟩ := h
  refine ⟨st, last, left, sy, di, h1, h2, h3, h4, h5, ?_⟩
  cases s with
  | tl zs zd l => exact ⟨h6.1, h6.2.1, h6.2.2.1.mono hm, h6.2.2.2.mono hm⟩
  | _ => exact h6
theorem HasC.one {zs : List Int} {p : Value} (h : HasC L zs p) : oneCell p = true := by obtain ⟨_, _, _, _, _, rfl, _⟩ := h; rfl
theorem Dc.pl {K : Value → Prop} {g : Nat} {x : Value} (d : Dc H0 H b q B W out L) (h7 : 7 ≤ g) (hx : q[g - 7]? = some x) (hk : K x) : pLoad H (at_ b g) K := by
  obtain ⟨bp, bv, hbp, hbv, w⟩ := d
  refine w.pl (x := x) (by omega) ?_ hk
  obtain ⟨j, rfl⟩ : ∃ j, g = j + 7 := ⟨g - 7, by omega⟩
  simp only [Nat.add_sub_cancel] at hx
  rw [show j + 7 - 5 = j + 1 + 1 by omega]
  exact hx
theorem Dc.ps {K : Value → Heap → Prop} {g : Nat} {x : Value} (d : Dc H0 H b q B W out L) (h7 : 7 ≤ g) (hg : g - 7 < q.length) (hx : oneCell x = true) (hk : ∀ H', Dc H0 H' b (q.set (g - 7) x) B W out L → K undef H') : pStore H (at_ b g) x K := by
  obtain ⟨bp, bv, hbp, hbv, w⟩ := d
  refine w.ps (by omega) (by simp; omega) hx fun H' w => hk H' ⟨bp, bv, hbp, hbv, ?_⟩
  obtain ⟨j, rfl⟩ : ∃ j, g = j + 7 := ⟨g - 7, by omega⟩
  rw [show j + 7 - 5 = j + 1 + 1 by omega] at w
  exact w
theorem Dc.rd (d : Dc H0 H b q B W out L) : ∃ (post : List Value) (rv bv : Value) (ring : List UInt8), Owns H0 H (rdI b post 76 B :: .sl rv 1 (ring.map byteV) :: .thing (bufT bv out) :: L) ∧ ∀ H' C M, Owns H0 H' (rdI b post 76 C :: .sl rv 1 (ring.map byteV) :: .thing (bufT bv out) :: M) → Dc H0 H' b q C W out M := by
  obtain ⟨bp, bv, hbp, hbv, rv, ring, hr, hs, o⟩ := d
  exact ⟨_, rv, bv, ring, o, fun H' C M o => ⟨bp, bv, hbp, hbv, rv, ring, hr, hs, o⟩⟩
theorem owns_m2 {M : List It} {i j k : It} (o : Owns H0 H (i :: (M ++ j :: k :: L))) : Owns H0 H (i :: j :: k :: (M ++ L)) := by
  refine o.perm (List.Perm.cons _ ?_)
  refine List.Perm.symm (List.perm_middle.trans (List.Perm.cons _ List.perm_middle))
theorem stored_spec (d : Dc H0 H b q B W out L)
    (hok : ∀ x C H', needM 32 (alB B) = .ok x C → (x % 65536) ^^^ (x / 65536) = 65535 → Dc H0 H' b q C W out L → R (.tuple #[i64 (x % 65536), .int .i64 0]) H')
    (hbad : ∀ x C H', needM 32 (alB B) = .ok x C → (x % 65536) ^^^ (x / 65536) ≠ 65535 → Dc H0 H' b q C W out L → R (.tuple #[i64 (x % 65536), .int .i64 8]) H')
    (her : ∀ H', needM 32 (alB B) = .er 2 → Dc H0 H' b q (alB B) W out L → R (.tuple #[i64 0, .int .i64 2]) H') : CallsH Tryz.prog 85 #[at_ b 0] H R := by
  obtain ⟨post, rv, bv, ring, o, back⟩ := d.rd
  refine inflate_storedLength.vc _ _ _ ?_
  unfold inflate_storedLength.res
  refine rAlign_spec (rdP_rd o (by repeat (first | exact List.mem_cons_self | apply List.mem_cons_of_mem))) fun H1 w c => ?_
  have o := o.rd w c Rep.here
  change Owns H0 H1 (rdI b post 76 (alB B) :: _) at o
  refine need_spec (n := 32) (by decide) o (fun x C H2 hx hx32 o => ?_) (fun hx => ?_)
  · refine pExtract_to rfl ?_
    refine pExtract_to rfl ?_
    have a1 := and_i64 (v := x) (k := 16) (m := 65535) (by decide) rfl
    rw [show (2 : Nat) ^ 16 = 65536 from rfl] at a1
    have e1 : bitsOf .xor .i64 ((x % 65536 : Nat) : Int) ((x / 65536 : Nat) : Int) = (((x % 65536) ^^^ (x / 65536) : Nat) : Int) := inf_xor (by omega) (by omega)
    refine ⟨fun e H' => H2 = H' ∧ e = if (x % 65536) ^^^ (x / 65536) ≠ 65535 then .int .i64 8 else .int .i64 0, ?_, ?_⟩
    · rintro _ _ _ ⟨rfl, rfl⟩
      rw [pBits_v, a1]
      by_cases hb : (x % 65536) ^^^ (x / 65536) ≠ 65535
      · rw [if_pos hb]; exact hbad x C H2 hx hb (back _ _ _ o)
      · rw [if_neg hb]; exact hok x C H2 hx (Decidable.not_not.1 hb) (back _ _ _ o)
    · rw [pEq_0, decide_eq_true rfl]
      refine pAnd_true ?_
      rw [pBits_v, a1, pShr_v]
      refine ⟨by decide, ?_⟩
      rw [fdiv_nat (m := min (Int.toNat 16) IntKind.i64.bits) (j := 16) rfl, show (2 : Nat) ^ 16 = 65536 from rfl, pBits_v, e1, pNe_0]
      intro _
      by_cases hb : (x % 65536) ^^^ (x / 65536) ≠ 65535
      · rw [decide_eq_true (by omega), pCond_true, if_pos hb]; exact ⟨rfl, rfl⟩
      · rw [decide_eq_false (by omega), pCond_false, if_neg hb]; exact ⟨rfl, rfl⟩
  · refine pExtract_to rfl ?_
    refine pExtract_to rfl ?_
    refine ⟨fun e H' => H1 = H' ∧ e = .int .i64 2, ?_, ?_⟩
    · rintro _ _ _ ⟨rfl, rfl⟩
      rw [pBits_v]
      exact her H1 hx (back _ _ _ o)
    · rw [pEq_0, decide_eq_false (by decide), pAnd_false]
      intro _
      rw [pCond_false]
      exact ⟨rfl, rfl⟩
theorem head_spec7 (hG : Reads H0 ⟨1, 0, none⟩ ordV) (hq : AnyQ fed q) (d : Dc H0 H b q B W out L)
    (hok : ∀ st C H' M q', headM B = .ok st C → Dc H0 H' b q' C W out (M ++ L) → StQ (M ++ L) fed st q' → R (.int .i64 0) H')
    (her : ∀ e H' C q', headM B = .er e → e ≠ 0 → Dc H0 H' b q' C W out L → AnyQ fed q' → R (.int .i64 e) H') : CallsH Tryz.prog 60 #[at_ b 0] H R := by
  obtain ⟨n, last, left, sy, di, rfl, hn3, hla, hle, hsy, hdi⟩ := hq
  generalize hT : headM B = T at *
  unfold headM at hT
  refine inflate_Decoder_head.vc _ _ _ ?_
  unfold inflate_Decoder_head.res
  rw [pNil_v, pFieldAddr_v, add_mk]
  obtain ⟨post, rv, bv, ring, o, back⟩ := d.rd
  refine need_spec (n := 3) (by decide) o (fun x C1 H1 hx hx3 o => ?_) (fun hx => ?_)
  rotate_left
  · rw [hx] at hT
    refine pExtract_to rfl ?_
    refine pExtract_to rfl ?_
    refine ne_er (by decide) ?_
    rw [pCond_true]
    exact her 2 H B _ hT.symm (by decide) d ⟨n, last, left, sy, di, rfl, hn3, hla, hle, hsy, hdi⟩
  rw [hx] at hT
  dsimp only [Rs.bind] at hT
  have d := back _ _ _ o
  refine pExtract_to rfl ?_
  refine pExtract_to rfl ?_
  refine ne_ok ?_
  rw [pCond_false]
  have hx8 : x < 8 := hx3
  have a1 := and_i64 (v := x) (k := 1) (m := 1) (by decide) rfl
  rw [show (2 : Nat) ^ 1 = 2 from rfl] at a1
  refine ⟨fun e H' => ∃ q' C M, Dc H0 H' b q' C W out (M ++ L) ∧ ((e = .int .i64 0 ∧ ∀ lastV, ∃ st, lastV = .bool (decide (x % 2 = 1)) → T = .ok st C ∧ StQ (M ++ L) fed st (q'.set 1 lastV)) ∨ (∃ ev, e = .int .i64 ev ∧ T = .er ev ∧ ev ≠ 0 ∧ AnyQ fed q' ∧ M = [])), ?_, ?_⟩
  · rintro _ _ H2 ⟨q', C, M, d, hd⟩
    rw [pBits_v, a1, pEq_0, pNil_v, pFieldAddr_v, add_mk]
    have hl7 : 7 = q'.length := by
      rcases hd with ⟨_, h⟩ | ⟨ev, _, _, _, h, _⟩
      · obtain ⟨st, h⟩ := h (.bool (decide (x % 2 = 1)))
        have := (h rfl).2.len
        rw [List.length_set] at this
        exact this.symm
      · exact h.len.symm
    refine d.ps (g := 0 + 8) (by decide) (by omega) rfl fun H3 d => ?_
    have eb : (decide (((x % 2 : Nat) : Int) = 1)) = decide (x % 2 = 1) := by rw [Bool.eq_iff_iff, decide_eq_true_eq, decide_eq_true_eq]; omega
    rw [eb] at d
    rcases hd with ⟨rfl, h⟩ | ⟨ev, rfl, h1, h2, h3, rfl⟩
    · obtain ⟨st, h⟩ := h (.bool (decide (x % 2 = 1)))
      obtain ⟨h1, h2⟩ := h rfl
      exact hok st C H3 M _ h1 d h2
    · refine her ev H3 C _ h1 h2 d ?_
      obtain ⟨n, last, left, sy, di, rfl, g1, g2, g3, g4, g5⟩ := h3
      exact ⟨n, _, left, sy, di, rfl, g1, rfl, g3, g4, g5⟩
  rw [pShr_v]
  refine ⟨by decide, ?_⟩
  rw [fdiv_nat (m := min (Int.toNat 1) IntKind.i64.bits) (j := 1) rfl, show (2 : Nat) ^ 1 = 2 from rfl, pEq_0]
  refine pCond_if (fun h0 => ?_) (fun h0 => ?_)
  · rw [if_pos (by omega)] at hT
    rw [pNil_v, pFieldAddr_v, add_mk]
    have fin : ∀ (nv : Nat) (ev : Int) (C : List Bool) (H2 : Heap), Dc H0 H2 b [i64 n, last, left, sy, di, fed, .int .i64 0] C W out L → ((ev = 0 ∧ T = .ok (.cp nv (decide (x % 2 = 1))) C) ∨ (T = .er ev ∧ ev ≠ 0)) →
        pNil (at_ b 0) fun x27 => pFieldAddr 9 x27 fun x28 => pStore H2 x28 (i64 nv) fun _ H_6 => pNil (at_ b 0) fun x30 => pFieldAddr 7 x30 fun x31 => pStore H_6 x31 (.int .i64 1) fun _ H_7 =>
        (∃ q' C M, Dc H0 H_7 b q' C W out (M ++ L) ∧ (((.int .i64 ev : Value) = .int .i64 0 ∧ ∀ lastV, ∃ st, lastV = .bool (decide (x % 2 = 1)) → T = .ok st C ∧ StQ (M ++ L) fed st (q'.set 1 lastV)) ∨ (∃ ev', (.int .i64 ev : Value) = .int .i64 ev' ∧ T = .er ev' ∧ ev' ≠ 0 ∧ AnyQ fed q' ∧ M = []))) := by
      intro nv ev C H2 d hh
      rw [pNil_v, pFieldAddr_v, add_mk]
      refine d.ps (g := 0 + 9) (by decide) (by simp) rfl fun H3 d => ?_
      rw [pNil_v, pFieldAddr_v, add_mk]
      refine d.ps (g := 0 + 7) (by decide) (by simp) rfl fun H4 d => ?_
      refine ⟨_, C, [], d, ?_⟩
      rcases hh with ⟨rfl, h⟩ | ⟨h1, h2⟩
      · exact .inl ⟨rfl, fun lastV => ⟨.cp nv (decide (x % 2 = 1)), fun e => by subst e; exact ⟨h, _, _, _, _, _, rfl, rfl, rfl, hsy, hdi, rfl, rfl, rfl⟩⟩⟩
      · exact .inr ⟨ev, rfl, h1, h2, ⟨1, last, i64 nv, sy, di, rfl, by decide, hla, rfl, hsy, hdi⟩, rfl⟩
    refine stored_spec d (fun y C H2 hy hxor d => ?_) (fun y C H2 hy hxor d => ?_) (fun H2 hy d => ?_)
    · refine pExtract_to rfl ?_
      refine pExtract_to rfl ?_
      rw [hy] at hT
      dsimp only [Rs.bind] at hT
      rw [if_neg (fun g => g hxor)] at hT
      exact fin (y % 65536) 0 C H2 d (.inl ⟨rfl, hT.symm⟩)
    · refine pExtract_to rfl ?_
      refine pExtract_to rfl ?_
      rw [hy] at hT
      dsimp only [Rs.bind] at hT
      rw [if_pos hxor] at hT
      exact fin (y % 65536) 8 C H2 d (.inr ⟨hT.symm, by decide⟩)
    · refine pExtract_to rfl ?_
      refine pExtract_to rfl ?_
      rw [hy] at hT
      exact fin 0 2 _ H2 d (.inr ⟨hT.symm, by decide⟩)
  rw [if_neg (by omega)] at hT
  rw [pEq_0]
  refine pCond_if (fun h1 => ?_) (fun h1 => ?_)
  · rw [if_pos (by omega)] at hT
    refine fixed_spec o fun H2 M p r hp hr o => ?_
    have d := back H2 C1 (M ++ L) (owns_m2 o.mid |> fun o => o.perm (by
      refine List.Perm.cons _ (List.Perm.cons _ ?_)
      exact List.Perm.refl _))
    refine pExtract_to rfl ?_
    refine pExtract_to rfl ?_
    rw [pNil_v, pFieldAddr_v, add_mk]
    refine d.ps (g := 0 + 10) (by decide) (by simp) hp.one fun H3 d => ?_
    rw [pNil_v, pFieldAddr_v, add_mk]
    refine d.ps (g := 0 + 11) (by decide) (by simp) hr.one fun H4 d => ?_
    rw [pNil_v, pFieldAddr_v, add_mk]
    refine d.ps (g := 0 + 7) (by decide) (by simp) rfl fun H5 d => ?_
    exact ⟨_, C1, M, d, .inl ⟨rfl, fun lastV => ⟨.tl fixL fixD (decide (x % 2 = 1)), fun e => by subst e; exact ⟨hT.symm, _, _, _, _, _, rfl, rfl, hle, hp.one, hr.one, rfl, rfl, hp.appl, hr.appl⟩⟩⟩⟩
  rw [if_neg (by omega)] at hT
  rw [pEq_0]
  refine pCond_if (fun h2 => ?_) (fun h2 => ?_)
  · rw [if_pos (by omega)] at hT
    rw [pNil_v, pFieldAddr_v, add_mk]
    refine dynamic_spec hG o (fun p C H2 M y z hd hy hz o => ?_) (fun e C H2 y z hd he hy hz o => ?_)
    · rw [hd] at hT
      dsimp only [Rs.bind] at hT
      have d := back H2 C (M ++ L) (owns_m2 o)
      refine pExtract_to rfl ?_
      refine pExtract_to rfl ?_
      refine pExtract_to rfl ?_
      rw [pNil_v, pFieldAddr_v, add_mk]
      refine d.ps (g := 0 + 10) (by decide) (by simp) hy.one fun H3 d => ?_
      rw [pNil_v, pFieldAddr_v, add_mk]
      refine d.ps (g := 0 + 11) (by decide) (by simp) hz.one fun H4 d => ?_
      rw [pNil_v, pFieldAddr_v, add_mk]
      refine d.ps (g := 0 + 7) (by decide) (by simp) rfl fun H5 d => ?_
      exact ⟨_, C, M, d, .inl ⟨rfl, fun lastV => ⟨.tl p.1 p.2 (decide (x % 2 = 1)), fun e => by subst e; exact ⟨hT.symm, _, _, _, _, _, rfl, rfl, hle, hy.one, hz.one, rfl, rfl, hy.appl, hz.appl⟩⟩⟩⟩
    · rw [hd] at hT
      dsimp only [Rs.bind] at hT
      have d := back H2 C L o
      refine pExtract_to rfl ?_
      refine pExtract_to rfl ?_
      refine pExtract_to rfl ?_
      rw [pNil_v, pFieldAddr_v, add_mk]
      refine d.ps (g := 0 + 10) (by decide) (by simp) hy fun H3 d => ?_
      rw [pNil_v, pFieldAddr_v, add_mk]
      refine d.ps (g := 0 + 11) (by decide) (by simp) hz fun H4 d => ?_
      rw [pNil_v, pFieldAddr_v, add_mk]
      refine d.ps (g := 0 + 7) (by decide) (by simp) rfl fun H5 d => ?_
      exact ⟨_, C, [], d, .inr ⟨e, rfl, hT.symm, he, ⟨2, last, left, y, z, rfl, by decide, hla, hle, hy, hz⟩, rfl⟩⟩
  · rw [if_neg (by omega)] at hT
    exact her 3 H1 C1 _ hT.symm (by decide) d ⟨n, last, left, sy, di, rfl, hn3, hla, hle, hsy, hdi⟩
end Go.Proofs.YtameljhbkedhjaaGreatDoor
namespace Go.Proofs.YtameljhbkedhjaaGreatDoor
open Go Go.Vc Go.Proofs
set_option linter.unusedVariables false
set_option linter.unusedSimpArgs false
variable {H H0 : Heap} {R : Value → Heap → Prop} {v fed : Value} {B : List Bool} {L M : List It} {b : Nat} {q : List Value} {W out : List UInt8}
theorem ended_spec {st left sy di : Value} {l : Bool} (h1 : oneCell left = true) (h2 : oneCell sy = true) (h3 : oneCell di = true) (d : Dc H0 H b [st, .bool l, left, sy, di, fed, .int .i64 0] B W out L)
    (h : ∀ H' q', Dc H0 H' b q' (endM l B W).B (endM l B W).W out L → StQ L fed (endM l B W).st q' → R (.tuple #[]) H') : CallsH Tryz.prog 90 #[at_ b 0] H R := by
  refine inflate_Decoder_ended.vc _ _ _ ?_
  unfold inflate_Decoder_ended.res
  rw [pNil_v, pFieldAddr_v, add_mk]
  refine d.ps (g := 0 + 7) (by decide) (by simp) rfl fun H1 d => ?_
  rw [pNil_v, pFieldAddr_v, add_mk]
  refine d.pl (g := 0 + 8) (x := .bool l) (by decide) rfl ?_
  cases l with
  | true =>
    rw [pCond_true, pNil_v, pFieldAddr_v, add_mk]
    refine d.ps (g := 0 + 7) (by decide) (by simp) rfl fun H2 d => ?_
    rw [pNil_v, pFieldAddr_v, add_mk]
    obtain ⟨post, rv, bv, ring, o, back⟩ := d.rd
    refine rAlign_spec (rdP_rd o (by repeat (first | exact List.mem_cons_self | apply List.mem_cons_of_mem))) fun H3 w c => ?_
    have o := o.rd w c Rep.here
    exact h H3 _ (back H3 (alB B) L o) ⟨_, _, _, _, _, rfl, rfl, h1, h2, h3, rfl⟩
  | false =>
    rw [pCond_false]
    exact h H1 _ d ⟨_, _, _, _, _, rfl, rfl, h1, h2, h3, rfl⟩
theorem toBytes_k {l : List Bool} {k : Nat} (h : l.length = 8 * k) : (toBytes l).length = k := toBytes_len k l (by omega)
theorem copied_spec {left : Nat} {last : Bool} (hq : StQ L fed (.cp left last) q) (hl : left ≤ 65535) (hsz : W.length + 258 * B.length ≤ 1000000000000) (ho : out.length ≤ W.length) (d : Dc H0 H b q B W out L)
    (hgo : ∀ D' o H' q', stepM ⟨.cp left last, B, W⟩ = .go D' o → Dc H0 H' b q' D'.B D'.W (out ++ o) L → StQ L fed D'.st q' → R (.int .i64 0) H')
    (hwt : ∀ D' o H' q', stepM ⟨.cp left last, B, W⟩ = .wait D' o → Dc H0 H' b q' D'.B D'.W (out ++ o) L → StQ L fed D'.st q' → R (.int .i64 2) H') : CallsH Tryz.prog 61 #[at_ b 0] H R := by
  obtain ⟨_, _, _, sy, di, rfl, -, -, h4, h5, rfl, rfl, rfl⟩ := hq
  have hq7 : ([i64 1, .bool last, i64 left, sy, di, fed, .int .i64 0] : List Value).length = 7 := rfl
  have hal := alB_len B
  refine inflate_Decoder_copied.vc _ _ _ ?_
  unfold inflate_Decoder_copied.res
  rw [pNil_v, pFieldAddr_v, add_mk, pNil_v, pFieldAddr_v, add_mk]
  refine d.pl (g := 0 + 9) (x := i64 left) (by decide) rfl ?_
  obtain ⟨post, rv, bv, ring, o, back⟩ := d.rd
  refine rTake_spec (n := (left : Int)) (by omega) (rdP_rd o (by repeat (first | exact List.mem_cons_self | apply List.mem_cons_of_mem))) fun H1 k hk w c => ?_
  change k = min (left : Int).toNat ((B.length - B.length % 8) / 8) at hk
  rw [← hal.2, Int.toNat_natCast] at hk
  change Rd H1 b 0 ((alB B).drop (8 * k)) at w
  change pNil (at_ b 0) _
  rw [show List.drop (B.length % 8) B = alB B from rfl]
  have d := back H1 _ L (o.rd w c Rep.here)
  have hkl : 8 * k ≤ (alB B).length := by omega
  have htl : (toBytes ((alB B).take (8 * k))).length = k := toBytes_k (by rw [List.length_take]; omega)
  rw [pNil_v, pFieldAddr_v, add_mk]
  refine d.pl (g := 0 + 9) (x := i64 left) (by decide) rfl ?_
  refine pLenS_to ?_
  rw [htl, pSub_v, show (left : Int) - (k : Int) = ((left - k : Nat) : Int) by omega, w64 (by omega) (by omega), pNil_v, pFieldAddr_v, add_mk]
  refine d.ps (g := 0 + 9) (by decide) (by simp) rfl fun H2 d => ?_
  rw [pNil_v, pFieldAddr_v, add_mk]
  obtain ⟨bp, bv, hbp, hbv, w⟩ := d
  refine wadd7 w (by rw [htl]; omega) fun H3 w => ?_
  have d : Dc H0 H3 b _ _ _ out L := ⟨bp, bv, hbp, hbv, w⟩
  rw [pNil_v, pFieldAddr_v, add_mk]
  refine bwriteS7 (by rfl) (by rw [htl]; omega) d fun H4 d => ?_
  rw [pNil_v, pFieldAddr_v, add_mk]
  refine d.pl (g := 0 + 9) (x := i64 (left - k)) (by decide) rfl ?_
  rw [pGt_v]
  have e1 : stepM ⟨.cp left last, B, W⟩ = if min left ((alB B).length / 8) < left then .wait ⟨.cp (left - min left ((alB B).length / 8)) last, (alB B).drop (8 * min left ((alB B).length / 8)), W ++ toBytes ((alB B).take (8 * min left ((alB B).length / 8)))⟩ (toBytes ((alB B).take (8 * min left ((alB B).length / 8))))
      else .go (endM last ((alB B).drop (8 * left)) (W ++ toBytes ((alB B).take (8 * left)))) (toBytes ((alB B).take (8 * left))) := rfl
  rw [← hk] at e1
  refine pCond_if (fun hc => ?_) (fun hc => ?_)
  · rw [if_pos (by omega)] at e1
    exact hwt _ _ H4 _ e1 d ⟨_, _, _, _, _, rfl, rfl, rfl, h4, h5, rfl, rfl, rfl⟩
  · have hkk : k = left := by omega
    rw [if_neg (by omega)] at e1
    rw [hkk] at d
    refine ended_spec (left := i64 (left - left)) (sy := sy) (di := di) rfl h4 h5 d fun H5 q' d hs => ?_
    exact hgo _ _ H5 _ e1 d hs
theorem lens_facts : ∀ k : Fin 29, 3 ≤ (lenOf (257 + ((k.val : Nat) : Int))).1 ∧ 0 ≤ (lenOf (257 + ((k.val : Nat) : Int))).2 ∧ (lenOf (257 + ((k.val : Nat) : Int))).2 ≤ 5 ∧ (lenOf (257 + ((k.val : Nat) : Int))).1.toNat + 2 ^ (lenOf (257 + ((k.val : Nat) : Int))).2.toNat ≤ 259 := by decide +kernel
theorem dists_facts : ∀ k : Fin 30, 1 ≤ (distOf ((k.val : Nat) : Int)).1 ∧ 0 ≤ (distOf ((k.val : Nat) : Int)).2 ∧ (distOf ((k.val : Nat) : Int)).2 ≤ 13 ∧ (distOf ((k.val : Nat) : Int)).1.toNat + 2 ^ (distOf ((k.val : Nat) : Int)).2.toNat ≤ 32769 := by decide +kernel
theorem extra_spec {least n : Nat} (hn : n ≤ 32) (hl : least ≤ 100000) (d : Dc H0 H b q B W out L)
    (hok : ∀ x C H', needM n B = .ok x C → x < 2 ^ n → Dc H0 H' b q C W out L → R (.tuple #[i64 (least + x), .int .i64 0]) H')
    (her : needM n B = .er 2 → R (.tuple #[i64 least, .int .i64 2]) H) : CallsH Tryz.prog 104 #[at_ b 0, i64 least, i64 n, .bool true] H R := by
  refine inflate_Decoder_extra.vc _ _ _ _ _ _ ?_
  unfold inflate_Decoder_extra.res
  rw [pNot_v, Bool.not_true, pCond_false, pNil_v, pFieldAddr_v, add_mk]
  obtain ⟨post, rv, bv, ring, o, back⟩ := d.rd
  refine need_spec hn o (fun x C H1 hx hxn o => ?_) (fun hx => ?_)
  · refine pExtract_to rfl ?_
    refine pExtract_to rfl ?_
    have : 2 ^ n ≤ 2 ^ 32 := Nat.pow_le_pow_right (by decide) hn
    rw [pAdd_v, show (least : Int) + (x : Int) = ((least + x : Nat) : Int) by omega, w64 (by omega) (by omega)]
    exact hok x C H1 hx hxn (back _ _ _ o)
  · refine pExtract_to rfl ?_
    refine pExtract_to rfl ?_
    rw [pAdd_v, Int.add_zero, w64 (by omega) (by omega)]
    exact her hx
theorem extra_no {x y : Int} (h : R (.tuple #[.int .i64 0, .int .i64 4]) H) : CallsH Tryz.prog 104 #[at_ b 0, .int .i64 x, .int .i64 y, .bool false] H R := by
  refine inflate_Decoder_extra.vc _ _ _ _ _ _ ?_
  unfold inflate_Decoder_extra.res
  rw [pNot_v, Bool.not_false, pCond_true]
  exact h
theorem match_spec7 {zd : List Int} {s : Nat} {st last left sy di e : Value} (hs : 257 ≤ s) (hsz : W.length + 258 * B.length ≤ 1000000000000) (hB : 0 < B.length ∨ W.length + 258 ≤ 1000000000000) (ho : out.length ≤ W.length) (hc : HasC L zd di) (d : Dc H0 H b [st, last, left, sy, di, fed, e] B W out L)
    (hok : ∀ p C H', matchM zd s B = .ok p C → 1 ≤ p.2 ∧ p.2 ≤ min W.length 32768 → Dc H0 H' b [st, last, left, sy, di, fed, e] C (copyN p.1 W p.2) (out ++ (copyN p.1 W p.2).drop W.length) L → R (.int .i64 0) H')
    (hfar : ∀ p C H', matchM zd s B = .ok p C → ¬ (1 ≤ p.2 ∧ p.2 ≤ min W.length 32768) → Dc H0 H' b [st, last, left, sy, di, fed, e] C W out L → R (.int .i64 6) H')
    (her : ∀ ev C H', matchM zd s B = .er ev → ev ≠ 0 → Dc H0 H' b [st, last, left, sy, di, fed, e] C W out L → R (.int .i64 ev) H') : CallsH Tryz.prog 91 #[at_ b 0, i64 s] H R := by
  generalize hT : matchM zd s B = T at *
  unfold matchM at hT
  rcases Nat.lt_or_ge 285 s with h285 | h285
  · rw [if_pos h285] at hT
    refine inflate_Decoder_match.vc _ _ _ _ ?_
    unfold inflate_Decoder_match.res
    refine lengthOf_spec ?_
    rw [if_pos (.inr (by omega))]
    refine pExtract_to rfl ?_
    refine pExtract_to rfl ?_
    refine pExtract_to rfl ?_
    refine extra_no ?_
    refine pExtract_to rfl ?_
    refine pExtract_to rfl ?_
    refine ne_er (by decide) ?_
    rw [pCond_true]
    exact her 4 B H hT.symm (by decide) d
  rw [if_neg (by omega)] at hT
  refine inflate_Decoder_match.vc _ _ _ _ ?_
  unfold inflate_Decoder_match.res
  refine lengthOf_spec ?_
  rw [if_neg (by omega)]
  refine pExtract_to rfl ?_
  refine pExtract_to rfl ?_
  refine pExtract_to rfl ?_
  obtain ⟨f1, f2, f3, f4⟩ := lens_facts ⟨s - 257, by omega⟩
  have es : (257 : Int) + ((s - 257 : Nat) : Int) = (s : Int) := by omega
  dsimp only at f1 f2 f3 f4
  rw [es] at f1 f2 f3 f4
  have p5 : 0 < 2 ^ (lenOf (s : Int)).2.toNat := Nat.pow_pos (by decide)
  obtain ⟨l1, hl1⟩ : ∃ l1 : Nat, (lenOf (s : Int)).1 = l1 := ⟨_, (Int.toNat_of_nonneg (by omega)).symm⟩
  obtain ⟨n1, hn1⟩ : ∃ n1 : Nat, (lenOf (s : Int)).2 = n1 := ⟨_, (Int.toNat_of_nonneg (by omega)).symm⟩
  rw [hl1] at f1 f4
  rw [hn1] at f2 f3 f4 p5
  rw [hl1, hn1] at hT ⊢
  rw [Int.toNat_natCast, Int.toNat_natCast] at f4 hT
  rw [Int.toNat_natCast] at p5
  refine extra_spec (least := l1) (n := n1) (by omega) (by omega) d (fun x C1 H1 hx hx2 d => ?_) (fun hx => ?_)
  rotate_left
  · rw [hx] at hT
    refine pExtract_to rfl ?_
    refine pExtract_to rfl ?_
    refine ne_er (by decide) ?_
    rw [pCond_true]
    exact her 2 B H hT.symm (by decide) d
  rw [hx] at hT
  dsimp only [Rs.bind] at hT
  refine pExtract_to rfl ?_
  refine pExtract_to rfl ?_
  refine ne_ok ?_
  rw [pCond_false, pNil_v, pFieldAddr_v, add_mk]
  refine d.pl (g := 0 + 11) (x := di) (by decide) rfl ?_
  rw [pNil_v, pFieldAddr_v, add_mk]
  obtain ⟨post, rv, bv, ring, o, back⟩ := d.rd
  refine nextC_spec hc.cons.cons o (fun k C2 H2 hk hkl o => ?_) (fun ev H2 hk he o => ?_)
  rotate_left
  · rw [hk] at hT
    dsimp only [Rs.bind] at hT
    refine pExtract_to rfl ?_
    refine pExtract_to rfl ?_
    refine ne_er he ?_
    rw [pCond_true]
    exact her ev C1 H2 hT.symm he (back _ _ _ o)
  rw [hk] at hT
  dsimp only [Rs.bind] at hT
  have d := back H2 C2 L o
  refine pExtract_to rfl ?_
  refine pExtract_to rfl ?_
  refine ne_ok ?_
  rw [pCond_false]
  refine distOf_spec ?_
  rcases Nat.lt_or_ge 29 k with h29 | h29
  · rw [if_pos h29] at hT
    rw [if_pos (.inr (by omega))]
    refine pExtract_to rfl ?_
    refine pExtract_to rfl ?_
    refine pExtract_to rfl ?_
    refine extra_no ?_
    refine pExtract_to rfl ?_
    refine pExtract_to rfl ?_
    refine ne_er (by decide) ?_
    rw [pCond_true]
    exact her 4 C2 H2 hT.symm (by decide) d
  rw [if_neg (by omega)] at hT
  rw [if_neg (by omega)]
  refine pExtract_to rfl ?_
  refine pExtract_to rfl ?_
  refine pExtract_to rfl ?_
  obtain ⟨g1, g2, g3, g4⟩ := dists_facts ⟨k, by omega⟩
  dsimp only at g1 g2 g3 g4
  obtain ⟨l2, hl2⟩ : ∃ l2 : Nat, (distOf (k : Int)).1 = l2 := ⟨_, (Int.toNat_of_nonneg (by omega)).symm⟩
  obtain ⟨n2, hn2⟩ : ∃ n2 : Nat, (distOf (k : Int)).2 = n2 := ⟨_, (Int.toNat_of_nonneg (by omega)).symm⟩
  have p6 : 0 < 2 ^ (distOf (k : Int)).2.toNat := Nat.pow_pos (by decide)
  rw [hl2] at g1 g4
  rw [hn2] at g2 g3 g4 p6
  rw [hl2, hn2] at hT ⊢
  rw [Int.toNat_natCast, Int.toNat_natCast] at g4 hT
  rw [Int.toNat_natCast] at p6
  refine extra_spec (least := l2) (n := n2) (by omega) (by omega) d (fun y C3 H3 hy hy2 d => ?_) (fun hy => ?_)
  rotate_left
  · rw [hy] at hT
    refine pExtract_to rfl ?_
    refine pExtract_to rfl ?_
    refine ne_er (by decide) ?_
    rw [pCond_true]
    exact her 2 C2 H2 hT.symm (by decide) d
  rw [hy] at hT
  dsimp only [Rs.bind] at hT
  refine pExtract_to rfl ?_
  refine pExtract_to rfl ?_
  refine ne_ok ?_
  rw [pCond_false, pNil_v, pFieldAddr_v, add_mk]
  obtain ⟨bp, bv, hbp, hbv, w⟩ := d
  have hsum : l1 + x ≤ 258 := by omega
  by_cases hd : 1 ≤ l2 + y ∧ l2 + y ≤ min W.length 32768
  · refine wcopy7 w hsum hd.1 hd.2 (by rcases hB with h | h <;> omega) fun H4 w => ?_
    refine pExtract_to rfl ?_
    refine pExtract_to rfl ?_
    rw [pNot_v, Bool.not_true, pCond_false, pNil_v, pFieldAddr_v, add_mk]
    have hcl := copyN_len (l1 + x) W (l2 + y)
    refine bwriteS7 (by rfl) (by rw [List.length_drop, hcl]; rcases hB with h | h <;> omega) ⟨bp, bv, hbp, hbv, w⟩ fun H5 d => ?_
    exact hok (l1 + x, l2 + y) C3 H5 hT.symm hd d
  · refine wcopy_no7 w hsum (by omega) ?_
    refine pExtract_to rfl ?_
    refine pExtract_to rfl ?_
    rw [pNot_v, Bool.not_false, pCond_true]
    exact hfar (l1 + x, l2 + y) C3 H3 hT.symm hd ⟨bp, bv, hbp, hbv, w⟩
theorem symbol_spec7 {zs zd : List Int} {l : Bool} (hq : StQ L fed (.tl zs zd l) q) (hsz : W.length + 258 * B.length ≤ 1000000000000) (ho : out.length ≤ W.length) (d : Dc H0 H b q B W out L)
    (hgo : ∀ D' o H' q', stepM ⟨.tl zs zd l, B, W⟩ = .go D' o → Dc H0 H' b q' D'.B D'.W (out ++ o) L → StQ L fed D'.st q' → R (.int .i64 0) H')
    (her : ∀ e C H', stepM ⟨.tl zs zd l, B, W⟩ = SR.of ⟨.tl zs zd l, B, W⟩ e → e ≠ 0 → Dc H0 H' b q C W out L → R (.int .i64 e) H') : CallsH Tryz.prog 62 #[at_ b 0] H R := by
  have hq0 := hq
  obtain ⟨_, _, left, sy, di, rfl, -, h3, h4, h5, rfl, rfl, hc1, hc2⟩ := hq
  have e1 : stepM ⟨.tl zs zd l, B, W⟩ = match nextM zs B with
    | .er e => SR.of ⟨.tl zs zd l, B, W⟩ e
    | .ok s B2 => if s = 256 then .go (endM l B2 W) [] else if s < 256 then .go ⟨.tl zs zd l, B2, W ++ [UInt8.ofNat s]⟩ [UInt8.ofNat s] else match matchM zd s B2 with
      | .er e => SR.of ⟨.tl zs zd l, B, W⟩ e
      | .ok p B2 => if 1 ≤ p.2 ∧ p.2 ≤ min W.length 32768 then .go ⟨.tl zs zd l, B2, copyN p.1 W p.2⟩ ((copyN p.1 W p.2).drop W.length) else .bad 6 := rfl
  refine inflate_Decoder_symbol.vc _ _ _ ?_
  unfold inflate_Decoder_symbol.res
  rw [pNil_v, pFieldAddr_v, add_mk]
  refine d.pl (g := 0 + 10) (x := sy) (by decide) rfl ?_
  rw [pNil_v, pFieldAddr_v, add_mk]
  obtain ⟨post, rv, bv, ring, o, back⟩ := d.rd
  refine nextC_spec hc1.cons.cons o (fun s C1 H1 hs hsl o => ?_) (fun ev H1 hs he o => ?_)
  rotate_left
  · rw [hs] at e1
    refine pExtract_to rfl ?_
    refine pExtract_to rfl ?_
    refine ne_er he ?_
    rw [pCond_true]
    exact her ev B H1 e1 he (back _ _ _ o)
  have hone := nextM_one hs
  rw [hs] at e1
  dsimp only at e1
  have d := back H1 C1 L o
  refine pExtract_to rfl ?_
  refine pExtract_to rfl ?_
  refine ne_ok ?_
  rw [pCond_false, pEq_0]
  refine pCond_if (fun h256 => ?_) (fun h256 => ?_)
  · rw [if_pos (by omega)] at e1
    refine ended_spec h3 h4 h5 d fun H2 q' d hs => ?_
    exact hgo _ _ H2 _ e1 (by rw [List.append_nil]; exact d) hs
  rw [if_neg (by omega)] at e1
  rw [pGt_v]
  refine pCond_if (fun hgt => ?_) (fun hgt => ?_)
  · rw [if_neg (by omega)] at e1
    refine match_spec7 (by omega) (by omega) (.inr (by omega)) ho hc2 d (fun p C H2 hm hp d => ?_) (fun p C H2 hm hp d => ?_) (fun ev C H2 hm he d => ?_)
    · rw [hm] at e1
      dsimp only at e1
      rw [if_pos hp] at e1
      exact hgo _ _ H2 _ e1 d hq0
    · rw [hm] at e1
      dsimp only at e1
      rw [if_neg hp] at e1
      refine her 6 C H2 (by rw [e1]; rfl) (by decide) d
    · rw [hm] at e1
      exact her ev C H2 e1 he d
  · rw [if_pos (by omega)] at e1
    rw [pNil_v, pFieldAddr_v, add_mk]
    refine pConv_to ?_
    have eb : Value.int .u8 (IntKind.u8.wrap (s : Int)) = byteV (UInt8.ofNat s) := by
      have := byte_low (v := s)
      rw [Nat.mod_eq_of_lt (by omega)] at this
      exact this
    rw [eb]
    obtain ⟨bp, bv, hbp, hbv, w⟩ := d
    refine wput7 w (by omega) fun H2 w => ?_
    rw [pNil_v, pFieldAddr_v, add_mk]
    refine pConv_to ?_
    rw [eb]
    refine bwriteB7 (by rfl) (by omega) ⟨bp, bv, hbp, hbv, w⟩ fun H3 d => ?_
    exact hgo _ _ H3 _ e1 d hq0
end Go.Proofs.YtameljhbkedhjaaGreatDoor
namespace Go.Proofs.YtameljhbkedhjaaGreatDoor
open Go Go.Vc Go.Proofs
set_option linter.unusedVariables false
set_option linter.unusedSimpArgs false
variable {H H0 : Heap} {R : Value → Heap → Prop} {v fed : Value} {B : List Bool} {L M : List It} {b : Nat} {q : List Value} {W out : List UInt8}
theorem StQ.any {s : St} (h : StQ L fed s q) (hd : s.isDn = false) : AnyQ fed q := by
  obtain ⟨st, last, left, sy, di, rfl, h2, h3, h4, h5, h6⟩ := h
  cases s with
  | hd => subst h6; exact ⟨0, _, _, _, _, rfl, by decide, h2, h3, h4, h5⟩
  | cp n l => obtain ⟨rfl, rfl, rfl⟩ := h6; exact ⟨1, _, _, _, _, rfl, by decide, h2, h3, h4, h5⟩
  | tl zs zd l => obtain ⟨rfl, rfl, _⟩ := h6; exact ⟨2, _, _, _, _, rfl, by decide, h2, h3, h4, h5⟩
  | dn => cases hd
theorem i64_inj {a c : Nat} (h : i64 a = i64 c) : a = c := by
  simp only [Value.int.injEq, true_and] at h; omega
def leftOk : St → Prop
  | .cp n _ => n ≤ 65535
  | _ => True
theorem Dc.items {v' : It} (d : Dc H0 H b q B W out (M ++ v' :: L)) : Dc H0 H b q B W out (M ++ L) := by
  obtain ⟨post, rv, bv, ring, o, back⟩ := d.rd
  exact back H B _ (o.pick (List.Sublist.cons_cons _ (List.Sublist.cons_cons _ (List.Sublist.cons_cons _ (List.Sublist.append (List.Sublist.refl M) (List.sublist_cons_self _ _))))))
theorem HasC.strike {zs : List Int} {p : Value} {c : Nat} {cs : List Value} (h : HasC (M ++ .box c cs 52 :: L) zs p) : HasC (M ++ L) zs p := by
  obtain ⟨h1, cb, lv, wv, sv, h2, h3⟩ := h
  refine ⟨h1, cb, lv, wv, sv, h2, fun i hi => ?_⟩
  rcases List.mem_append.1 (h3 i hi) with g | g
  · exact List.mem_append_left _ g
  · rcases List.mem_cons.1 g with rfl | g
    · simp only [codeIts, List.mem_cons, List.not_mem_nil, or_false, It.box.injEq, reduceCtorEq, or_self] at hi
      exact absurd hi.2.2 (by decide)
    · exact List.mem_append_right _ g
theorem StQ.strike {s : St} {c : Nat} {cs : List Value} (h : StQ (M ++ .box c cs 52 :: L) fed s q) : StQ (M ++ L) fed s q := by
  obtain ⟨st, last, left, sy, di, h1, h2, h3, h4, h5, h6⟩ := h
  refine ⟨st, last, left, sy, di, h1, h2, h3, h4, h5, ?_⟩
  cases s with
  | tl zs zd l => exact ⟨h6.1, h6.2.1, h6.2.2.1.strike, h6.2.2.2.strike⟩
  | _ => exact h6
theorem step_spec7 {D : DM} (hG : Reads H0 ⟨1, 0, none⟩ ordV) (hq : StQ L fed D.st q) (hd : D.st.isDn = false) (hlo : leftOk D.st) (hsz : D.W.length + 258 * D.B.length ≤ 1000000000000) (ho : out.length ≤ D.W.length) (d : Dc H0 H b q D.B D.W out L)
    (hgo : ∀ D' o H' M q', stepM D = .go D' o → Dc H0 H' b q' D'.B D'.W (out ++ o) (M ++ L) → StQ (M ++ L) fed D'.st q' → R (.int .i64 0) H')
    (hwt : ∀ D' o H' q', stepM D = .wait D' o → Dc H0 H' b q' D'.B D'.W (out ++ o) L → StQ L fed D'.st q' → R (.int .i64 2) H')
    (hbd : ∀ e H' C q', stepM D = .bad e → e ≠ 0 → e ≠ 2 → Dc H0 H' b q' C D.W out L → AnyQ fed q' → R (.int .i64 e) H') : CallsH Tryz.prog 30 #[at_ b 0] H R := by
  obtain ⟨s, B, W⟩ := D
  dsimp only at hq hd hlo hsz ho d hbd
  have hany := hq.any hd
  obtain ⟨n0, last, left, sy, di, rfl, hn3, hla, hle, hsy, hdi⟩ := hany
  refine inflate_Decoder_step.vc _ _ _ ?_
  unfold inflate_Decoder_step.res
  rw [pNil_v, pFieldAddr_v, add_mk]
  obtain ⟨post, rv, bv, ring, o, back⟩ := d.rd
  obtain ⟨rest, acc, n, h1, hB, hacc, hn40, hbig⟩ := o.thing (T := rdP b post 76 B) (by repeat (first | exact List.mem_cons_self | apply List.mem_cons_of_mem))
  have hR : ∀ {H' : Heap}, H'[b]? = H[b]? → Reads H' ⟨b, 0, none⟩ [str rest, u64 acc, i64 n] := fun {H'} he i x hx => by
    have hs := (Sub.all (he.trans h1)).part (x := []) (y := [str rest, u64 acc, i64 n]) (z := post)
    rw [add_mk]
    have := hs.cell (k := i) hx
    simpa using this
  refine (hR rfl).loadN (n := 3) rfl ?_
  rw [pNil_v, pFieldAddr_v, add_mk]
  refine d.pl (g := 0 + 7) (x := i64 n0) (by decide) rfl ?_
  refine pBox_ext fun H1 s1 e1 b1 => ?_
  have hbH := lt_of_blk h1
  have o1 := o.add (i := .box H.size [.string ⟨#[]⟩, .int .u64 0, .int .i64 0] 52) e1 b1 (fun k hk => by simp only [It.foot] at hk; omega)
  have o1 : Owns H0 H1 (rdI b post 76 B :: .sl rv 1 (ring.map byteV) :: .thing (bufT bv out) :: .box H.size [.string ⟨#[]⟩, .int .u64 0, .int .i64 0] 52 :: L) := o1.arrT (by repeat (first | exact SelsT.refl | exact Sel.here | apply SelsT.cons | apply Sel.there))
  have d1 := back H1 B _ o1
  refine ⟨(hR (e1.get b hbH)).loadN (n := 3) rfl rfl, d1.pl (g := 0 + 7) (x := i64 n0) (by decide) rfl rfl, ?_⟩
  have hpost := o1
  refine o1.bstoreN (b := H.size) (vs := [str rest, u64 acc, i64 n]) (by repeat (first | exact List.mem_cons_self | apply List.mem_cons_of_mem)) rfl rfl rfl (by repeat (first | exact Rep.here | apply Rep.there)) fun H2 o2 _ => ?_
  have d2 := back H2 B _ o2
  refine ⟨d2.pl (g := 0 + 7) (x := i64 n0) (by decide) rfl rfl, ?_⟩
  have hqb : StQ (.box H.size [str rest, u64 acc, i64 n] 52 :: L) fed s [i64 n0, last, left, sy, di, fed, .int .i64 0] := hq.mono fun _ => List.mem_cons_of_mem _
  generalize hbx : It.box H.size [str rest, u64 acc, i64 n] 52 = bx at *
  refine ⟨fun e H' => (e = .int .i64 0 ∧ ∃ D' o M q', stepM ⟨s, B, W⟩ = .go D' o ∧ Dc H0 H' b q' D'.B D'.W (out ++ o) (M ++ bx :: L) ∧ StQ (M ++ bx :: L) fed D'.st q') ∨
      (e = .int .i64 2 ∧ stepM ⟨s, B, W⟩ = .wait ⟨s, B, W⟩ [] ∧ ∃ C q', Dc H0 H' b q' C W out (bx :: L) ∧ StQ L fed s (q'.set 0 (i64 n0))) ∨
      (∃ ev C q', e = .int .i64 ev ∧ ev ≠ 0 ∧ ev ≠ 2 ∧ stepM ⟨s, B, W⟩ = .bad ev ∧ Dc H0 H' b q' C W out (bx :: L) ∧ AnyQ fed q'), ?_, ?_⟩
  · rintro _ _ H3 (⟨rfl, D', o, M, q', hs, d, hq'⟩ | ⟨rfl, hs, C, q', d, hq'⟩ | ⟨ev, C, q', rfl, h0, h2, hs, d, hq'⟩)
    · rw [pEq_0, decide_eq_false (by decide), pCond_false]
      subst hbx
      exact hgo D' o H3 M q' hs d.items hq'.strike
    · rw [pEq_0, decide_eq_true rfl, pCond_true]
      obtain ⟨post, rv, bv, ring, o, back⟩ := d.rd
      refine o.bloadN (b := H.size) (cs := [str rest, u64 acc, i64 n]) (t := 52) (n := 3) (by subst hbx; repeat (first | exact List.mem_cons_self | apply List.mem_cons_of_mem)) rfl ?_
      rw [pNil_v, pFieldAddr_v, add_mk]
      refine o.p3s (B' := B) Rep.here hB hacc hn40 hbig fun H4 o _ => ?_
      have d := back H4 B _ o
      rw [pNil_v, pFieldAddr_v, add_mk]
      have hl := hq'.len
      rw [List.length_set] at hl
      refine d.ps (g := 0 + 7) (by decide) (by omega) rfl fun H5 d => ?_
      exact hwt _ [] H5 _ hs (by rw [List.append_nil]; exact Dc.items (M := []) d) hq'
    · rw [pEq_0, decide_eq_false h2, pCond_false]
      exact hbd ev H3 C q' hs h0 h2 (Dc.items (M := []) d) hq'
  · have bad : ∀ {e : Int}, e ≠ 0 → e ≠ 2 → stepM ⟨s, B, W⟩ = SR.of ⟨s, B, W⟩ e → stepM ⟨s, B, W⟩ = .bad e := fun _ h hh => by rw [hh]; unfold SR.of; rw [if_neg h]
    have wt : ∀ {e : Int}, e = 2 → stepM ⟨s, B, W⟩ = SR.of ⟨s, B, W⟩ e → stepM ⟨s, B, W⟩ = .wait ⟨s, B, W⟩ [] := fun h hh => by rw [hh]; unfold SR.of; rw [if_pos h]
    rw [pNil_v, pFieldAddr_v, add_mk]
    refine d2.pl (g := 0 + 7) (x := i64 n0) (by decide) rfl ?_
    cases s with
    | hd =>
      have hn0 : n0 = 0 := by obtain ⟨_, _, _, _, _, hqe, _, _, _, _, hst⟩ := hq; exact i64_inj ((List.cons.inj hqe).1.trans hst)
      subst hn0
      rw [pEq_0, decide_eq_true (p := ((0 : Nat) : Int) = 0) rfl, pCond_true]
      refine head_spec7 hG ⟨0, last, left, sy, di, rfl, by decide, hla, hle, hsy, hdi⟩ d2 (fun st C H3 M q' hh d hs => ?_) (fun e H3 C q' hh he d hs => ?_)
      · exact .inl ⟨rfl, ⟨st, C, W⟩, [], M, q', by unfold stepM; rw [hh], by rw [List.append_nil]; exact d, hs⟩
      · have hst : stepM ⟨.hd, B, W⟩ = SR.of ⟨.hd, B, W⟩ e := by conv => lhs; unfold stepM; rw [hh]
        by_cases h2 : e = 2
        · refine .inr (.inl ⟨by rw [h2], wt h2 hst, C, q', d, ?_⟩)
          obtain ⟨n', last, left, sy, di, rfl, g1, g2, g3, g4, g5⟩ := hs
          exact ⟨_, _, _, _, _, rfl, g2, g3, g4, g5, rfl⟩
        · exact .inr (.inr ⟨e, C, q', rfl, he, h2, bad he h2 hst, d, hs⟩)
    | cp nl l =>
      have hn0 : n0 = 1 := by obtain ⟨_, _, _, _, _, hqe, _, _, _, _, hst, _⟩ := hq; exact i64_inj ((List.cons.inj hqe).1.trans hst)
      subst hn0
      rw [pEq_0, decide_eq_false (by decide), pCond_false, pEq_0, decide_eq_true (p := ((1 : Nat) : Int) = 1) rfl, pCond_true]
      refine copied_spec hqb hlo hsz ho d2 (fun D' o H3 q' hh d hs => ?_) (fun D' o H3 q' hh d hs => ?_)
      · subst hbx; exact hgo D' o H3 [] q' hh (Dc.items (M := []) d) (StQ.strike (M := []) hs)
      · subst hbx; exact hwt D' o H3 q' hh (Dc.items (M := []) d) (StQ.strike (M := []) hs)
    | tl zs zd l =>
      have hn0 : n0 = 2 := by obtain ⟨_, _, _, _, _, hqe, _, _, _, _, hst, _⟩ := hq; exact i64_inj ((List.cons.inj hqe).1.trans hst)
      subst hn0
      rw [pEq_0, decide_eq_false (by decide), pCond_false, pEq_0, decide_eq_false (by decide), pCond_false, pEq_0, decide_eq_true (p := ((2 : Nat) : Int) = 2) rfl, pCond_true]
      refine symbol_spec7 hqb hsz ho d2 (fun D' o H3 q' hh d hs => ?_) (fun e C H3 hh he d => ?_)
      · exact .inl ⟨rfl, D', o, [], q', hh, d, hs⟩
      · by_cases h2 : e = 2
        · exact .inr (.inl ⟨by rw [h2], wt h2 hh, C, _, d, hq⟩)
        · exact .inr (.inr ⟨e, C, _, rfl, he, h2, bad he h2 hh, d, hq.any rfl⟩)
    | dn => cases hd
end Go.Proofs.YtameljhbkedhjaaGreatDoor
namespace Go.Proofs.YtameljhbkedhjaaGreatDoor
open Go Go.Vc Go.Proofs
set_option linter.unusedVariables false
set_option linter.unusedSimpArgs false
variable {H H0 : Heap} {R : Value → Heap → Prop} {v fed : Value} {B : List Bool} {L M : List It} {b : Nat} {q : List Value} {W out : List UInt8}
theorem copyN_split7 (k : Nat) (all : List UInt8) (d : Nat) : copyN k all d = all ++ (copyN k all d).drop all.length := by
  have := copyN_take k all d
  conv => lhs; rw [← List.take_append_drop all.length (copyN k all d), this]
theorem matchM_small {di : List Int} {s : Nat} {p : Nat × Nat} {C : List Bool} (hs : 257 ≤ s) (h : matchM di s B = .ok p C) : p.1 ≤ 258 := by
  unfold matchM at h
  split at h
  · cases h
  · obtain ⟨f1, f2, f3, f4⟩ := lens_facts ⟨s - 257, by omega⟩
    have es : (257 : Int) + ((s - 257 : Nat) : Int) = (s : Int) := by omega
    dsimp only at f1 f2 f3 f4
    rw [es] at f1 f2 f3 f4
    cases hx : needM (lenOf (s : Int)).2.toNat B with
    | er e => rw [hx] at h; cases h
    | ok x C1 =>
      rw [hx] at h
      obtain ⟨g1, g2, g3⟩ := needM_ok hx
      have hlt := numB_lt (B.take (lenOf (s : Int)).2.toNat)
      rw [List.length_take, Nat.min_eq_left g1, ← g2] at hlt
      dsimp only [Rs.bind] at h
      cases hk : nextM di C1 with
      | er e => rw [hk] at h; cases h
      | ok k C2 =>
        rw [hk] at h
        dsimp only at h
        split at h
        · cases h
        · cases hy : needM (distOf (k : Int)).2.toNat C2 with
          | er e => rw [hy] at h; cases h
          | ok y C3 =>
            rw [hy] at h
            cases h
            dsimp only
            omega
theorem headM_left {st : St} {C : List Bool} (h : headM B = .ok st C) : leftOk st := by
  have : (headM B).All leftOk := by
    unfold headM
    refine Rs.All.bind fun v B => ?_
    split
    · refine Rs.All.bind fun x B => ?_
      split
      · exact all_er
      · exact all_ok (by show x % 65536 ≤ 65535; omega)
    split
    · exact all_ok trivial
    split
    · exact Rs.All.bind fun p B => all_ok trivial
    · exact all_er
  rw [h] at this
  exact this.h
theorem endM_W (l : Bool) (B : List Bool) (W : List UInt8) : (endM l B W).W = W ∧ leftOk (endM l B W).st ∧ (endM l B W).B.length ≤ B.length := by
  have := alB_len B
  cases l
  · exact ⟨rfl, trivial, Nat.le_refl _⟩
  · exact ⟨rfl, trivial, this.1⟩
theorem step_inv {D D' : DM} {o : List UInt8} (hl : leftOk D.st) (h : stepM D = .go D' o ∨ stepM D = .wait D' o) : D'.W = D.W ++ o ∧ D'.W.length + 258 * D'.B.length ≤ D.W.length + 258 * D.B.length ∧ leftOk D'.st := by
  obtain ⟨st, B, W⟩ := D
  unfold stepM at h
  cases st with
  | hd =>
    dsimp only at h
    split at h
    · rename_i st C hh
      rcases h with h | h <;> cases h
      have := headM_three hh
      exact ⟨by simp, by dsimp only; omega, headM_left hh⟩
    · unfold SR.of at h
      split at h <;> rcases h with h | h <;> cases h
      exact ⟨by simp, Nat.le_refl _, trivial⟩
  | cp left last =>
    dsimp only at h hl ⊢
    have hal := alB_len B
    split at h
    · rcases h with h | h <;> cases h
      refine ⟨rfl, ?_, ?_⟩
      · dsimp only
        rw [List.length_append, toBytes_k (k := min left ((alB B).length / 8)) (by rw [List.length_take]; omega), List.length_drop]
        omega
      · show left - _ ≤ 65535
        have : left ≤ 65535 := hl
        omega
    · rcases h with h | h <;> cases h
      obtain ⟨e1, e2, e3⟩ := endM_W last ((alB B).drop (8 * left)) (W ++ toBytes ((alB B).take (8 * left)))
      refine ⟨e1, ?_, e2⟩
      rw [e1, List.length_append, toBytes_k (k := left) (by rw [List.length_take]; omega)]
      rw [List.length_drop] at e3
      omega
  | tl sy di last =>
    dsimp only at h ⊢
    split at h
    · unfold SR.of at h
      split at h <;> rcases h with h | h <;> cases h
      exact ⟨by simp, Nat.le_refl _, trivial⟩
    · rename_i s C hn
      have h1 := nextM_one hn
      split at h
      · rcases h with h | h <;> cases h
        obtain ⟨e1, e2, e3⟩ := endM_W last C W
        exact ⟨by rw [e1]; simp, by rw [e1]; omega, e2⟩
      split at h
      · rcases h with h | h <;> cases h
        exact ⟨rfl, by dsimp only; rw [List.length_append, List.length_singleton]; omega, trivial⟩
      · split at h
        · unfold SR.of at h
          split at h <;> rcases h with h | h <;> cases h
          exact ⟨by simp, Nat.le_refl _, trivial⟩
        · rename_i p E hm
          have h2 := matchM_less (di := di) (s := s) (B := C)
          rw [hm] at h2
          have h2 : E.length ≤ C.length := h2.h
          have h3 := matchM_small (by omega) hm
          split at h <;> rcases h with h | h <;> cases h
          exact ⟨copyN_split7 _ _ _, by dsimp only; rw [copyN_len]; omega, trivial⟩
  | dn =>
    rcases h with h | h <;> cases h
    exact ⟨by simp, Nat.le_refl _, trivial⟩
def heapMeas (b : Nat) (H : Heap) : Nat := match H[b]? with
  | some (.cells cs _ _) => (match cs[0]?, cs[2]?, cs[7]? with
    | some (Value.string s), some (Value.int _ n), some (Value.int _ st) => 2 * (8 * (bys s).length + n.toNat) + (if st = 1 then 1 else 0)
    | _, _, _ => 0)
  | _ => 0
theorem heapMeas_dc {s : St} (d : Dc H0 H b q B W out L) (hq : StQ L fed s q) : heapMeas b H = meas ⟨s, B, W⟩ := by
  obtain ⟨st, last, left, sy, di, rfl, -, -, -, -, h6⟩ := hq
  obtain ⟨bp, bv, hbp, hbv, rv, ring, hr, hs, o⟩ := d
  obtain ⟨rest, acc, n, h1, h2, -⟩ := o.thing (T := rdP b _ 76 B) (by repeat (first | exact List.mem_cons_self | apply List.mem_cons_of_mem))
  unfold heapMeas meas
  have hlen : B.length = n + 8 * rest.length := by rw [h2, List.length_append, bitsN_len, toBits_len]
  rw [h1]
  cases s with
  | hd => subst h6; simp only [List.getElem?_toArray, List.getElem?_cons_zero, List.getElem?_cons_succ, bys_mk, Int.toNat_natCast]; rw [if_neg (show ¬ ((0 : Nat) : Int) = 1 by decide)]; omega
  | cp n l => obtain ⟨rfl, -⟩ := h6; simp only [List.getElem?_toArray, List.getElem?_cons_zero, List.getElem?_cons_succ, bys_mk, Int.toNat_natCast]; rw [if_pos (show ((1 : Nat) : Int) = 1 by decide)]; omega
  | tl zs zd l => obtain ⟨rfl, -⟩ := h6; simp only [List.getElem?_toArray, List.getElem?_cons_zero, List.getElem?_cons_succ, bys_mk, Int.toNat_natCast]; rw [if_neg (show ¬ ((2 : Nat) : Int) = 1 by decide)]; omega
  | dn => subst h6; simp only [List.getElem?_toArray, List.getElem?_cons_zero, List.getElem?_cons_succ, bys_mk, Int.toNat_natCast]; rw [if_neg (show ¬ ((3 : Nat) : Int) = 1 by decide)]; omega
def Rest7 (H0 H : Heap) (b : Nat) (D : DM) (fed : Nat) (L : List It) : Prop := ∃ q, StQ L (i64 fed) D.st q ∧ Idle H0 H b q D.B D.W L
def Dead7 (H0 H : Heap) (b : Nat) (W : List UInt8) (fed : Nat) (e : Int) (L : List It) : Prop := ∃ (n : Nat) (last left sy di : Value) (C : List Bool), n < 3 ∧ Idle H0 H b [i64 n, last, left, sy, di, i64 fed, .int .i64 e] C W L ∧ oneCell last = true ∧ oneCell left = true ∧ oneCell sy = true ∧ oneCell di = true
theorem Idle.pl {K : Value → Prop} {g : Nat} {x : Value} (d : Idle H0 H b q B W L) (h7 : 7 ≤ g) (hx : q[g - 7]? = some x) (hk : K x) : pLoad H (at_ b g) K := by
  obtain ⟨bp, bv, hbp, hbv, w⟩ := d
  refine w.pl (x := x) (by omega) ?_ hk
  obtain ⟨j, rfl⟩ : ∃ j, g = j + 7 := ⟨g - 7, by omega⟩
  simp only [Nat.add_sub_cancel] at hx
  rw [show j + 7 - 5 = j + 1 + 1 by omega]
  exact hx
theorem Idle.ps {K : Value → Heap → Prop} {g : Nat} {x : Value} (d : Idle H0 H b q B W L) (h7 : 7 ≤ g) (hg : g - 7 < q.length) (hx : oneCell x = true) (hk : ∀ H', Idle H0 H' b (q.set (g - 7) x) B W L → K undef H') : pStore H (at_ b g) x K := by
  obtain ⟨bp, bv, hbp, hbv, w⟩ := d
  refine w.ps (by omega) (by simp; omega) hx fun H' w => hk H' ⟨bp, bv, hbp, hbv, ?_⟩
  obtain ⟨j, rfl⟩ : ∃ j, g = j + 7 := ⟨g - 7, by omega⟩
  rw [show j + 7 - 5 = j + 1 + 1 by omega] at w
  exact w
theorem Idle.rd (d : Idle H0 H b q B W L) : ∃ (post : List Value) (rv : Value) (ring : List UInt8), Owns H0 H (rdI b post 76 B :: .sl rv 1 (ring.map byteV) :: L) ∧ ∀ H' C M, Owns H0 H' (rdI b post 76 C :: .sl rv 1 (ring.map byteV) :: M) → Idle H0 H' b q C W M := by
  obtain ⟨bp, bv, hbp, hbv, rv, ring, hr, hs, o⟩ := d
  exact ⟨_, rv, ring, o, fun H' C M o => ⟨bp, bv, hbp, hbv, rv, ring, hr, hs, o⟩⟩
theorem new_spec7 (o : Owns H0 H L) (h : ∀ H' b, Rest7 H0 H' b ⟨.hd, [], []⟩ 0 L → R (at_ b 0) H') : CallsH Tryz.prog 9 #[] H R := by
  refine inflate_New.vc _ _ ?_
  unfold inflate_New.res
  rw [pBuild_n]
  refine pBox_ext fun H1 s1 e1 b1 => ?_
  have o1 := o.nil1
  have o1 := o1.add (i := rdI H.size [.slice none 0 0, i64 0, .pointer none, .slice none 0 0, i64 0, .bool false, .int .i64 0, .pointer none, .pointer none, i64 0, .int .i64 0] 76 []) e1 ⟨[], 0, 0, b1, rfl, by decide, by decide, by decide⟩ (fun k hk => by
    have hk : k = H.size := hk
    omega)
  refine h H1 H.size ⟨[i64 0, .bool false, .int .i64 0, .pointer none, .pointer none, i64 0, .int .i64 0], ⟨_, _, _, _, _, rfl, rfl, rfl, rfl, rfl, rfl⟩, .pointer none, .slice none 0 0, rfl, rfl, .slice none 0 0, [], ⟨rfl, fun i hi => by simp at hi⟩, by simp, o1⟩
theorem feed_spec7 {s : List UInt8} {D : DM} {fed : Nat} (hG : Reads H0 ⟨1, 0, none⟩ ordV) (r : Rest7 H0 H b D fed L) (hl : leftOk D.st) (hsz : D.W.length + 258 * (D.B.length + 8 * s.length) ≤ 1000000000000) (hfed : fed + s.length ≤ 1000000000000)
    (hok : ∀ o D' H' M, run (D.add (toBits s)) = (o, D', 0) → Rest7 H0 H' b D' (fed + s.length) (M ++ L) → R (.tuple #[str o, .int .i64 0]) H')
    (her : ∀ o D' e H' M, run (D.add (toBits s)) = (o, D', e) → e ≠ 0 → Dead7 H0 H' b D'.W (fed + s.length) e (M ++ L) → R (.tuple #[str o, .int .i64 e]) H') : CallsH Tryz.prog 10 #[at_ b 0, str s] H R := by
  obtain ⟨q, hq, d⟩ := r
  have hq7 := hq.len
  have hq0 := hq
  obtain ⟨st, last, left, sy, di, rfl, q2, q3, q4, q5, q6⟩ := hq0
  refine inflate_Decoder_Feed.vc _ _ _ _ ?_
  unfold inflate_Decoder_Feed.res
  rw [pEq_3s, pCond_false, pNil_v, pFieldAddr_v, add_mk]
  refine d.pl (g := 0 + 13) (x := .int .i64 0) (by decide) rfl ?_
  refine ne_ok ?_
  rw [pCond_false, pNil_v, pFieldAddr_v, add_mk]
  obtain ⟨post, rv, ring, o, back⟩ := d.rd
  refine rFeed_spec (rdP_rd o (by repeat (first | exact List.mem_cons_self | apply List.mem_cons_of_mem))) (by omega) fun H1 w c => ?_
  have d := back H1 _ L (o.rd w c Rep.here)
  rw [pNil_v, pFieldAddr_v, add_mk]
  refine d.pl (g := 0 + 12) (x := i64 fed) (by decide) rfl ?_
  refine pLenS_to ?_
  rw [pAdd_v, show (fed : Int) + (s.length : Int) = ((fed + s.length : Nat) : Int) by omega, w64 (by omega) (by omega), pNil_v, pFieldAddr_v, add_mk]
  refine d.ps (g := 0 + 12) (by decide) (by simp) rfl fun H2 d => ?_
  rw [pNil_v, pFieldAddr_v, add_mk]
  refine breset7 rfl d fun H3 d => ?_
  have hqs : StQ L (i64 (fed + s.length)) D.st [st, last, left, sy, di, i64 (fed + s.length), .int .i64 0] := ⟨_, _, _, _, _, rfl, q2, q3, q4, q5, q6⟩
  change Dc H0 H3 b [st, last, left, sy, di, i64 (fed + s.length), .int .i64 0] (D.B ++ toBits s) D.W [] L at d
  generalize hfd : fed + s.length = fd at *
  generalize hrun : run (D.add (toBits s)) = T at *
  have hsz0 : D.W.length + 258 * (D.B ++ toBits s).length ≤ 1000000000000 := by rw [List.length_append, toBits_len]; exact hsz
  refine ⟨fun H' => ∃ o D' M q', T = (o, D', 0) ∧ o.length ≤ 1000000000000 ∧ Dc H0 H' b q' D'.B D'.W o (M ++ L) ∧ StQ (M ++ L) (i64 fd) D'.st q', ?_, ?_⟩
  · rintro _ H4 ⟨o, D', M, q', hT, hol, d, hq'⟩
    rw [pNil_v, pFieldAddr_v, add_mk]
    refine bstring7 hq'.len (by omega) d fun H5 d => ?_
    exact hok o D' H5 M hT ⟨q', hq', d⟩
  refine ⟨fun H' => ∃ o D1 M q', T = (o ++ (run D1).1, (run D1).2) ∧ Dc H0 H' b q' D1.B D1.W o (M ++ L) ∧ StQ (M ++ L) (i64 fd) D1.st q' ∧ leftOk D1.st ∧ D1.W.length + 258 * D1.B.length ≤ 1000000000000 ∧ o.length ≤ D1.W.length, heapMeas b, ⟨[], D.add (toBits s), [], _, by rw [hrun, List.nil_append], d, hqs, hl, hsz0, by simp⟩, ?_⟩
  rintro _ H4 ⟨o, D1, M, q', hT, d, hq', hl1, hsz1, ho⟩
  have hm := heapMeas_dc d hq'
  rw [pNil_v, pFieldAddr_v, add_mk]
  obtain ⟨stv, last1, left1, sy1, di1, rfl, p2, p3, p4, p5, p6⟩ := id hq'
  refine d.pl (g := 0 + 7) (x := stv) (by decide) rfl ?_
  cases hdn : D1.st.isDn with
  | true =>
    have hdn' : D1.st = .dn := by cases hs : D1.st <;> rw [hs] at hdn <;> first | rfl | cases hdn
    rw [hdn'] at p6
    subst p6
    rw [pNe_0, decide_eq_false (by decide), pCond_false]
    refine ⟨o, D1, M, _, ?_, by omega, d, hq'⟩
    rw [hT, run_dn hdn, List.append_nil]
  | false =>
    have hst : ∃ n : Nat, stv = i64 n ∧ n < 3 := by
      obtain ⟨n, _, _, _, _, he, hn, _⟩ := hq'.any hdn
      exact ⟨n, (List.cons.inj he).1, hn⟩
    obtain ⟨n, rfl, hn⟩ := hst
    rw [pNe_0, decide_eq_true (by omega), pCond_true]
    refine step_spec7 hG hq' hdn hl1 hsz1 ho d (fun D2 o2 H5 M2 q2 hs d2 hq2 => ?_) (fun D2 o2 H5 q2 hs d2 hq2 => ?_) (fun e H5 C q2 hs h0 h2 d2 hq2 => ?_)
    · rw [pEq_0, decide_eq_false (by decide), pCond_false]
      refine ne_ok ?_
      rw [pCond_false]
      have hinv := step_inv hl1 (.inl hs)
      have hm2 := heapMeas_dc d2 hq2
      refine ⟨⟨o ++ o2, D2, M2 ++ M, q2, by rw [hT, run_go hs, List.append_assoc], by rw [List.append_assoc]; exact d2, by rw [List.append_assoc]; exact hq2, hinv.2.2, by omega, by rw [hinv.1, List.length_append, List.length_append]; omega⟩, ?_⟩
      rw [hm, hm2]
      exact step_meas hs
    · rw [pEq_0, decide_eq_true rfl, pCond_true]
      have hinv := step_inv hl1 (.inr hs)
      exact ⟨o ++ o2, D2, M, q2, by rw [hT, run_wait hdn hs], by have := congrArg List.length hinv.1; rw [List.length_append] at this; rw [List.length_append]; omega, d2, hq2⟩
    · rw [pEq_0, decide_eq_false h2, pCond_false]
      refine ne_er h0 ?_
      rw [pCond_true, pNil_v, pFieldAddr_v, add_mk]
      obtain ⟨n', last2, left2, sy2, di2, rfl, g1, g2, g3, g4, g5⟩ := hq2
      refine d2.ps (g := 0 + 13) (by decide) (by simp) rfl fun H6 d2 => ?_
      rw [pNil_v, pFieldAddr_v, add_mk]
      refine bstring7 rfl (by omega) d2 fun H7 d2 => ?_
      exact her o D1 e H7 M (by rw [hT, run_bad hdn hs, List.append_nil]) h0 ⟨n', last2, left2, sy2, di2, C, g1, d2, g2, g3, g4, g5⟩
end Go.Proofs.YtameljhbkedhjaaGreatDoor
namespace Go.Proofs.YtameljhbkedhjaaGreatDoor
open Go Go.Vc Go.Proofs
set_option linter.unusedVariables false
set_option linter.unusedSimpArgs false
variable {H H0 : Heap} {R : Value → Heap → Prop} {v : Value} {B : List Bool} {L M : List It} {b fed : Nat} {q : List Value} {W out : List UInt8} {D : DM}
theorem done_spec7 (r : Rest7 H0 H b D fed L) (h : R (.bool D.st.isDn) H) : CallsH Tryz.prog 11 #[at_ b 0] H R := by
  obtain ⟨q, hq, d⟩ := r
  refine inflate_Decoder_Done.vc _ _ _ ?_
  unfold inflate_Decoder_Done.res
  rw [pNe_3s]
  refine pAnd_true ?_
  rw [pNil_v, pFieldAddr_v, add_mk]
  obtain ⟨st, last, left, sy, di, rfl, -, -, -, -, h6⟩ := hq
  refine d.pl (g := 0 + 7) (x := st) (by decide) rfl ?_
  cases hs : D.st with
  | hd => rw [hs] at h h6; subst h6; rw [pEq_0]; intro _; exact h
  | cp n l => rw [hs] at h h6; obtain ⟨rfl, -⟩ := h6; rw [pEq_0]; intro _; exact h
  | tl zs zd l => rw [hs] at h h6; obtain ⟨rfl, -⟩ := h6; rw [pEq_0]; intro _; exact h
  | dn => rw [hs] at h h6; subst h6; rw [pEq_0]; intro _; exact h
theorem Rest7.more {H' : Heap} (r : Rest7 H0 H b D fed L) (hx : Ext H H') : Rest7 H0 H' b D fed L := by
  obtain ⟨q, hq, d⟩ := r
  obtain ⟨post, rv, ring, o, back⟩ := d.rd
  exact ⟨q, hq, back H' _ L (o.more hx)⟩
theorem rest_spec7 (r : Rest7 H0 H b D fed L) (hn : D.st.isDn = true) (h : ∀ H', Ext H H' → R (str (toBytes ((alB D.B).take (8 * (D.B.length / 8))))) H') : CallsH Tryz.prog 47 #[at_ b 0] H R := by
  obtain ⟨q, hq, d⟩ := id r
  obtain ⟨post, rv, ring, o, back⟩ := d.rd
  refine inflate_Decoder_Rest.vc _ _ _ ?_
  unfold inflate_Decoder_Rest.res
  refine done_spec7 r ?_
  rw [hn, pNot_v, Bool.not_true, pCond_false, pNil_v, pFieldAddr_v, add_mk]
  refine o.p3 (by repeat (first | exact List.mem_cons_self | apply List.mem_cons_of_mem)) fun rest acc n hB hacc hn40 hbig => ?_
  refine (Owns.start (H := H)).box fun c H1 oc hc => ?_
  change Owns H H1 [.box c [str [], .int .u64 0, .int .i64 0] _] at oc
  refine oc.bstoreN (vs := [str rest, u64 acc, i64 n]) (by repeat (first | exact List.mem_cons_self | apply List.mem_cons_of_mem)) rfl rfl rfl (by repeat (first | exact Rep.here | apply Rep.there)) fun H2 oc _ => ?_
  have hrd : Rd H2 c 0 D.B := ⟨⟨rest, acc, n, Sub.all (oc.blk (by repeat (first | exact List.mem_cons_self | apply List.mem_cons_of_mem))), hB, hacc, hn40⟩, hbig⟩
  have hx2 := oc.ext
  refine rLeft_spec hrd ?_
  rw [pQuo_v]
  refine ⟨by decide, ?_⟩
  rw [Int.tdiv_eq_ediv_of_nonneg (by omega), show ((D.B.length : Nat) : Int) / 8 = ((D.B.length / 8 : Nat) : Int) by omega, w64 (by omega) (by omega)]
  refine rTake_spec (by omega) hrd fun H3 k hk w cg => ?_
  rw [Int.toNat_natCast] at hk
  have hk2 : k = D.B.length / 8 := by omega
  subst hk2
  refine h H3 ?_
  have := cg.ext hx2 (by omega) (fun _ h => h.elim)
  exact this.1
theorem all_spec7 {s : List UInt8} (hG : Reads H0 ⟨1, 0, none⟩ ordV) (o : Owns H0 H L) (hs : s.length ≤ 100000000)
    (hdn : ∀ o D' H', run ⟨.hd, toBits s, []⟩ = (o, D', 0) → D'.st.isDn = true → Ext H0 H' → R (.tuple #[str o, str (toBytes ((alB D'.B).take (8 * (D'.B.length / 8)))), .int .i64 0]) H')
    (hmore : ∀ o D' H', run ⟨.hd, toBits s, []⟩ = (o, D', 0) → D'.st.isDn = false → Ext H0 H' → R (.tuple #[str [], str [], .int .i64 2]) H')
    (her : ∀ o D' e H', run ⟨.hd, toBits s, []⟩ = (o, D', e) → e ≠ 0 → Ext H0 H' → R (.tuple #[str [], str [], .int .i64 e]) H') : CallsH Tryz.prog 20 #[str s] H R := by
  refine inflate_All.vc _ _ _ ?_
  unfold inflate_All.res
  refine new_spec7 o fun H1 b r => ?_
  refine feed_spec7 hG r trivial (by simp; omega) (by omega) (fun o D' H2 M hr r => ?_) (fun o D' e H2 M hr he d => ?_)
  · refine pExtract_to rfl ?_
    refine pExtract_to rfl ?_
    refine ne_ok ?_
    rw [pCond_false]
    refine done_spec7 r ?_
    have hx : Ext H0 H2 := by obtain ⟨q, _, bp, bv, _, _, rv, ring, _, _, o⟩ := r; exact o.ext
    cases hd : D'.st.isDn with
    | true =>
      rw [pNot_v, Bool.not_true, pCond_false]
      exact rest_spec7 r hd fun H3 hx3 => hdn o D' H3 hr hd (hx.trans hx3)
    | false =>
      rw [pNot_v, Bool.not_false, pCond_true]
      exact hmore o D' H2 hr hd hx
  · refine pExtract_to rfl ?_
    refine pExtract_to rfl ?_
    refine ne_er he ?_
    rw [pCond_true]
    have hx : Ext H0 H2 := by obtain ⟨_, _, _, _, _, _, _, ⟨bp, bv, _, _, rv, ring, _, _, o⟩, _⟩ := d; exact o.ext
    exact her o D' e H2 hr he hx
end Go.Proofs.YtameljhbkedhjaaGreatDoor
namespace Go.Proofs.YtameljhbkedhjaaGreatDoor
open Go Go.Vc Go.Proofs
set_option linter.unusedVariables false
set_option linter.unusedSimpArgs false
variable {H H0 : Heap} {R : Value → Heap → Prop} {v : Value} {B : List Bool} {L M : List It} {b fed : Nat} {q : List Value} {W out : List UInt8} {D : DM} {e : Int}
theorem run_inv : ∀ (n : Nat) (D : DM), meas D < n → leftOk D.st → (run D).2.1.W = D.W ++ (run D).1 ∧ (run D).2.1.W.length + 258 * (run D).2.1.B.length ≤ D.W.length + 258 * D.B.length ∧ leftOk (run D).2.1.st
  | 0, D, h, _ => by omega
  | n + 1, D, h, hl => by
    by_cases hd : D.st.isDn = true
    · rw [run_dn hd]; exact ⟨by simp, Nat.le_refl _, hl⟩
    · have hd : D.st.isDn = false := by simpa using hd
      cases hst : stepM D with
      | go D' o =>
        have hi := step_inv hl (.inl hst)
        have ih := run_inv n D' (by have := step_meas hst; omega) hi.2.2
        rw [run_go hst]
        refine ⟨?_, by dsimp only; omega, ih.2.2⟩
        show (run D').2.1.W = D.W ++ (o ++ (run D').1)
        rw [ih.1, hi.1, List.append_assoc]
      | wait D' o =>
        have hi := step_inv hl (.inr hst)
        rw [run_wait hd hst]
        exact ⟨hi.1, hi.2.1, hi.2.2⟩
      | bad e => rw [run_bad hd hst]; exact ⟨by simp, Nat.le_refl _, hl⟩
def Any7 (H0 H : Heap) (b : Nat) (D : DM) (fed : Nat) (e : Int) (L : List It) : Prop := (e = 0 ∧ Rest7 H0 H b D fed L) ∨ (e ≠ 0 ∧ Dead7 H0 H b D.W fed e L)
theorem Any7.ext (a : Any7 H0 H b D fed e L) : Ext H0 H := by
  rcases a with ⟨_, q, _, bp, bv, _, _, rv, ring, _, _, o⟩ | ⟨_, _, _, _, _, _, _, _, ⟨bp, bv, _, _, rv, ring, _, _, o⟩, _⟩ <;> exact o.ext
theorem Any7.more {H' : Heap} (a : Any7 H0 H b D fed e L) (hx : Ext H H') : Any7 H0 H' b D fed e L := by
  rcases a with ⟨h, r⟩ | ⟨h, n, la, le, sy, di, C, hn, d, g⟩
  · exact .inl ⟨h, r.more hx⟩
  · obtain ⟨post, rv, ring, o, back⟩ := d.rd
    exact .inr ⟨h, n, la, le, sy, di, C, hn, back H' _ L (o.more hx), g⟩
def allT (P : List It) : Thing where
  foot k := ∃ i ∈ P, i.foot k
  holds H := (∀ i ∈ P, i.holds H) ∧ P.Pairwise fun (i j : It) => ∀ k : Nat, i.foot k → ¬ j.foot k
  frame := fun h hf => ⟨fun i hi => It.frame (h.1 i hi) fun k hk => hf k ⟨i, hi, hk⟩, h.2⟩
  lt := fun h hf => by obtain ⟨i, hi, hk⟩ := hf; exact It.lt (h.1 i hi) hk
theorem allT_in {P : List It} (o : Owns H0 H (P ++ L)) : Owns H0 H (.thing (allT P) :: L) := by
  have hp := List.pairwise_append.1 o.dis
  refine ⟨o.ext, ?_, ?_, List.pairwise_cons.2 ⟨?_, hp.2.1⟩⟩
  · intro i hi
    rcases List.mem_cons.1 hi with rfl | hi
    · exact ⟨fun i hi => o.ok i (List.mem_append_left _ hi), hp.1⟩
    · exact o.ok i (List.mem_append_right _ hi)
  · intro i hi k hk
    rcases List.mem_cons.1 hi with rfl | hi
    · obtain ⟨j, hj, hk⟩ := hk; exact o.new j (List.mem_append_left _ hj) k hk
    · exact o.new i (List.mem_append_right _ hi) k hk
  · rintro j hj k ⟨i, hi, hk⟩
    exact hp.2.2 i hi j hj k hk
theorem allT_out {P : List It} (o : Owns H0 H (.thing (allT P) :: L)) : Owns H0 H (P ++ L) := by
  have hp := List.pairwise_cons.1 o.dis
  have ht := o.ok (.thing (allT P)) List.mem_cons_self
  refine ⟨o.ext, ?_, ?_, List.pairwise_append.2 ⟨ht.2, hp.2, ?_⟩⟩
  · intro i hi
    rcases List.mem_append.1 hi with hi | hi
    · exact ht.1 i hi
    · exact o.ok i (List.mem_cons_of_mem _ hi)
  · intro i hi k hk
    rcases List.mem_append.1 hi with hi | hi
    · exact o.new (.thing (allT P)) List.mem_cons_self k ⟨i, hi, hk⟩
    · exact o.new i (List.mem_cons_of_mem _ hi) k hk
  · intro i hi j hj k hk
    exact hp.1 j hj k ⟨i, hi, hk⟩
end Go.Proofs.YtameljhbkedhjaaGreatDoor
namespace Go.Proofs.YtameljhbkedhjaaGreatDoor
open Go Go.Vc Go.Proofs
set_option linter.unusedVariables false
set_option linter.unusedSimpArgs false
variable {H H0 H' : Heap} {R : Value → Heap → Prop} {v : Value} {L : List It} {zs : List Int} {b : Nat} {B : List Bool}
def cellN (H : Heap) (b f : Nat) : Nat := match H[b]? with
  | some (.cells cs _ _) => match cs[f]? with
    | some (.int _ x) => x.toNat
    | _ => 0
  | _ => 0
theorem cellN_at {b f : Nat} {cs : List Value} {t : TypeId} {fr : Nat × Nat} {k : IntKind} {x : Int} (h : H[b]? = some (.cells cs.toArray t fr)) (hf : cs[f]? = some (.int k x)) : cellN H b f = x.toNat := by
  unfold cellN
  rw [h]
  simp [hf]
theorem supp_pos {zs : List Int} {s : Nat} (h : 0 < zs.getD s 0) : 1 ≤ (suppU zs zs.length).length := by
  have hs : s < zs.length := Nat.lt_of_not_le fun hn => by rw [List.getD_eq_getElem?_getD, List.getElem?_eq_none hn] at h; simp at h
  exact List.length_pos_of_mem (suppU_mem.2 ⟨hs, h⟩)
structure OftOk (E : List Ex) (ws : List Int) : Prop where
  wl : ws.length = 19
  wr : ∀ z ∈ ws, 0 ≤ z ∧ z ≤ (E.length : Int)
  wt : ∀ e ∈ E, 1 ≤ ws.getD e.1 0
theorem often_go {E : List Ex} {tv wv : Value} {k : Nat} {ws : List Int} (hE : ∀ e ∈ E, e.1 ≤ 18) (hEl : E.length ≤ 400) (hk : k < E.length) (c : OftOk (E.take k) ws) (o : Owns H0 H (.sl wv 1 (numsV ws) :: L)) (ht : It.sl tv 3 (exsC E) ∈ L) {K : Value → Heap → Prop}
    (h : ∀ ws' H', OftOk (E.take (k + 1)) ws' → Owns H0 H' (.sl wv 1 (numsV ws') :: L) → K undef H') :
    pIdxSl 3 tv (.int .i64 (k : Int)) fun x75 => pLoadN H 3 x75 fun x76 => pBox H 106 (.agg #[(.int .i64 0), (.int .i64 0), (.int .u64 0)]) fun t11 H_19 => pStoreN H_19 3 t11 x76 fun _ H_20 => pFieldAddr 0 t11 fun x78 => pLoad H_20 x78 fun x79 =>
    pIdxSl 1 wv x79 fun x80 => pLoad H_20 x80 fun x81 => pAdd x81 (.int .i64 1) fun x82 => pIdxSl 1 wv x79 fun x83 => pStore H_20 x83 x82 K := by
  have hsl := o.sl (v := tv) (List.mem_cons_of_mem _ ht)
  have hat : ((exsC E).drop (k * 3)).take 3 = exC (E[k]) := by
    have : ∀ (E : List Ex) (k : Nat) (hk : k < E.length), ((exsC E).drop (k * 3)).take 3 = exC (E[k]) := by
      intro E
      induction E with
      | nil => intro k hk; simp at hk
      | cons e E ih =>
        intro k hk
        have e1 : exsC (e :: E) = exC e ++ exsC E := rfl
        cases k with
        | zero => rw [e1]; rfl
        | succ k =>
          rw [e1, show (k + 1) * 3 = 3 + k * 3 by omega, ← List.drop_drop]
          exact ih k (by simpa using hk)
    exact this E k hk
  have htk : E.take (k + 1) = E.take k ++ [E[k]] := by rw [List.take_add_one, List.getElem?_eq_getElem hk]; rfl
  have h18 := hE _ (List.getElem_mem hk)
  have hkl : (E.take k).length = k := by rw [List.length_take]; omega
  generalize E[k] = e at hat htk h18
  have hwl := c.wl
  have wr := c.wr
  rw [hkl] at wr
  refine hsl.at_ (exsC_len E) (by decide) (by omega) (by omega) fun p hp => ?_
  rw [Int.toNat_natCast] at hp
  refine hp.loadN hsl (ws := exC e) hat rfl ?_
  refine o.box fun tb H4 o4 _ => ?_
  refine o4.bstoreN (vs := exC e) (by repeat (first | exact List.mem_cons_self | apply List.mem_cons_of_mem)) rfl rfl rfl (by repeat (first | exact Rep.here | apply Rep.there)) fun H5 o5 _ => ?_
  rw [pFieldAddr_v, add_mk]
  refine o5.bload (b := tb) (f := 0 + 0) (w := .int .i64 (e.1 : Nat)) (by repeat (first | exact List.mem_cons_self | apply List.mem_cons_of_mem)) rfl ?_
  refine inc_spec (a := e.1) (kd := .i64) o5 (by repeat (first | exact List.mem_cons_self | apply List.mem_cons_of_mem)) (by omega) wr (by omega) (by repeat (first | exact Rep.here | apply Rep.there)) fun H6 o6 => ?_
  refine h _ H6 ⟨by rw [List.length_set]; exact hwl, ?_, fun u hu => ?_⟩ o6.tl
  · rw [htk, List.length_append, hkl]
    have := inc_rng (a := e.1) (by omega) wr
    exact this
  · rw [htk] at hu
    rcases List.mem_append.1 hu with hu | hu
    · have := c.wt u hu
      have h5 := inc_le (cs := ws) (a := e.1) (by omega) u.1
      omega
    · rw [List.mem_singleton.1 hu, inc_get (by omega), if_pos rfl]
      have := wr _ (List.getElem_mem (show e.1 < ws.length by omega)); omega
theorem dyn_spec {G : List Tok} {lv : Value} (hG : Reads H0 ⟨0, 0, none⟩ ordV) (hs : Sl H lv 3 (toksL G)) (hlen : G.length ≤ 65535) (hg : ∀ t ∈ G, goodK t = true) (o : Owns H0 H L)
    (h : ∀ H' M cb ps pd pt tv x y z E c, HasC M x ps → HasC M y pd → HasC M z pt → It.sl tv 3 (exsC E) ∈ M → It.box cb [ps, pd, pt, tv, i64 x.length, i64 y.length, i64 c] 104 ∈ M → DynOk x y z E c → hasW x 256 → (∀ t ∈ G, hasT x y t) →
      Owns H0 H' (M ++ L) → R (.pointer (some ⟨cb, 0, none⟩)) H') : CallsH Tryz.prog 27 #[lv] H R := by
  refine block_dynamicCoder.vc _ _ _ ?_
  unfold block_dynamicCoder.res
  refine counts_spec hs hlen hg fun y1 y2 cs ds H1 c o1 => ?_
  refine pExtract_to (vs := [y1, y2]) rfl ?_
  refine pExtract_to (vs := [y1, y2]) rfl ?_
  have hcl := c.cl
  have hdl := c.dl
  have hgc : goodM cs = true := goodM_iff.2 fun z hz => by have := c.cr z hz; omega
  have hgd : goodM ds = true := goodM_iff.2 fun z hz => by have := c.dr z hz; omega
  have hs1 := suppU_len cs cs.length
  have hs2 := suppU_len ds ds.length
  refine strict_spec (m := 15) (o1.sl (v := y1) (by repeat (first | exact List.mem_cons_self | apply List.mem_cons_of_mem))) (by omega) (by omega) hgc (by decide) (by decide) (by omega) (supp_pos (s := 256) (by have := c.ce; omega)) fun y3 x0 H2 sx o2 => ?_
  refine lengths_spec (m := 15) ((o1.sl (v := y2) (by repeat (first | exact List.mem_cons_self | apply List.mem_cons_of_mem))).ext o2.ext) (by omega) hgd (by decide) (by decide) (by omega) fun y4 y0 H3 ly o3 => ?_
  refine pExtract_to (vs := [y4, .int .i64 0]) rfl ?_
  refine pExtract_to (vs := [y4, .int .i64 0]) rfl ?_
  have oA : Owns H0 H3 (.sl y4 1 (numsV y0) :: .sl y3 1 (numsV x0) :: L) := (((o.call o1).call o2).call o3).pick (List.Sublist.cons_cons _ (List.Sublist.cons_cons _ (List.Sublist.cons _ (List.Sublist.cons _ (List.Sublist.refl _)))))
  have hx0 := sx.len
  obtain ⟨ly1, ly2, _⟩ := lensOk_facts ly (by decide) (by decide) (by omega)
  refine upto_spec (least := 257) (oA.sl (v := y3) (by repeat (first | exact List.mem_cons_self | apply List.mem_cons_of_mem))) (by omega) (by omega) (by decide) fun a ha1 ha2 hza => ?_
  refine upto_spec (least := 1) (oA.sl (v := y4) (by repeat (first | exact List.mem_cons_self | apply List.mem_cons_of_mem))) (by omega) (by omega) (by decide) fun n hn1 hn2 hzn => ?_
  refine pBuild_one rfl (by simp) ?_
  refine pBuild_one rfl (by simp) ?_
  rw [pBuild_n]
  refine oA.box fun cb H6 o6 _ => ?_
  rw [pNil_v, pFieldAddr_v, add_mk]
  refine o6.bload (b := cb) (f := 0 + 4) (w := i64 a) (by repeat (first | exact List.mem_cons_self | apply List.mem_cons_of_mem)) rfl ?_
  refine cut_to (o6.sl (v := y3) (by repeat (first | exact List.mem_cons_self | apply List.mem_cons_of_mem))) (by decide) (n := x0.length) (by rw [numsV_len]; omega) (by omega) fun vx hvx bvx => ?_
  rw [pNil_v, pFieldAddr_v, add_mk]
  refine o6.bload (b := cb) (f := 0 + 5) (w := i64 n) (by repeat (first | exact List.mem_cons_self | apply List.mem_cons_of_mem)) rfl ?_
  refine cut_to (o6.sl (v := y4) (by repeat (first | exact List.mem_cons_self | apply List.mem_cons_of_mem))) (by decide) (n := y0.length) (by rw [numsV_len]; omega) (by omega) fun vy hvy bvy => ?_
  rw [Nat.mul_one, numsV_take] at hvx hvy
  have hxw : whyL (x0.take a) false = 0 := syms_why sx hcl hza (by omega)
  have hyw : whyL (y0.take n) true = 0 := dists_why ly hdl hzn (by omega)
  have hxl : (x0.take a).length = a := by rw [List.length_take]; omega
  have hyl : (y0.take n).length = n := by rw [List.length_take]; omega
  have hxn : numsV (x0.take a) ≠ [] := fun e => by have := congrArg List.length e; rw [numsV_len, hxl] at this; simp at this; omega
  have hyn : numsV (y0.take n) ≠ [] := fun e => by have := congrArg List.length e; rw [numsV_len, hyl] at this; simp at this; omega
  have hx256 : 1 ≤ (x0.take a).getD 256 0 := by rw [take_getD (by omega)]; exact sx.has 256 (by have := c.ce; omega)
  have hhx : ∀ s : Nat, 1 ≤ cs.getD s 0 → hasW (x0.take a) s := fun s h1 => by
    have h2 := sx.has s (by omega)
    have hsa : s < a := Nat.lt_of_not_le fun hn => by have := hza s hn; omega
    exact ⟨by omega, by rw [natL_getD0, take_getD hsa]; omega⟩
  have hhy : ∀ s : Nat, 1 ≤ ds.getD s 0 → hasW (y0.take n) s := fun s h1 => by
    have hsd : s < ds.length := Nat.lt_of_not_le fun hn => by rw [List.getD_eq_getElem?_getD, List.getElem?_eq_none hn] at h1; simp at h1
    have h2 := ly2 s hsd
    rw [if_pos (by omega)] at h2
    have hsa : s < n := Nat.lt_of_not_le fun hn => by have := hzn s hn; omega
    exact ⟨by omega, by rw [natL_getD0, take_getD hsa]; omega⟩
  have hGt : ∀ t ∈ G, hasT (x0.take a) (y0.take n) t := fun t ht => by
    have := c.ct t ht
    unfold hasT
    split at this
    · rename_i e; rw [if_pos e]; exact hhx _ this
    · rename_i e; rw [if_neg e]; exact ⟨hhx _ this.1, hhy _ this.2⟩
  have hrx : ∀ s, 0 ≤ (x0.take a).getD s 0 ∧ (x0.take a).getD s 0 ≤ 15 := fun s => by
    by_cases hsa : s < a
    · rw [take_getD hsa]; exact sx.rng s
    · rw [List.getD_eq_getElem?_getD, List.getElem?_eq_none (by omega)]; simp
  have hry : ∀ s, 0 ≤ (y0.take n).getD s 0 ∧ (y0.take n).getD s 0 ≤ 15 := fun s => by
    by_cases hsa : s < n
    · rw [take_getD hsa]
      by_cases hs : s < ds.length
      · have := ly2 s hs
        split at this <;> omega
      · rw [List.getD_eq_getElem?_getD, List.getElem?_eq_none (by omega)]; simp
    · rw [List.getD_eq_getElem?_getD, List.getElem?_eq_none (by omega)]; simp
  generalize x0.take a = x at hvx hxw hxl hxn hx256 hhx hGt hrx
  generalize y0.take n = y at hvy hyw hyl hyn hhy hGt hry
  have oB : Owns H0 H6 (.box cb [.pointer none, .pointer none, .pointer none, .slice none 0 0, i64 a, i64 n, .int .i64 0] 104 :: .sl y4 1 (numsV y0) :: .sl y3 1 (numsV x0) :: L) := o6
  have o7 : Owns H0 H6 (.sl y3 1 (numsV x0) :: .box cb [.pointer none, .pointer none, .pointer none, .slice none 0 0, i64 a, i64 n, .int .i64 0] 104 :: .sl y4 1 (numsV y0) :: L) := oB.arrT (by repeat (first | exact SelsT.refl | exact Sel.here | apply SelsT.cons | apply Sel.there))
  have o8 := o7.view hvx hxn bvx
  have o9 : Owns H0 H6 (.sl y4 1 (numsV y0) :: .thing (viewT vx 1 (numsV x)) :: .box cb [.pointer none, .pointer none, .pointer none, .slice none 0 0, i64 a, i64 n, .int .i64 0] 104 :: L) := o8.arrT (by repeat (first | exact SelsT.refl | exact Sel.here | apply SelsT.cons | apply Sel.there))
  have o := o9.view hvy hyn bvy
  have vX : ∀ {H : Heap} {M : List It}, Owns H0 H M → It.thing (viewT vx 1 (numsV x)) ∈ M → Sl H vx 1 (numsV x) := fun o h => (o.thing h : _ ∧ _).1
  have vY : ∀ {H : Heap} {M : List It}, Owns H0 H M → It.thing (viewT vy 1 (numsV y)) ∈ M → Sl H vy 1 (numsV y) := fun o h => (o.thing h : _ ∧ _).1
  refine newO_spec (loose := false) o (vX o (by repeat (first | exact List.mem_cons_self | apply List.mem_cons_of_mem))) (by omega) (fun H' hw _ => absurd hxw hw) fun H7 M1 px _ hM1 o => ?_
  have o := allT_in o
  refine pExtract_to (vs := [px, .int .i64 0]) rfl ?_
  refine pExtract_to (vs := [px, .int .i64 0]) rfl ?_
  rw [pNil_v, pFieldAddr_v, add_mk]
  refine o.bstore (b := cb) (f := 0 + 0) (by repeat (first | exact List.mem_cons_self | apply List.mem_cons_of_mem)) (by simp) hM1.oneB (by repeat (first | exact Rep.here | apply Rep.there)) fun H8 o _ => ?_
  refine newO_spec (loose := true) o (vY o (by repeat (first | exact List.mem_cons_self | apply List.mem_cons_of_mem))) (by omega) (fun H' hw _ => absurd hyw hw) fun H9 M2 py _ hM2 o => ?_
  have o := allT_in o
  refine pExtract_to (vs := [py, .int .i64 0]) rfl ?_
  refine pExtract_to (vs := [py, .int .i64 0]) rfl ?_
  rw [pNil_v, pFieldAddr_v, add_mk]
  refine o.bstore (b := cb) (f := 0 + 1) (by repeat (first | exact List.mem_cons_self | apply List.mem_cons_of_mem)) (by simp) hM2.oneB (by repeat (first | exact Rep.here | apply Rep.there)) fun H10 o _ => ?_
  refine o.build (sz := 1) (vs := [vx, vy]) (by decide) (fun K' hK => pBuild_two (vX o (by repeat (first | exact List.mem_cons_self | apply List.mem_cons_of_mem))).one (vY o (by repeat (first | exact List.mem_cons_self | apply List.mem_cons_of_mem))).one hK) rfl fun yl H11 o => ?_
  refine concat_spec (svs := [vx, vy]) (ls := [numsV x, numsV y]) (o.sl (v := yl) (by repeat (first | exact List.mem_cons_self | apply List.mem_cons_of_mem))) (by simp) rfl (fun k hk => ?_) ?_ ?_ fun zc H12 oc => ?_
  · match k, hk with
    | 0, _ => exact ⟨vX o (by repeat (first | exact List.mem_cons_self | apply List.mem_cons_of_mem)), _, (Nat.mul_one _).symm⟩
    | 1, _ => exact ⟨vY o (by repeat (first | exact List.mem_cons_self | apply List.mem_cons_of_mem)), _, (Nat.mul_one _).symm⟩
  · simp [numsV, oneCell]
  · simp only [List.flatten_cons, List.flatten_nil, List.length_append, numsV_len, List.length_nil]; omega
  have ez : ([numsV x, numsV y] : List (List Value)).flatten = numsV (x ++ y) := by rw [numsV_append]; simp
  rw [ez] at oc
  have hrxy : ∀ z ∈ x ++ y, 0 ≤ z ∧ z ≤ 15 := fun z hz => by
    rcases List.mem_append.1 hz with hz | hz
    · obtain ⟨i, hi, rfl⟩ := List.getElem_of_mem hz
      have := hrx i
      rwa [List.getD_eq_getElem?_getD, List.getElem?_eq_getElem hi] at this
    · obtain ⟨i, hi, rfl⟩ := List.getElem_of_mem hz
      have := hry i
      rwa [List.getD_eq_getElem?_getD, List.getElem?_eq_getElem hi] at this
  refine pack_spec (zs := x ++ y) (oc.sl (v := zc) (by repeat (first | exact List.mem_cons_self | apply List.mem_cons_of_mem))) (by rw [List.length_append]; omega) hrxy fun tv E H13 hT oE => ?_
  have hte := hT.len
  rw [List.length_append] at hte
  have htv := (oE.sl (v := tv) (by repeat (first | exact List.mem_cons_self | apply List.mem_cons_of_mem))).one
  have o : Owns H0 H13 (.sl tv 3 (exsC E) :: _) := ((o.call oc).call oE)
  rw [pNil_v, pFieldAddr_v, add_mk]
  refine o.bstore (b := cb) (f := 0 + 3) (x := tv) (by repeat (first | exact List.mem_cons_self | apply List.mem_cons_of_mem)) (by simp) htv (by repeat (first | exact Rep.here | apply Rep.there)) fun H14 o _ => ?_
  have oC : Owns H0 H14 (.sl yl 1 [vx, vy] :: .sl zc 1 (numsV (x ++ y)) :: .thing (viewT vy 1 (numsV y)) :: .thing (viewT vx 1 (numsV x)) :: .sl tv 3 (exsC E) :: .box cb [px, py, .pointer none, tv, i64 a, i64 n, .int .i64 0] 104 :: .thing (allT M2) :: .thing (allT M1) :: L) := o.arrT (by repeat (first | exact SelsT.refl | exact Sel.here | apply SelsT.cons | apply Sel.there))
  have o := oC.tl.tl.tl.tl
  refine o.make1 (by decide) (by decide) (by decide) fun wv H15 o => ?_
  rw [numsV_rep] at o
  rw [pNil_v, pFieldAddr_v, add_mk]
  refine o.bload (b := cb) (f := 0 + 3) (w := tv) (by repeat (first | exact List.mem_cons_self | apply List.mem_cons_of_mem)) rfl ?_
  refine (o.sl (v := tv) (by repeat (first | exact List.mem_cons_self | apply List.mem_cons_of_mem))).len (exsC_len E) (by decide) ?_
  have hEl : E.length ≤ 400 := by simp at hte; omega
  refine ⟨fun i H' => ∃ (k : Nat) (ws : List Int), i = .int .i64 k ∧ k ≤ E.length ∧ OftOk (E.take k) ws ∧ Owns H0 H' (.sl wv 1 (numsV ws) :: .sl tv 3 (exsC E) :: .box cb [px, py, .pointer none, tv, i64 a, i64 n, .int .i64 0] 104 :: .thing (allT M2) :: .thing (allT M1) :: L),
    fun i _ => match i with | .int _ x => (E.length - x).toNat | _ => 0, ⟨0, _, rfl, by omega, ⟨List.length_replicate, ?_, fun e he => by simp at he⟩, o⟩, ?_⟩
  · intro q hq; rw [List.eq_of_mem_replicate hq, List.take_zero]; decide
  rintro _ _ H16 ⟨k, ws, rfl, hk, cw, o⟩
  rw [pLt_v]
  refine pCond_if (fun hc => ?_) (fun hc => ?_)
  · refine often_go (tv := tv) hT.sym hEl (by omega) cw o (by repeat (first | exact List.mem_cons_self | apply List.mem_cons_of_mem)) fun ws' H17 cw' o' => ?_
    rw [pAdd_v, w64 (by omega) (by omega)]
    exact ⟨⟨k + 1, ws', rfl, by omega, cw', o'⟩, by show (_ : Int).toNat < (_ : Int).toNat; omega⟩
  have hkE : k = E.length := by omega
  rw [hkE, List.take_length] at cw
  have hwl := cw.wl
  have hs3 := suppU_len ws ws.length
  obtain ⟨e0, he0⟩ : ∃ e, e ∈ E := by
    cases E with
    | nil =>
      have : [] = x ++ y := hT
      have := congrArg List.length this
      rw [List.length_append] at this
      simp at this; omega
    | cons e E => exact ⟨e, by simp⟩
  refine strict_spec (m := 7) (o.sl (v := wv) (by repeat (first | exact List.mem_cons_self | apply List.mem_cons_of_mem))) (by omega) (by omega) (goodM_iff.2 fun z hz => by have := cw.wr z hz; omega) (by decide) (by decide) (by omega) (supp_pos (s := e0.1) (by have := cw.wt e0 he0; omega)) fun zv z H17 sz oz => ?_
  have o := o.call oz
  have hzl := sz.len
  have hrz := sz.rng
  have hzw : whyL z false = 0 := why_full (okZ_of (by omega) fun s => by have := hrz s; omega) sz.share
  refine newO_spec (loose := false) o (o.sl (v := zv) (by repeat (first | exact List.mem_cons_self | apply List.mem_cons_of_mem))) (by omega) (fun H' hw _ => absurd hzw hw) fun H18 M3 pz _ hM3 o => ?_
  have o := allT_in o
  refine pExtract_to (vs := [pz, .int .i64 0]) rfl ?_
  refine pExtract_to (vs := [pz, .int .i64 0]) rfl ?_
  rw [pNil_v, pFieldAddr_v, add_mk]
  refine o.bstore (b := cb) (f := 0 + 2) (x := pz) (by repeat (first | exact List.mem_cons_self | apply List.mem_cons_of_mem)) (by simp) hM3.oneB (by repeat (first | exact Rep.here | apply Rep.there)) fun H19 o _ => ?_
  rw [pNil_v, pFieldAddr_v, add_mk]
  refine o.bstore (b := cb) (f := 0 + 6) (x := .int .i64 19) (by repeat (first | exact List.mem_cons_self | apply List.mem_cons_of_mem)) (by simp) rfl (by repeat (first | exact Rep.here | apply Rep.there)) fun H20 o _ => ?_
  have hhz : ∀ e ∈ E, hasW z e.1 := fun e he => by
    have h1 := cw.wt e he
    have h2 := sz.has e.1 (by omega)
    have h3 := hT.sym e he
    exact ⟨by omega, by rw [natL_getD0]; omega⟩
  refine ⟨fun H' => ∃ c : Nat, 4 ≤ c ∧ c ≤ 19 ∧ (∀ j, c ≤ j → j < 19 → z.getD (orderL.getD j 0) 0 = 0) ∧ Owns H0 H' (.thing (allT M3) :: .sl zv 1 (numsV z) :: .sl wv 1 (numsV ws) :: .sl tv 3 (exsC E) :: .box cb [px, py, pz, tv, i64 a, i64 n, i64 c] 104 :: .thing (allT M2) :: .thing (allT M1) :: L),
    fun H' => cellN H' cb 6, ⟨19, by decide, by decide, fun j h1 h2 => by omega, o⟩, ?_⟩
  rintro _ H21 ⟨c, hc4, hc19, hz0, o⟩
  rw [pNil_v, pFieldAddr_v, add_mk]
  refine o.bload (b := cb) (f := 0 + 6) (w := i64 c) (by repeat (first | exact List.mem_cons_self | apply List.mem_cons_of_mem)) rfl ?_
  have fin : (∀ j, c ≤ j → j < 19 → z.getD (orderL.getD j 0) 0 = 0) → R (.pointer (some ⟨cb, 0, none⟩)) H21 := fun hz0 => by
    have o : Owns H0 H21 (.sl zv 1 (numsV z) :: .sl wv 1 (numsV ws) :: .thing (allT M1) :: .thing (allT M2) :: .thing (allT M3) :: .sl tv 3 (exsC E) :: .box cb [px, py, pz, tv, i64 a, i64 n, i64 c] 104 :: L) := o.arrT (by repeat (first | exact SelsT.refl | exact Sel.here | apply SelsT.cons | apply Sel.there))
    have o1 := allT_out o.tl.tl
    have o2 := o1.perm (L' := .thing (allT M2) :: (M1 ++ (.thing (allT M3) :: .sl tv 3 (exsC E) :: .box cb [px, py, pz, tv, i64 a, i64 n, i64 c] 104 :: L))) List.perm_middle.symm
    have o3 := allT_out o2
    have o4 : Owns H0 H21 (.thing (allT M3) :: (M2 ++ (M1 ++ (.sl tv 3 (exsC E) :: .box cb [px, py, pz, tv, i64 a, i64 n, i64 c] 104 :: L)))) := o3.perm (by
      rw [← List.append_assoc, ← List.append_assoc]
      exact List.perm_middle.symm)
    have o5 := allT_out o4
    refine h H21 (M3 ++ (M2 ++ (M1 ++ [.sl tv 3 (exsC E), .box cb [px, py, pz, tv, i64 a, i64 n, i64 c] 104 ]))) cb px py pz tv x y z E c (hM1.mono fun i hi => by simp [hi]) (hM2.mono fun i hi => by simp [hi]) (hM3.mono fun i hi => by simp [hi]) (by simp) (by rw [hxl, hyl]; simp)
      ⟨by omega, by omega, by omega, by omega, hc4, hc19, by omega, fun s => by have := hrz s; omega, hz0, hzw, why_okC hzw, hT, hhz, by omega, hxw, hyw⟩ ⟨by omega, by rw [natL_getD0]; omega⟩ hGt ?_
    simpa [List.append_assoc] using o5
  rw [pGt_v]
  by_cases hc : 4 < c
  · rw [decide_eq_true (by omega)]
    refine pAnd_true ?_
    rw [pNil_v, pFieldAddr_v, add_mk]
    refine o.bload (b := cb) (f := 0 + 6) (w := i64 c) (by repeat (first | exact List.mem_cons_self | apply List.mem_cons_of_mem)) rfl ?_
    rw [pSub_v, w64 (by omega) (by omega), pIdxArr_v]
    refine ⟨by omega, by omega, ?_⟩
    have hcell := (hG.ext o.ext) (c - 1) _ (ordV_get (by omega))
    rw [add_mk, Nat.zero_add] at hcell
    rw [add_mk, show 0 + ((c : Int) - 1).toNat * 1 = c - 1 by omega, pLoad_cell hcell]
    have hlt := orderL_lt ⟨c - 1, by omega⟩
    dsimp only at hlt
    have hzs := o.sl (v := zv) (by repeat (first | exact List.mem_cons_self | apply List.mem_cons_of_mem))
    have hzg : z.getD (orderL.getD (c - 1) 0) 0 = z[orderL.getD (c - 1) 0]'(by omega) := by rw [List.getD_eq_getElem?_getD, List.getElem?_eq_getElem (by omega)]; rfl
    refine hzs.at_ (n := z.length) (by rw [numsV_len]; omega) (by decide) (by omega) (by omega) fun p hp => ?_
    refine hp.load hzs (w := .int .i64 (z[orderL.getD (c - 1) 0]'(by omega))) (by rw [Int.toNat_natCast, Nat.mul_one, numsV_get (by omega)]) ?_
    rw [pEq_0]
    intro _
    refine pCond_if (fun he => ?_) (fun he => fin hz0)
    rw [pNil_v, pFieldAddr_v, add_mk]
    refine o.bload (b := cb) (f := 0 + 6) (w := i64 c) (by repeat (first | exact List.mem_cons_self | apply List.mem_cons_of_mem)) rfl ?_
    rw [pSub_v, w64 (by omega) (by omega), pNil_v, pFieldAddr_v, add_mk]
    have m1 := cellN_at (o.blk (b := cb) (cs := [px, py, pz, tv, i64 a, i64 n, i64 c]) (t := 104) (by repeat (first | exact List.mem_cons_self | apply List.mem_cons_of_mem))) (f := 6) (k := .i64) (x := c) rfl
    refine o.bstore (b := cb) (f := 0 + 6) (x := .int .i64 ((c : Int) - 1)) (by repeat (first | exact List.mem_cons_self | apply List.mem_cons_of_mem)) (by simp) rfl (by repeat (first | exact Rep.here | apply Rep.there)) fun H22 o2 _ => ?_
    rw [show (c : Int) - 1 = ((c - 1 : Nat) : Int) by omega] at o2
    have m2 := cellN_at (o2.blk (b := cb) (cs := [px, py, pz, tv, i64 a, i64 n, i64 (c - 1 : Nat)]) (t := 104) (by repeat (first | exact List.mem_cons_self | apply List.mem_cons_of_mem))) (f := 6) (k := .i64) (x := (c - 1 : Nat)) rfl
    refine ⟨⟨c - 1, by omega, by omega, fun j h1 h2 => ?_, o2⟩, by dsimp only; rw [m1, m2]; omega⟩
    by_cases e : j = c - 1
    · subst e; rw [hzg]; exact he
    · exact hz0 j (by omega) h2
  · rw [decide_eq_false (by omega), pAnd_false]
    intro _
    rw [pCond_false]
    exact fin hz0
end Go.Proofs.YtameljhbkedhjaaGreatDoor
namespace Go.Proofs.YtameljhbkedhjaaGreatDoor
open Go Go.Vc Go.Proofs
set_option linter.unusedVariables false
set_option linter.unusedSimpArgs false
variable {H H0 H' : Heap} {R : Value → Heap → Prop} {v : Value} {L : List It} {zs : List Int} {b : Nat} {B : List Bool}
theorem or_add {a c k : Nat} (h : a < 2 ^ k) : a ||| 2 ^ k * c = a + 2 ^ k * c := by
  rw [Nat.or_comm, ← Nat.two_pow_add_eq_or_of_lt h]; omega
theorem exsC_at : ∀ (E : List Ex) (k : Nat) (hk : k < E.length), ((exsC E).drop (k * 3)).take 3 = exC (E[k])
  | [], k, hk => by simp at hk
  | e :: E, 0, hk => rfl
  | e :: E, k + 1, hk => by
    rw [show exsC (e :: E) = exC e ++ exsC E from rfl, show (k + 1) * 3 = 3 + k * 3 by omega, ← List.drop_drop]
    exact exsC_at E k (by simpa using hk)
theorem told_bits : ∀ {es : List Ex} {out l : List Int}, Told out es l → ∀ e ∈ es, e.2.1 ≤ 7 ∧ e.2.2 < 128
  | [], out, l, h, e, he => by simp at he
  | u :: es, out, l, h, e, he => by
    rcases List.mem_cons.1 he with rfl | he
    · rcases h.1 with h | h | h | h <;> omega
    · exact told_bits h.2 e he
theorem head_spec {dv pt tv q0 q1 : Value} {cb c : Nat} {x y z : List Int} {E : List Ex} (hG : Reads H0 ⟨0, 0, none⟩ ordV) (d : DynOk x y z E c) (hcb : It.box cb [q0, q1, pt, tv, i64 x.length, i64 y.length, i64 c] 104 ∈ L) (hz : HasC L z pt) (ht : It.sl tv 3 (exsC E) ∈ L)
    (hbig : B.length ≤ 500000000) (o : Owns H0 H (.thing (wrT b dv B) :: L)) (h : ∀ H' dv', Owns H0 H' (.thing (wrT b dv' (B ++ dynB x y z E c)) :: L) → R (.tuple #[]) H') :
    CallsH Tryz.prog 28 #[.pointer (some ⟨cb, 0, none⟩), at_ b 0] H R := by
  have a1 := d.a1; have a2 := d.a2; have b1 := d.b1; have b2 := d.b2; have c1 := d.c1; have c2 := d.c2; have zl := d.zl
  have hte := d.told.len
  rw [List.length_append] at hte
  have hEl : E.length ≤ 316 := by simp at hte; omega
  refine block_coder_head.vc _ _ _ _ ?_
  unfold block_coder_head.res
  rw [pNil_v, pFieldAddr_v, add_mk]
  refine o.bload (b := cb) (f := 0 + 4) (cs := [q0, q1, pt, tv, i64 x.length, i64 y.length, i64 c]) (t := 104) (w := i64 x.length) (by simp [hcb]) rfl ?_
  rw [pSub_v, w64 (by omega) (by omega), pConv_v, wu64 (by omega) (by omega), pNil_v, pFieldAddr_v, add_mk]
  refine o.bload (b := cb) (f := 0 + 5) (cs := [q0, q1, pt, tv, i64 x.length, i64 y.length, i64 c]) (t := 104) (w := i64 y.length) (by simp [hcb]) rfl ?_
  rw [pSub_v, w64 (by omega) (by omega), pConv_v, wu64 (by omega) (by omega), pShl_v]
  refine ⟨by decide, ?_⟩
  rw [show min (5 : Int).toNat IntKind.u64.bits = 5 from rfl, show ((y.length : Int) - 1) * 2 ^ 5 = ((2 ^ 5 * (y.length - 1) : Nat) : Int) by omega, wu64 (by omega) (by omega), show (x.length : Int) - 257 = ((x.length - 257 : Nat) : Int) by omega, pBits_v, or_u64 (by omega) (by omega), or_add (by omega)]
  rw [pNil_v, pFieldAddr_v, add_mk]
  refine o.bload (b := cb) (f := 0 + 6) (cs := [q0, q1, pt, tv, i64 x.length, i64 y.length, i64 c]) (t := 104) (w := i64 c) (by simp [hcb]) rfl ?_
  rw [pSub_v, w64 (by omega) (by omega), pConv_v, wu64 (by omega) (by omega), pShl_v]
  refine ⟨by decide, ?_⟩
  rw [show min (10 : Int).toNat IntKind.u64.bits = 10 from rfl, show ((c : Int) - 4) * 2 ^ 10 = ((2 ^ 10 * (c - 4) : Nat) : Int) by omega, wu64 (by omega) (by omega), pBits_v, or_u64 (by omega) (by omega), or_add (by omega)]
  refine wbitsG (n := x.length - 257 + 2 ^ 5 * (y.length - 1) + 2 ^ 10 * (c - 4)) (k := 14) (by omega) (by omega) (by omega) o fun H1 dv1 o => ?_
  rw [pNil_v, pFieldAddr_v, add_mk]
  refine o.bload (b := cb) (f := 0 + 2) (cs := [q0, q1, pt, tv, i64 x.length, i64 y.length, i64 c]) (t := 104) (w := pt) (by simp [hcb]) rfl ?_
  obtain ⟨hzo, kb, lv, wv, sv, rfl, hm⟩ := hz
  have hz : HasC L z (.pointer (some ⟨kb, 0, none⟩)) := ⟨hzo, kb, lv, wv, sv, rfl, hm⟩
  refine lens_spec o (lv := lv) (wv := wv) (sv := sv) (List.mem_cons_of_mem _ (hm (.box kb (codeCells lv wv (countsL (natL z)) sv) 90 ) List.mem_cons_self)) (List.mem_cons_of_mem _ (hm (.sl lv 1 (numsV z)) (by simp [codeIts]))) (by omega) fun yv H2 ov => ?_
  have o := o.call ov
  have o : Owns H0 H2 (.thing (wrT b dv1 (B ++ bitsN (x.length - 257 + 2 ^ 5 * (y.length - 1) + 2 ^ 10 * (c - 4)) 14)) :: .sl yv 1 (numsV z) :: L) := o.arrT (by repeat (first | exact SelsT.refl | exact Sel.here | apply SelsT.cons | apply Sel.there))
  generalize hB1 : B ++ bitsN (x.length - 257 + 2 ^ 5 * (y.length - 1) + 2 ^ 10 * (c - 4)) 14 = B1 at o
  have hB1l : B1.length = B.length + 14 := by rw [← hB1, List.length_append, bitsN_len]
  rw [pNil_v, pFieldAddr_v, add_mk]
  refine o.bload (b := cb) (f := 0 + 6) (cs := [q0, q1, .pointer (some ⟨kb, 0, none⟩), tv, i64 x.length, i64 y.length, i64 c]) (t := 104) (w := i64 c) (by simp [hcb]) rfl ?_
  rw [pSlArr_v, pBounds_01]
  refine ⟨by omega, by omega, ?_⟩
  rw [Int.toNat_natCast, Nat.sub_zero, if_neg (by decide), add_mk, pLen_v]
  refine ⟨fun u H' => ∃ (i : Nat) (dv' : Value), u = i64 i ∧ i ≤ c ∧ Owns H0 H' (.thing (wrT b dv' (B1 ++ tellB z (orderL.take i))) :: .sl yv 1 (numsV z) :: L), fun u _ => match u with | .int _ i => (c - i).toNat | _ => 0, ⟨0, dv1, rfl, by omega, by simpa [tellB] using o⟩, ?_⟩
  rintro _ _ H3 ⟨i, dv3, rfl, hi, o⟩
  have htl : ∀ i, (tellB z (orderL.take i)).length ≤ 3 * 19 := fun i => by
    have : ∀ l : List Nat, (tellB z l).length = 3 * l.length := fun l => by
      induction l with
      | nil => rfl
      | cons s l ih => unfold tellB at ih ⊢; rw [List.flatMap_cons, List.length_append, ih, bitsN_len, List.length_cons]; omega
    rw [this, List.length_take]
    have : orderL.length = 19 := rfl
    omega
  rw [pLt_v]
  refine pCond_if (fun hc1 => ?_) (fun hc1 => ?_)
  · have hic : i < c := by omega
    rw [pIdxSl_v]
    refine ⟨by omega, by omega, ?_⟩
    have hcell := (hG.ext o.ext) i _ (ordV_get (by omega))
    rw [add_mk, Nat.zero_add] at hcell
    rw [add_mk, Int.toNat_natCast, show 0 + 0 + i * 1 = i by omega, pLoad_cell hcell]
    have hlt := orderL_lt ⟨i, by omega⟩
    dsimp only at hlt
    have hzs := o.sl (v := yv) (by repeat (first | exact List.mem_cons_self | apply List.mem_cons_of_mem))
    have hz7 := d.z7 (orderL.getD i 0)
    have hzg : z.getD (orderL.getD i 0) 0 = z[orderL.getD i 0]'(by omega) := by rw [List.getD_eq_getElem?_getD, List.getElem?_eq_getElem (by omega)]; rfl
    refine hzs.at_ (n := z.length) (by rw [numsV_len]; omega) (by decide) (by omega) (by omega) fun p hp => ?_
    refine hp.load hzs (w := .int .i64 (z.getD (orderL.getD i 0) 0)) (by rw [Int.toNat_natCast, Nat.mul_one, numsV_get (by omega), hzg]) ?_
    rw [pConv_v, wu64 (by omega) (by omega), show z.getD (orderL.getD i 0) 0 = (((z.getD (orderL.getD i 0) 0).toNat : Nat) : Int) by omega]
    refine wbitsG (n := (z.getD (orderL.getD i 0) 0).toNat) (k := 3) (by omega) (by omega) (by rw [List.length_append]; have := htl i; omega) o fun H4 dv4 o => ?_
    rw [pAdd_v, w64 (by omega) (by omega)]
    refine ⟨⟨i + 1, dv4, rfl, by omega, ?_⟩, by show (_ : Int).toNat < (_ : Int).toNat; omega⟩
    have e : tellB z (orderL.take (i + 1)) = tellB z (orderL.take i) ++ bitsN (z.getD (orderL.getD i 0) 0).toNat 3 := by
      have hio : i < orderL.length := by show i < 19; omega
      unfold tellB
      rw [List.take_add_one, List.getElem?_eq_getElem hio, List.flatMap_append, List.getD_eq_getElem?_getD (l := orderL), List.getElem?_eq_getElem hio]
      simp
    rw [e, ← List.append_assoc]
    exact o
  · have hic : i = c := by omega
    rw [hic] at o
    rw [pNil_v, pFieldAddr_v, add_mk]
    refine o.bload (b := cb) (f := 0 + 3) (cs := [q0, q1, .pointer (some ⟨kb, 0, none⟩), tv, i64 x.length, i64 y.length, i64 c]) (t := 104) (w := tv) (by simp [hcb]) rfl ?_
    have o := (o.arrT (L' := .sl yv 1 (numsV z) :: .thing (wrT b dv3 (B1 ++ tellB z (orderL.take c))) :: L) (by repeat (first | exact SelsT.refl | exact Sel.here | apply SelsT.cons | apply Sel.there))).tl
    have hB2 := htl c
    generalize hT2 : tellB z (orderL.take c) = T2 at o hB2
    refine (o.sl (v := tv) (List.mem_cons_of_mem _ ht)).len (exsC_len E) (by decide) ?_
    refine ⟨fun u H' => ∃ (k : Nat) (dv' : Value), u = i64 k ∧ k ≤ E.length ∧ ((E.take k).flatMap (encE z)).length ≤ 30 * k ∧ Owns H0 H' (.thing (wrT b dv' (B1 ++ T2 ++ (E.take k).flatMap (encE z))) :: L), fun u _ => match u with | .int _ k => (E.length - k).toNat | _ => 0, ⟨0, dv3, rfl, by omega, by simp, by simpa using o⟩, ?_⟩
    rintro _ _ H5 ⟨k, dv5, rfl, hk, hkl, o⟩
    rw [pLt_v]
    refine pCond_if (fun hc2 => ?_) (fun hc2 => ?_)
    · have hkn : k < E.length := by omega
      have hat := exsC_at E k hkn
      have htk : (E.take (k + 1)).flatMap (encE z) = (E.take k).flatMap (encE z) ++ encE z E[k] := by rw [List.take_add_one, List.getElem?_eq_getElem hkn, List.flatMap_append]; simp
      have hbt := told_bits d.told _ (List.getElem_mem hkn)
      have hhs := d.has _ (List.getElem_mem hkn)
      generalize E[k] = e at hat htk hbt hhs
      generalize (E.take k).flatMap (encE z) = X at o hkl htk
      have hw := wordB_le hzo e.1
      have hsl := o.sl (v := tv) (List.mem_cons_of_mem _ ht)
      refine hsl.at_ (exsC_len E) (by decide) (by omega) (by omega) fun p hp => ?_
      rw [Int.toNat_natCast] at hp
      refine hp.loadN hsl (ws := exC e) hat rfl ?_
      refine o.box fun tb H6 o _ => ?_
      refine o.bstoreN (vs := exC e) (by repeat (first | exact List.mem_cons_self | apply List.mem_cons_of_mem)) rfl rfl rfl (by repeat (first | exact Rep.here | apply Rep.there)) fun H7 o _ => ?_
      rw [pNil_v, pFieldAddr_v, add_mk]
      refine o.bload (b := cb) (f := 0 + 2) (cs := [q0, q1, .pointer (some ⟨kb, 0, none⟩), tv, i64 x.length, i64 y.length, i64 c]) (t := 104) (w := .pointer (some ⟨kb, 0, none⟩)) (by simp [hcb]) rfl ?_
      rw [pFieldAddr_v, add_mk]
      refine o.bload (b := tb) (f := 0 + 0) (w := .int .i64 (e.1 : Nat)) (by repeat (first | exact List.mem_cons_self | apply List.mem_cons_of_mem)) rfl ?_
      have o := o.arrT (L' := .thing (wrT b dv5 (B1 ++ T2 ++ X)) :: .box tb (exC e) 106 :: L) (by repeat (first | exact SelsT.refl | exact Sel.here | apply SelsT.cons | apply Sel.there))
      refine cwrite_spec (s := e.1) hz.cons hhs (by simp only [List.length_append]; omega) o fun H8 dv8 o => ?_
      rw [pFieldAddr_v, add_mk]
      refine o.bload (b := tb) (f := 0 + 2) (w := .int .u64 (e.2.2 : Nat)) (by repeat (first | exact List.mem_cons_self | apply List.mem_cons_of_mem)) rfl ?_
      rw [pFieldAddr_v, add_mk]
      refine o.bload (b := tb) (f := 0 + 1) (w := .int .i64 (e.2.1 : Nat)) (by repeat (first | exact List.mem_cons_self | apply List.mem_cons_of_mem)) rfl ?_
      refine wbitsG (n := e.2.2) (k := e.2.1) (by omega) (by omega) (by simp only [List.length_append]; omega) o fun H9 dv9 o => ?_
      rw [pAdd_v, w64 (by omega) (by omega)]
      have ee : encE z e = wordB (natL z) e.1 ++ bitsN e.2.2 e.2.1 := rfl
      refine ⟨⟨k + 1, dv9, rfl, by omega, by rw [htk, ee]; simp only [List.length_append, bitsN_len]; omega, ?_⟩, by show (_ : Int).toNat < (_ : Int).toNat; omega⟩
      rw [htk, ee]
      simp only [List.append_assoc] at o ⊢
      exact o.pick (List.Sublist.cons_cons _ (List.Sublist.cons _ (List.Sublist.refl _)))
    · have hkE : k = E.length := by omega
      rw [hkE, List.take_length] at o
      refine h H5 dv5 ?_
      unfold dynB
      rw [show x.length - 257 + 32 * (y.length - 1) + 1024 * (c - 4) = x.length - 257 + 2 ^ 5 * (y.length - 1) + 2 ^ 10 * (c - 4) from rfl, hT2, ← List.append_assoc, hB1, ← List.append_assoc]
      exact o
end Go.Proofs.YtameljhbkedhjaaGreatDoor
namespace Go.Proofs.YtameljhbkedhjaaGreatDoor
open Go Go.Vc Go.Proofs
set_option linter.unusedVariables false
set_option linter.unusedSimpArgs false
variable {H H0 H' : Heap} {R : Value → Heap → Prop} {v : Value} {L : List It} {zs : List Int} {b : Nat} {B : List Bool}
theorem badT_spec {t : Tok} (hg : goodK t = true) (h : ∀ H', Ext H H' → R (.bool false) H') : CallsH Tryz.prog 48 #[t.v] H R := by
  refine block_may_f1.vc _ _ _ ?_
  unfold block_may_f1.res
  refine (Owns.start (H := H)).box fun tb H1 o _ => ?_
  refine o.bloadN (by repeat (first | exact List.mem_cons_self | apply List.mem_cons_of_mem)) rfl ?_
  refine tokGood_spec (t := t) fun H2 hx => ?_
  rw [hg, pNot_v]
  exact h H2 (o.ext.trans hx)
theorem anyBadT_spec {G : List Tok} {lv : Value} (hs : Sl H lv 3 (toksL G)) (hlen : G.length ≤ 65535) (hg : ∀ t ∈ G, goodK t = true) (h : ∀ H', Ext H H' → R (.bool false) H') :
    CallsH Tryz.prog 50 #[lv, .func (.func 48) #[] #[]] H R := by
  have hvl := toksL_len G
  refine slices_ContainsFunc_s_lz_Token_lz_Token.vc _ _ _ _ ?_
  unfold slices_ContainsFunc_s_lz_Token_lz_Token.res
  refine slices_IndexFunc_s_lz_Token_lz_Token.vc _ _ _ _ ?_
  unfold slices_IndexFunc_s_lz_Token_lz_Token.res
  refine hs.len hvl (by decide) ?_
  refine ⟨fun i H' => ∃ k : Nat, i = .int .i64 k ∧ k ≤ G.length ∧ Ext H H', fun i _ => match i with | .int _ x => (G.length - x).toNat | _ => 0, ⟨0, rfl, by omega, Ext.refl _⟩, ?_⟩
  rintro _ _ H1 ⟨k, rfl, hk, hx⟩
  rw [pLt_v]
  refine pCond_if (fun hc => ?_) (fun hc => ?_)
  · have hkn : k < G.length := by omega
    have hat := toksL_at G k _ (List.getElem?_eq_getElem hkn)
    have hgk := hg _ (List.getElem_mem hkn)
    generalize G[k] = t at hat hgk
    refine (hs.ext hx).at_ hvl (by decide) (by omega) (by omega) fun p hp => ?_
    rw [Int.toNat_natCast] at hp
    refine hp.loadN (hs.ext hx) (ws := t.cells) hat rfl ?_
    refine callH_f (by kernel_rfl) ?_
    refine badT_spec (t := t) hgk fun H2 hx2 => ?_
    rw [pCond_false, pAdd_v, w64 (by omega) (by omega)]
    exact ⟨⟨k + 1, rfl, by omega, hx.trans hx2⟩, by show (_ : Int).toNat < (_ : Int).toNat; omega⟩
  · show pGe _ _ _
    rw [pGe_v, decide_eq_false (by decide)]
    exact h H1 hx
theorem may_spec {G : List Tok} {lv : Value} {s : List UInt8} {kind : Nat} (hk : kind < 3) (hsl : s.length ≤ 65535) (hs : Sl H lv 3 (toksL G)) (hlen : G.length ≤ 65535) (hg : ∀ t ∈ G, goodK t = true) (h : ∀ H', Ext H H' → R (.bool true) H') :
    CallsH Tryz.prog 21 #[.int .i64 (kind : Int), str s, lv] H R := by
  have hvl := toksL_len G
  refine block_may.vc _ _ _ _ _ ?_
  unfold block_may.res
  rw [pGe_v, decide_eq_true (by omega)]
  refine pAnd_true ?_
  rw [pLt_v, decide_eq_true (by omega)]
  intro _
  refine pAnd_true ?_
  refine pLenS_to ?_
  rw [pLe_v, decide_eq_true (by omega)]
  intro _
  refine pAnd_true ?_
  refine hs.len hvl (by decide) ?_
  rw [pLe_v, decide_eq_true (by omega)]
  intro _
  refine pAnd_true ?_
  refine anyBadT_spec hs hlen hg fun H1 hx => ?_
  rw [pNot_v]
  intro _
  exact h H1 hx
theorem flat_le {α β : Type} {f : α → List β} {k : Nat} : ∀ {l : List α}, (∀ x ∈ l, (f x).length ≤ k) → (l.flatMap f).length ≤ k * l.length
  | [], h => by simp
  | a :: l, h => by
    have h1 := h a (by simp)
    have h2 := flat_le (l := l) fun x hx => h x (by simp [hx])
    rw [List.flatMap_cons, List.length_append, List.length_cons, Nat.mul_succ]; omega
theorem dynB_len {x y z : List Int} {E : List Ex} {c : Nat} (d : DynOk x y z E c) : (dynB x y z E c).length ≤ 20000 := by
  have hte := d.told.len
  have a2 := d.a2; have b2 := d.b2; have c2 := d.c2
  rw [List.length_append] at hte
  have hEl : E.length ≤ 316 := by simp at hte; omega
  have h1 : (tellB z (orderL.take c)).length ≤ 3 * (orderL.take c).length := flat_le fun s _ => by rw [bitsN_len]; omega
  have h2 : (E.flatMap (encE z)).length ≤ 30 * E.length := flat_le fun e he => by
    have := told_bits d.told e he
    have := wordB_le d.zok e.1
    unfold encE
    rw [List.length_append, bitsN_len]; omega
  have h3 : (orderL.take c).length ≤ 19 := by rw [List.length_take]; show min c 19 ≤ 19; omega
  unfold dynB
  rw [List.length_append, List.length_append, bitsN_len]
  omega
theorem bits3 (l : Bool) : bitsN (4 + (if l then 1 else 0)) 3 = [l, false, true] := by cases l <;> rfl
theorem write_dyn {G : List Tok} {lv dv : Value} {s : List UInt8} {l : Bool} (hG : Reads H0 ⟨0, 0, none⟩ ordV) (hsl : s.length ≤ 65535) (hl : It.sl lv 3 (toksL G) ∈ L) (hlen : G.length ≤ 65535) (hg : ∀ t ∈ G, goodK t = true) (hbig : B.length ≤ 400000000)
    (o : Owns H0 H (.thing (wrT b dv B) :: L))
    (h : ∀ H' dv' x y z E c, DynOk x y z E c → hasW x 256 → okC x → okC y → (∀ t ∈ G, hasT x y t) → Owns H0 H' (.thing (wrT b dv' (B ++ (l :: false :: true :: (dynB x y z E c ++ toksG x y G)))) :: L) → R (.int .i64 0) H') :
    CallsH Tryz.prog 6 #[at_ b 0, .int .i64 2, .bool l, str s, lv] H R := by
  refine block_Write.vc _ _ _ _ _ _ _ ?_
  unfold block_Write.res
  rw [pEq_3s]
  refine pOr_false ?_
  refine may_spec (kind := 2) (by decide) hsl (o.sl (v := lv) (List.mem_cons_of_mem _ hl)) hlen hg fun H1 hx1 => ?_
  rw [pNot_v]
  intro _
  show pCond (.bool false) _ _
  rw [pCond_false, pConv_v, wu64 (by decide) (by decide), pShl_v]
  refine ⟨by decide, ?_⟩
  have o1 := o.more hx1
  refine ⟨fun hd H' => hd = .int .u64 ((4 + (if l then 1 else 0) : Nat) : Int) ∧ H1 = H', ?_, ?_⟩
  · rintro _ _ _ ⟨rfl, rfl⟩
    refine wbitsG (n := 4 + (if l then 1 else 0)) (k := 3) (by split <;> omega) (by decide) (by omega) o1 fun H3 dv3 o => ?_
    rw [pEq_0, decide_eq_false (by decide), pCond_false, pEq_0, decide_eq_false (by decide), pCond_false, ]
    refine dyn_spec hG (o.sl (v := lv) (List.mem_cons_of_mem _ hl)) hlen hg o fun H4 M cb ps pd pt tv x y z E c hx hy hz ht hcb d h256 hGt o => ?_
    have o := o.perm (L' := .thing (wrT b dv3 (B ++ bitsN (4 + (if l then 1 else 0)) 3)) :: (M ++ L)) List.perm_middle.symm
    have h15 := hx.1
    have h16 := hy.1
    refine head_spec hG d (List.mem_append_left _ hcb) hz.appl (List.mem_append_left _ ht) (by rw [List.length_append, bitsN_len]; omega) o fun H5 dv5 o => ?_
    refine tokens_spec (sy := x) (di := y) (List.mem_append_right _ hl) (List.mem_append_left _ hcb) hx.appl hy.appl h256 (fun t ht => ⟨hg t ht, hGt t ht⟩) hlen (by have := dynB_len d; rw [List.length_append, List.length_append, bitsN_len]; omega) o fun H6 dv6 o => ?_
    refine h H6 dv6 x y z E c d h256 h15 h16 hGt ?_
    rw [bits3] at o
    simp only [List.append_assoc, List.cons_append, List.nil_append] at o ⊢
    exact o.pick (List.Sublist.cons_cons _ (List.sublist_append_right M L))
  · rw [show IntKind.u64.wrap (2 * 2 ^ (min (1 : Int).toNat IntKind.u64.bits)) = 4 from rfl]
    cases l
    · rw [pCond_false]; exact ⟨rfl, rfl⟩
    · rw [pCond_true, pBits_v]; exact ⟨rfl, rfl⟩
end Go.Proofs.YtameljhbkedhjaaGreatDoor
namespace Go.Proofs.YtameljhbkedhjaaGreatDoor
open Go Go.Vc Go.Proofs
set_option linter.unusedVariables false
set_option linter.unusedSimpArgs false
variable {H H0 H' : Heap} {R : Value → Heap → Prop} {v : Value} {L : List It} {b : Nat} {B : List Bool}
theorem Steps.W {D D' : DM} {o : List UInt8} (h : Steps D o D') (hl : leftOk D.st) : D'.W = D.W ++ o ∧ leftOk D'.st := by
  induction h with
  | refl => exact ⟨by simp, hl⟩
  | step hs _ ih =>
    have hi := step_inv hl (.inl hs)
    have := ih hi.2.2
    exact ⟨by rw [this.1, hi.1, List.append_assoc], this.2⟩
theorem run_dyn {x y z : List Int} {E : List Ex} {c : Nat} {G : List Tok} {V : List UInt8} {r : List Bool} (d : DynOk x y z E c) (h256 : hasW x 256) (hx : okC x) (hy : okC y) (hG : ∀ t ∈ G, hasT x y t) (ht : tellsF G [] V) (hr : r.length < 8) :
    run ⟨.hd, true :: false :: true :: (dynB x y z E c ++ toksG x y G) ++ r, []⟩ = (V, ⟨.dn, [], V⟩, 0) := by
  have s1 := step_dyn d (l := true) (C := toksG x y G ++ r) (W := [])
  obtain ⟨o, s2⟩ := steps_toksG hx hy h256 (C := r) (l := true) ht hG
  have hall := Steps.step s1 s2
  have hal : alB r = [] := by unfold alB; rw [Nat.mod_eq_of_lt hr, List.drop_length]
  have hw := (Steps.W hall trivial).1
  have he : endM true r V = ⟨.dn, [], V⟩ := by unfold endM; rw [if_pos rfl, hal]
  rw [he] at hall hw
  have e : true :: false :: true :: (dynB x y z E c ++ toksG x y G) ++ r = true :: false :: true :: (dynB x y z E c ++ (toksG x y G ++ r)) := by simp
  rw [e]
  have := hall.fin rfl
  rw [this]
  have hw : V = [] ++ ([] ++ o) := hw
  simp only [List.nil_append] at hw ⊢
  rw [← hw]
def tokA : Tok := ⟨97, 0, 0⟩
theorem blocks_spec (hG : Reads H ⟨0, 0, none⟩ ordV) (hI : Reads H ⟨1, 0, none⟩ ordV) (h : ∀ H', Ext H H' → R (.bool true) H') : CallsH Tryz.prog 5 #[] H R := by
  refine lightertop_blocks.vc _ _ ?_
  unfold lightertop_blocks.res
  refine (Owns.start (H := H)).box fun b H1 o _ => ?_
  have o : Owns H H1 (.thing (wrT b (.slice none 0 0) []) :: []) := wr_new o
  refine pBuild_one rfl (by decide) ?_
  rw [pBuild_n]
  refine o.build1 (sz := 3) (by decide) rfl rfl fun lv H2 o => ?_
  have o : Owns H H2 (.sl lv 3 (toksL [tokA]) :: .thing (wrT b (.slice none 0 0) []) :: []) := o
  have o := o.arrT (L' := .thing (wrT b (.slice none 0 0) []) :: .sl lv 3 (toksL [tokA]) :: []) (by repeat (first | exact SelsT.refl | exact Sel.here | apply SelsT.cons | apply Sel.there))
  refine write_dyn (G := [tokA]) (s := [97]) (l := true) hG (by decide) (by repeat (first | exact List.mem_cons_self | apply List.mem_cons_of_mem)) (by decide) (fun t ht => by rw [List.mem_singleton.1 ht]; rfl) (by decide) o fun H3 dv3 x y z E c d h256 hx hy hGt o => ?_
  have hdl := dynB_len d
  have htl : (toksG x y [tokA]).length ≤ 30 := by
    unfold toksG
    rw [List.flatMap_cons, List.flatMap_nil, List.append_nil, List.length_append]
    have h1 := wordB_le hx 256
    have h2 := wordB_le hx 97
    have e : tokG x y tokA = wordB (natL x) 97 := rfl
    rw [e]; omega
  rw [List.nil_append] at o
  have hBl : (true :: false :: true :: (dynB x y z E c ++ toksG x y [tokA])).length ≤ 30000 := by simp only [List.length_cons, List.length_append]; omega
  have hrun := fun {r : List Bool} (hr : r.length < 8) => run_dyn (V := [97]) (r := r) d h256 hx hy hGt ⟨⟨rfl, by decide⟩, rfl⟩ hr
  generalize true :: false :: true :: (dynB x y z E c ++ toksG x y [tokA]) = BB at o hBl hrun
  refine wAlign_spec (wr_at o (by repeat (first | exact List.mem_cons_self | apply List.mem_cons_of_mem))) (by omega) fun H4 dv4 w c4 => ?_
  have o := owns_wr o w c4 Rep.here
  obtain ⟨r, hpad, hr8⟩ := padB_ext7 BB
  have hpl := padB_len BB
  have hpm : (padB BB).length % 8 = 0 := by omega
  refine wDrain_spec (wr_at o (by repeat (first | exact List.mem_cons_self | apply List.mem_cons_of_mem))) fun H5 dv5 w c5 => ?_
  have o := owns_wr o w c5 Rep.here
  have hs : toBits (toBytes (padB BB)) = BB ++ r := by rw [toBits_toBytes ((padB BB).length / 8) _ (by omega), hpad]
  have hsl : (toBytes (padB BB)).length ≤ 100000000 := by
    rw [toBytes_len ((padB BB).length / 8) _ rfl, hpad, List.length_append]; omega
  have hrun := hrun hr8
  rw [← hs] at hrun
  have fin : ∀ (o' : List UInt8) (D' : DM) (e : Int), run ⟨.hd, toBits (toBytes (padB BB)), []⟩ = (o', D', e) → o' = [97] ∧ D' = ⟨.dn, [], [97]⟩ ∧ e = 0 := fun o' D' e he => by
    rw [hrun] at he
    cases he; exact ⟨rfl, rfl, rfl⟩
  refine all_spec7 hI o hsl (fun o' D' H6 he hdn hx6 => ?_) (fun o' D' H6 he hdn _ => ?_) (fun o' D' e H6 he hne _ => ?_)
  · obtain ⟨rfl, rfl, _⟩ := fin _ _ _ he
    refine pExtract_to (vs := [str [97], str (toBytes _), .int .i64 0]) rfl ?_
    refine pExtract_to (vs := [str [97], str (toBytes _), .int .i64 0]) rfl ?_
    refine pExtract_to (vs := [str [97], str (toBytes _), .int .i64 0]) rfl ?_
    have hz : ∀ n, toBytes (List.take n (alB [])) = [] := fun n => by rw [show alB [] = [] from rfl, List.take_nil]; rfl
    rw [pEq_0, decide_eq_true rfl]
    refine pAnd_true ?_
    rw [pEq_0, decide_eq_true rfl]
    intro _
    refine pAnd_true ?_
    refine pEq1_to ?_
    rw [decide_eq_true rfl]
    intro _
    refine pAnd_true ?_
    refine pEq1_to ?_
    rw [decide_eq_true (hz _)]
    intro _
    exact h H6 hx6
  · obtain ⟨_, rfl, _⟩ := fin _ _ _ he
    exact absurd hdn (by decide)
  · obtain ⟨_, _, rfl⟩ := fin _ _ _ he
    exact absurd rfl hne
end Go.Proofs.YtameljhbkedhjaaGreatDoor
namespace Go.Vc
open Go
set_option linter.unusedVariables false
set_option linter.unusedSimpArgs false
def putN (n : Nat) (k : Nat) : List UInt8 := (List.range k).map fun i => UInt8.ofNat (n / 256 ^ i % 256)
theorem putN_len (n k : Nat) : (putN n k).length = k := by simp [putN]
theorem putN_succ (n k : Nat) : putN n (k + 1) = putN n k ++ [UInt8.ofNat (n / 256 ^ k % 256)] := by
  unfold putN; rw [List.range_succ, List.map_append]; rfl
end Go.Vc
namespace Go.Proofs.YtameljhbkedhjaaGreatDoor
open Go Go.Vc Go.Proofs
set_option linter.unusedVariables false
set_option linter.unusedSimpArgs false
theorem toBits_putN (n : Nat) : ∀ k, toBits (putN n k) = bitsN n (8 * k)
  | 0 => rfl
  | k + 1 => by
    rw [putN_succ, toBits_append, toBits_putN n k, toBits_one, show 8 * (k + 1) = 8 * k + 8 by omega, bitsN_add]
    congr 1
    rw [UInt8.toNat_ofNat_of_lt' (by show _ < 256; omega), show (256 : Nat) = 2 ^ 8 from rfl, bitsN_mod, show (2 : Nat) ^ (8 * k) = (2 ^ 8) ^ k by rw [Nat.pow_mul]]
theorem toBits8 (l : List UInt8) : (toBits l).length % 8 = 0 := by rw [toBits_len]; omega
noncomputable def preR (s : List UInt8) (p : Nat) : List UInt8 × DM × Int := run ⟨.hd, toBits (s.take p), []⟩
theorem preR_zero (s : List UInt8) : preR s 0 = ([], ⟨.hd, [], []⟩, 0) := run_empty
theorem preR_all {s : List UInt8} {p : Nat} (h : s.length ≤ p) : preR s p = run ⟨.hd, toBits s, []⟩ := by unfold preR; rw [List.take_of_length_le h]
theorem preR_ok {s : List UInt8} (h : (run ⟨.hd, toBits s, []⟩).2.2 = 0) (p : Nat) : (preR s p).2.2 = 0 := by
  by_cases h0 : (preR s p).2.2 = 0
  · exact h0
  · have := (run_add (C := toBits (s.drop p)) (toBits8 _) _ ⟨.hd, toBits (s.take p), []⟩ (Nat.lt_succ_self _) trivial).2 h0
    have e : DM.add ⟨.hd, toBits (s.take p), []⟩ (toBits (s.drop p)) = ⟨.hd, toBits s, []⟩ := by
      unfold DM.add
      rw [← toBits_append, List.take_append_drop]
    rw [e] at this
    exact absurd (this.1.symm.trans h) h0
theorem preR_next {s : List UInt8} (h : (run ⟨.hd, toBits s, []⟩).2.2 = 0) (p q : Nat) : preR s (p + q) = ((preR s p).1 ++ (run ((preR s p).2.1.add (toBits ((s.drop p).take q)))).1, (run ((preR s p).2.1.add (toBits ((s.drop p).take q)))).2) := by
  have h0 := preR_ok h p
  have := (run_add (C := toBits ((s.drop p).take q)) (toBits8 _) _ ⟨.hd, toBits (s.take p), []⟩ (Nat.lt_succ_self _) trivial).1 h0
  have e : DM.add ⟨.hd, toBits (s.take p), []⟩ (toBits ((s.drop p).take q)) = ⟨.hd, toBits (s.take (p + q)), []⟩ := by
    unfold DM.add
    rw [← toBits_append, ← List.take_add]
  rw [e] at this
  exact this
theorem preR_inv (s : List UInt8) (p : Nat) : (preR s p).2.1.W = (preR s p).1 ∧ (preR s p).2.1.W.length + 258 * (preR s p).2.1.B.length ≤ 258 * (8 * s.length) ∧ leftOk (preR s p).2.1.st := by
  have := run_inv _ ⟨.hd, toBits (s.take p), []⟩ (Nat.lt_succ_self _) trivial
  refine ⟨this.1, ?_, this.2.2⟩
  have h2 := this.2.1
  rw [show (DM.mk .hd (toBits (s.take p)) []).B.length = 8 * (s.take p).length from toBits_len _, List.length_take] at h2
  have : (DM.mk .hd (toBits (s.take p)) []).W.length = 0 := rfl
  unfold preR
  omega
end Go.Proofs.YtameljhbkedhjaaGreatDoor
namespace Go.Proofs.YtameljhbkedhjaaGreatDoor
open Go Go.Vc Go.Proofs
set_option linter.unusedVariables false
set_option linter.unusedSimpArgs false
theorem tokG_len {sy di : List Int} (hsy : okC sy) (hdi : okC di) {t : Tok} (hg : goodK t = true) : (tokG sy di t).length ≤ 50 := by
  unfold tokG
  split
  · have := wordB_le hsy t.b.toNat; omega
  · rcases goodK_facts hg with ⟨h, _⟩ | ⟨h1, h2, h3, h4⟩
    · contradiction
    obtain ⟨s, e, x, es, el, eb, he5, hx5⟩ := lenX_ex h1 h2
    obtain ⟨d, f, z, ed, edl, edb, hf13, hz13⟩ := dstX_ex h3 h4
    have hw1 := wordB_le hsy (symL t.n).toNat
    have hw2 := wordB_le hdi (symD t.d).toNat
    rw [eb, edb]
    simp only [List.length_append, bitsN_len]
    omega
theorem toksG_len {sy di : List Int} (hsy : okC sy) (hdi : okC di) {G : List Tok} (hg : ∀ t ∈ G, goodK t = true) : (toksG sy di G).length ≤ 50 * G.length + 15 := by
  have h1 : (G.flatMap (tokG sy di)).length ≤ 50 * G.length := flat_le fun t ht => tokG_len hsy hdi (hg t ht)
  have h2 := wordB_le hsy 256
  unfold toksG
  rw [List.length_append]; omega
def Blk (n : Nat) (l : Bool) (X : List Bool) (W V : List UInt8) : Prop := ∀ C : List Bool, (n + X.length + C.length) % 8 = 0 → ∃ o, Steps ⟨.hd, X ++ C, W⟩ o (endM l C V)
def Strm (B : List Bool) (W : List UInt8) : Prop := ∀ C : List Bool, (B.length + C.length) % 8 = 0 → ∃ o, Steps ⟨.hd, B ++ C, []⟩ o ⟨.hd, C, W⟩
theorem Strm.nil : Strm [] [] := fun C _ => ⟨_, Steps.refl⟩
theorem Strm.add {B X : List Bool} {W V : List UInt8} (h : Strm B W) (k : Blk B.length false X W V) : Strm (B ++ X) V := fun C hC => by
  rw [List.length_append] at hC
  obtain ⟨o1, s1⟩ := h (X ++ C) (by rw [List.length_append]; omega)
  obtain ⟨o2, s2⟩ := k C hC
  rw [List.append_assoc]
  exact ⟨_, s1.trans s2⟩
theorem Strm.fin {B X : List Bool} {W V : List UInt8} {r : List Bool} (h : Strm B W) (k : Blk B.length true X W V) (hr : r.length < 8) (h8 : (B ++ X ++ r).length % 8 = 0) : run ⟨.hd, B ++ X ++ r, []⟩ = (V, ⟨.dn, [], V⟩, 0) := by
  rw [List.length_append, List.length_append] at h8
  obtain ⟨o1, s1⟩ := h (X ++ r) (by rw [List.length_append]; omega)
  obtain ⟨o2, s2⟩ := k r h8
  have hall := s1.trans s2
  have hal : alB r = [] := by unfold alB; rw [Nat.mod_eq_of_lt hr, List.drop_length]
  have hw := (Steps.W hall trivial).1
  have he : endM true r V = ⟨.dn, [], V⟩ := by unfold endM; rw [if_pos rfl, hal]
  rw [he] at hall hw
  rw [List.append_assoc]
  have := hall.fin rfl
  rw [this]
  have hw : V = [] ++ (o1 ++ o2) := hw
  simp only [List.nil_append] at hw
  rw [← hw]
theorem blk_fix {n : Nat} {l : Bool} {G : List Tok} {W V : List UInt8} (hG : ∀ t ∈ G, hasT fixL fixD t) (h256 : hasW fixL 256) (ht : tellsF G W V) : Blk n l (l :: true :: false :: toksG fixL fixD G) W V := fun C _ => by
  obtain ⟨o, s⟩ := steps_toksG fixL_ok fixD_ok h256 (C := C) (l := l) ht hG
  exact ⟨_, Steps.step (step_fixed (l := l) (C := toksG fixL fixD G ++ C)) s⟩
theorem blk_dyn {n : Nat} {x y z : List Int} {E : List Ex} {c : Nat} {l : Bool} {G : List Tok} {W V : List UInt8} (d : DynOk x y z E c) (hx : okC x) (hy : okC y) (hG : ∀ t ∈ G, hasT x y t) (h256 : hasW x 256) (ht : tellsF G W V) : Blk n l (l :: false :: true :: (dynB x y z E c ++ toksG x y G)) W V := fun C _ => by
  obtain ⟨o, s⟩ := steps_toksG hx hy h256 (C := C) (l := l) ht hG
  have e : l :: false :: true :: (dynB x y z E c ++ toksG x y G) ++ C = l :: false :: true :: (dynB x y z E c ++ (toksG x y G ++ C)) := by simp
  rw [e]
  exact ⟨_, Steps.step (step_dyn d (l := l) (C := toksG x y G ++ C) (W := W)) s⟩
def stoB (l : Bool) (r : List Bool) (s : List UInt8) : List Bool := l :: false :: false :: (r ++ (bitsN s.length 16 ++ bitsN (65535 - s.length) 16 ++ toBits s))
theorem blk_stored {n : Nat} {l : Bool} {r : List Bool} {s W : List UInt8} (hs : s.length < 65536) (hr : r.length < 8) (hn : (n + 3 + r.length) % 8 = 0) : Blk n l (stoB l r s) W (W ++ s) := fun C hC => by
  have hsl := toBits_len s
  unfold stoB at hC ⊢
  simp only [List.length_cons, List.length_append, bitsN_len, hsl] at hC
  have hC8 : C.length % 8 = 0 := by omega
  have hal : alB (r ++ (bitsN s.length 16 ++ bitsN (65535 - s.length) 16 ++ (toBits s ++ C))) = bitsN s.length 16 ++ bitsN (65535 - s.length) 16 ++ (toBits s ++ C) := by
    unfold alB
    rw [show (r ++ (bitsN s.length 16 ++ bitsN (65535 - s.length) 16 ++ (toBits s ++ C))).length % 8 = r.length by simp only [List.length_append, bitsN_len, hsl]; omega, List.drop_left' rfl]
  have s1 := step_stored (l := l) (W := W) hs hal
  have s2 := step_copy (l := l) (W := W) (s := s) hC8
  have e : l :: false :: false :: (r ++ (bitsN s.length 16 ++ bitsN (65535 - s.length) 16 ++ toBits s)) ++ C = l :: false :: false :: (r ++ (bitsN s.length 16 ++ bitsN (65535 - s.length) 16 ++ (toBits s ++ C))) := by simp
  rw [e]
  exact ⟨_, Steps.step s1 (Steps.one s2)⟩
def litT (c : UInt8) : Tok := ⟨c, 0, 0⟩
def matU (n : Nat) : Tok := ⟨0, n, n⟩
theorem litT_good (c : UInt8) : goodK (litT c) = true := rfl
theorem tells_lits : ∀ (s : List UInt8) (G : List Tok) (W V : List UInt8), tellsF G (W ++ s) V → tellsF (s.map litT ++ G) W V
  | [], G, W, V, h => by simpa using h
  | c :: s, G, W, V, h => by
    refine ⟨⟨rfl, ?_⟩, ?_⟩
    · show (0 : Int) ≤ _
      omega
    · have e : tokW (litT c) W = W ++ [c] := rfl
      rw [e]
      exact tells_lits s G (W ++ [c]) V (by simpa using h)
theorem copyN_back {n : Nat} {W : List UInt8} (hn : n ≤ W.length) : ∀ k, k ≤ n → copyN k W n = W ++ (W.drop (W.length - n)).take k
  | 0, _ => by simp [copyN]
  | k + 1, h => by
    rw [copyN_end, copyN_back hn k (by omega)]
    have hd : (W.drop (W.length - n)).length = n := by rw [List.length_drop]; omega
    have ht : ((W.drop (W.length - n)).take k).length = k := by rw [List.length_take]; omega
    have hk : k < (W.drop (W.length - n)).length := by omega
    rw [List.length_append, ht, List.append_assoc]
    congr 1
    rw [List.take_add_one, List.getElem?_eq_getElem hk]
    congr 1
    rw [List.getD_eq_getElem?_getD, List.getElem?_append_left (by omega)]
    rw [List.getElem_drop]
    rw [List.getElem?_eq_getElem (by omega)]
    simp only [Option.getD_some, Option.toList_some]
    congr 2
    omega
theorem matU_good {n : Nat} (h1 : 3 ≤ n) (h2 : n ≤ 258) : goodK (matU n) = true := by
  unfold goodK matU
  dsimp only
  rw [if_neg (by omega)]
  refine decide_eq_true ⟨rfl, by omega, by omega, by omega, by omega⟩
theorem tells_mat {n : Nat} {W : List UInt8} (h1 : 3 ≤ n) (h2 : n ≤ 258) (h3 : n ≤ W.length) : tellsF [matU n] W (W ++ W.drop (W.length - n)) := by
  refine ⟨⟨matU_good h1 h2, ?_⟩, ?_⟩
  · show (n : Int) ≤ _
    omega
  · unfold tokW matU
    dsimp only
    rw [if_neg (by omega), Int.toNat_natCast, copyN_back h3 n (Nat.le_refl _), List.take_of_length_le (by rw [List.length_drop]; omega)]
    rfl
theorem fix_hasW {s : Nat} (h : s < 288) : hasW fixL s := ⟨by rw [show fixL.length = 288 by decide +kernel]; exact h, (fix_words ⟨s, h⟩).2⟩
theorem fixd_hasW {s : Nat} (h : s < 32) : hasW fixD s := ⟨by rw [show fixD.length = 32 by decide +kernel]; exact h, (fixd_words ⟨s, h⟩).2⟩
theorem fix_hasT {t : Tok} (hg : goodK t = true) : hasT fixL fixD t := by
  unfold hasT
  split
  · have := t.b.toNat_lt
    exact fix_hasW (by omega)
  · rcases goodK_facts hg with ⟨h, _⟩ | ⟨h1, h2, h3, h4⟩
    · contradiction
    have f := symL_facts h1 h2
    have g := symD_facts h3 h4
    exact ⟨fix_hasW (by omega), fixd_hasW (by omega)⟩
end Go.Proofs.YtameljhbkedhjaaGreatDoor
namespace Go.Proofs.YtameljhbkedhjaaGreatDoor
open Go Go.Vc Go.Proofs
set_option linter.unusedVariables false
set_option linter.unusedSimpArgs false
variable {H : Heap} {R : Value → Heap → Prop}
theorem put_spec {n k : Nat} (hn : n < 18446744073709551616) (hk0 : 1 ≤ k) (hk : k ≤ 8) (h : ∀ H', Ext H H' → R (str (putN n k)) H') : CallsH Tryz.prog 24 #[.int .u64 n, .int .i64 k] H R := by
  refine bits_Put.vc _ _ _ _ ?_
  unfold bits_Put.res
  simp only [pPick_v, pNil_v, pNil_f, pAdd_v, pSub_v, pMul_v, pAdd_s, pQuo_v, pRem_v, pBits_v, pShl_v, pShr_v, pLt_v, pLe_v, pGt_v, pGe_v, pEq_0, pNe_0, pEq_1, pNe_1, pEq_2, pNe_2, pEq_3n, pNe_3n, pEq_3s, pNe_3s, pEq_3t, pNe_3t, pEq_5n, pNe_5n, pEq_5s, pNe_5s, pEq_5t, pNe_5t, pEq_4n, pNe_4n, pEq_4s, pNe_4s, pNot_v, pNeg_v, pCom_v, pConv_v, pConvS_v, pMin_v, pMax_v, pFieldAddr_v, pField1_v, pFieldN_v, pExtract_v, pIdxArr_v, pIdxSl_v, pIdxStr_v, pBounds_00, pBounds_10, pBounds_01, pBounds_11, pSlStr_v, pSlSl_v, pSlArr_v, pLenS_v, pLen_v, pCap_v, pBuild_n, pBuild_c, cells_int, cells_str, cells_bool, cells_ptr, cells_slice, cells_map, cells_agg, oneCell_int, oneCell_str, oneCell_bool, oneCell_ptr, oneCell_slice, oneCell_map, putL_cons, putL_nil, pAnd_pure, pOr_pure, pAnd_pureE, pOr_pureE, pAnd_false, pOr_true, pCond_true, pCond_false, add_mk, bys_mk, bys_size, cond_true, cond_false, decide_true, decide_false, decide_not', dec_and, dec_or, dec_eqt, Bool.not_true, Bool.not_false, Option.isNone_none, Option.isNone_some, Option.map_some, Option.map_none, List.getElem?_toArray, List.getElem?_cons_zero, List.getElem?_cons_succ, List.size_toArray, List.length_cons, List.length_nil, List.length_replicate, List.set_cons_zero, List.set_cons_succ, Nat.reduceAdd, Nat.reduceMul, Nat.reduceSub, Nat.reduceLeDiff, Nat.zero_add, Nat.add_zero, Nat.zero_le, true_and, and_true, not_false_eq_true, ne_eq, Int.reduceNeg, Int.reduceEq, Int.reduceNe, Int.reduceLT, Int.reduceLE, le_refl', List.setIfInBounds_toArray, Nat.reduceLT, Array.size_setIfInBounds, if_true, if_false, reduceCtorEq, List.toArray_toList', List.drop_succ_cons, List.drop_zero, List.take_succ_cons, List.take_zero, List.nil_append, List.append_nil, List.cons_append, Bool.and_true, Bool.true_and, Bool.or_false, Bool.false_or, Bool.and_false, Bool.or_true, Bool.true_or, Bool.false_and, eq_self]
  rw [decide_eq_false (by omega), pCond_false]
  refine fun _ => own_make (by omega) (by omega) (by omega) fun v H1 o1 e1 s1 k1 => ?_
  refine (o1.sl (by decide)).len (n := k) (by simp) (by decide) ?_
  refine ⟨fun i1 H' => ∃ (i : Nat) (l : List UInt8), i1 = .int .i64 i ∧ i ≤ k ∧ l.length = k ∧ l.take i = putN n i ∧ Own H' v 1 (l.map byteV) ∧ Ext H H', fun i1 _ => match i1 with | .int _ x => (k - x).toNat | _ => 0,
    ⟨0, List.replicate k 0, rfl, by omega, by simp, rfl, ?_, e1⟩, ?_⟩
  · rw [Int.toNat_natCast] at o1
    rw [List.map_replicate]; exact o1
  rintro _ _ H2 ⟨i, l, rfl, hi, hl, ht, o2, e2⟩
  simp only [pPick_v, pNil_v, pNil_f, pAdd_v, pSub_v, pMul_v, pAdd_s, pQuo_v, pRem_v, pBits_v, pShl_v, pShr_v, pLt_v, pLe_v, pGt_v, pGe_v, pEq_0, pNe_0, pEq_1, pNe_1, pEq_2, pNe_2, pEq_3n, pNe_3n, pEq_3s, pNe_3s, pEq_3t, pNe_3t, pEq_5n, pNe_5n, pEq_5s, pNe_5s, pEq_5t, pNe_5t, pEq_4n, pNe_4n, pEq_4s, pNe_4s, pNot_v, pNeg_v, pCom_v, pConv_v, pConvS_v, pMin_v, pMax_v, pFieldAddr_v, pField1_v, pFieldN_v, pExtract_v, pIdxArr_v, pIdxSl_v, pIdxStr_v, pBounds_00, pBounds_10, pBounds_01, pBounds_11, pSlStr_v, pSlSl_v, pSlArr_v, pLenS_v, pLen_v, pCap_v, pBuild_n, pBuild_c, cells_int, cells_str, cells_bool, cells_ptr, cells_slice, cells_map, cells_agg, oneCell_int, oneCell_str, oneCell_bool, oneCell_ptr, oneCell_slice, oneCell_map, putL_cons, putL_nil, pAnd_pure, pOr_pure, pAnd_pureE, pOr_pureE, pAnd_false, pOr_true, pCond_true, pCond_false, add_mk, bys_mk, bys_size, cond_true, cond_false, decide_true, decide_false, decide_not', dec_and, dec_or, dec_eqt, Bool.not_true, Bool.not_false, Option.isNone_none, Option.isNone_some, Option.map_some, Option.map_none, List.getElem?_toArray, List.getElem?_cons_zero, List.getElem?_cons_succ, List.size_toArray, List.length_cons, List.length_nil, List.length_replicate, List.set_cons_zero, List.set_cons_succ, Nat.reduceAdd, Nat.reduceMul, Nat.reduceSub, Nat.reduceLeDiff, Nat.zero_add, Nat.add_zero, Nat.zero_le, true_and, and_true, not_false_eq_true, ne_eq, Int.reduceNeg, Int.reduceEq, Int.reduceNe, Int.reduceLT, Int.reduceLE, le_refl', List.setIfInBounds_toArray, Nat.reduceLT, Array.size_setIfInBounds, if_true, if_false, reduceCtorEq, List.toArray_toList', List.drop_succ_cons, List.drop_zero, List.take_succ_cons, List.take_zero, List.nil_append, List.append_nil, List.cons_append, Bool.and_true, Bool.true_and, Bool.or_false, Bool.false_or, Bool.and_false, Bool.or_true, Bool.true_or, Bool.false_and, eq_self]
  refine pCond_if (fun hc => ?_) (fun hc => ?_)
  · rw [w64 (n := 8 * (i : Int)) (by omega) (by omega)]
    refine ⟨by omega, ?_⟩
    rw [show 8 * (i : Int) = ((8 * i : Nat) : Int) by omega, shr_int (show 8 * i ≤ 64 by omega)]
    have hb : Value.int .u8 (IntKind.u8.wrap ((n / 2 ^ (8 * i) : Nat) : Int)) = byteV (UInt8.ofNat (n / 256 ^ i % 256)) := by
      rw [show (256 : Nat) ^ i = 2 ^ (8 * i) by rw [Nat.pow_mul], byte_low]
    rw [hb]
    refine o2.store (x := byteV _) rfl (by omega) (by rw [List.length_map]; omega) fun H3 o3 i3 s3 => ?_
    rw [w64 (by omega) (by omega)]
    rw [Int.toNat_natCast, ← List.map_set] at o3
    refine ⟨⟨i + 1, _, rfl, by omega, by simpa using hl, ?_, o3, ext_of_own e2 (fun k' hk' => by rw [k1, Option.some.injEq] at hk'; omega) i3 (by omega)⟩, by show (_ : Int).toNat < (_ : Int).toNat; omega⟩
    rw [List.take_add_one, List.getElem?_set_self (by omega), List.take_set_of_le (by omega), ht, putN_succ]
    rfl
  · have hie : i = k := by omega
    subst hie
    rw [List.take_of_length_le (by omega)] at ht
    rw [ht] at o2
    exact Sl.str (o2.sl (by decide)) (h H2 e2)
end Go.Proofs.YtameljhbkedhjaaGreatDoor
