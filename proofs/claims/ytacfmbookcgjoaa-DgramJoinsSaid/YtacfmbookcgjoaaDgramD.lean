/- Contracts of package dgram: Encode, Decode. -/
import Derived.Test.YtacfmbookcgjoaaDgram
namespace Go.Proofs.Ytacfmbookcgjoaa
open Go Go.Vc Go.Proofs
set_option linter.unusedVariables false
set_option linter.unusedSimpArgs false
variable {H : Heap} {R : Value → Heap → Prop}
def sumL (s : List UInt8) : List UInt8 := putN (more32 0 s) 4
theorem sumL_len (s : List UInt8) : (sumL s).length = 4 := putN_len _ _
theorem sum_spec {s : List UInt8} (hs : s.length ≤ 9223372036854775807) (h : ∀ H', Ext H H' → R (str (sumL s)) H') : CallsH Try.prog 19 #[str s] H R := by
  refine dgram_sum.vc _ _ _ ?_
  unfold dgram_sum.res
  refine tMake_spec fun H1 b t1 e1 hb => ?_
  refine tSum_spec hs t1 ?_
  have hm := more32_lt 0 s
  rw [pConv_v, wu64 (by omega) (by omega)]
  exact put_at (kn := 4) (by omega) (by omega) (by decide) (by decide) fun H2 e2 => h H2 (e1.trans e2)
theorem Dg.bytes_len {d : Dg} : d.bytes.length = 34 + d.text.length := by
  unfold Dg.bytes
  simp only [List.length_append, List.length_cons, List.length_nil, putN_len, foursL_len]
def Dg.code (d : Dg) : List UInt8 := d.bytes ++ sumL d.bytes
theorem encode_good {d : Dg} (hf : d.Fits) (hg : d.Good) (h : ∀ H', Ext H H' → R (.tuple #[str d.code, .int .i64 0]) H') : CallsH Try.prog 10 #[.agg d.cells.toArray] H R := by
  have ht := hg.2.2.1
  refine dgram_Encode.vc _ _ _ ?_
  unfold dgram_Encode.res
  refine pBox_ext fun H1 s1 e1 b1 => ?_
  have hb : H1[H.size]? = some (.cells d.cells.toArray 32 (0, 0)) := b1
  refine pLoadN_to hb rfl ?_
  refine good_spec hf fun H2 e2 => ?_
  rw [decide_eq_true hg]
  simp only [pPick_v, pNil_v, pNil_f, pAdd_v, pSub_v, pMul_v, pAdd_s, pQuo_v, pRem_v, pBits_v, pShl_v, pShr_v, pLt_v, pLe_v, pGt_v, pGe_v, pEq_0, pNe_0, pEq_1, pNe_1, pEq_2, pNe_2, pEq_3n, pNe_3n, pEq_3s, pNe_3s, pEq_3t, pNe_3t, pEq_5n, pNe_5n, pEq_5s, pNe_5s, pEq_5t, pNe_5t, pEq_4n, pNe_4n, pEq_4s, pNe_4s, pNot_v, pNeg_v, pCom_v, pConv_v, pConvS_v, pMin_v, pMax_v, pFieldAddr_v, pField1_v, pFieldN_v, pExtract_v, pIdxArr_v, pIdxSl_v, pIdxStr_v, pBounds_00, pBounds_10, pBounds_01, pBounds_11, pSlStr_v, pSlSl_v, pSlArr_v, pLenS_v, pLen_v, pCap_v, pBuild_n, pBuild_c, cells_int, cells_str, cells_bool, cells_ptr, cells_slice, cells_map, cells_agg, oneCell_int, oneCell_str, oneCell_bool, oneCell_ptr, oneCell_slice, oneCell_map, putL_cons, putL_nil, pAnd_pure, pOr_pure, pAnd_pureE, pOr_pureE, pAnd_false, pOr_true, pCond_true, pCond_false, add_mk, bys_mk, bys_size, cond_true, cond_false, decide_true, decide_false, decide_not', dec_and, dec_or, dec_eqt, Bool.not_true, Bool.not_false, Option.isNone_none, Option.isNone_some, Option.map_some, Option.map_none, List.getElem?_toArray, List.getElem?_cons_zero, List.getElem?_cons_succ, List.size_toArray, List.length_cons, List.length_nil, List.length_replicate, List.set_cons_zero, List.set_cons_succ, Nat.reduceAdd, Nat.reduceMul, Nat.reduceSub, Nat.reduceLeDiff, Nat.zero_add, Nat.add_zero, Nat.zero_le, true_and, and_true, not_false_eq_true, ne_eq, Int.reduceNeg, Int.reduceEq, Int.reduceNe, Int.reduceLT, Int.reduceLE, le_refl', List.setIfInBounds_toArray, Nat.reduceLT, Array.size_setIfInBounds, if_true, if_false, reduceCtorEq, List.toArray_toList', List.drop_succ_cons, List.drop_zero, List.take_succ_cons, List.take_zero, List.nil_append, List.append_nil, List.cons_append, Bool.and_true, Bool.true_and, Bool.or_false, Bool.false_or, Bool.and_false, Bool.or_true, Bool.true_or, Bool.false_and, eq_self]
  refine pLoadN_to (e2.blk hb) rfl ?_
  refine bytes_spec hf hg fun H3 e3 => ?_
  refine sum_spec (by rw [Dg.bytes_len]; omega) fun H4 e4 => ?_
  refine pAdd_str (by rw [Dg.bytes_len, sumL_len]; omega) ?_
  exact h H4 (((e1.trans e2).trans e3).trans e4)
theorem encode_bad {d : Dg} (hf : d.Fits) (hg : ¬ d.Good) (h : ∀ H', Ext H H' → R (.tuple #[str [], .int .i64 1]) H') : CallsH Try.prog 10 #[.agg d.cells.toArray] H R := by
  refine dgram_Encode.vc _ _ _ ?_
  unfold dgram_Encode.res
  refine pBox_ext fun H1 s1 e1 b1 => ?_
  have hb : H1[H.size]? = some (.cells d.cells.toArray 32 (0, 0)) := b1
  refine pLoadN_to hb rfl ?_
  refine good_spec hf fun H2 e2 => ?_
  rw [decide_eq_false hg]
  simp only [pPick_v, pNil_v, pNil_f, pAdd_v, pSub_v, pMul_v, pAdd_s, pQuo_v, pRem_v, pBits_v, pShl_v, pShr_v, pLt_v, pLe_v, pGt_v, pGe_v, pEq_0, pNe_0, pEq_1, pNe_1, pEq_2, pNe_2, pEq_3n, pNe_3n, pEq_3s, pNe_3s, pEq_3t, pNe_3t, pEq_5n, pNe_5n, pEq_5s, pNe_5s, pEq_5t, pNe_5t, pEq_4n, pNe_4n, pEq_4s, pNe_4s, pNot_v, pNeg_v, pCom_v, pConv_v, pConvS_v, pMin_v, pMax_v, pFieldAddr_v, pField1_v, pFieldN_v, pExtract_v, pIdxArr_v, pIdxSl_v, pIdxStr_v, pBounds_00, pBounds_10, pBounds_01, pBounds_11, pSlStr_v, pSlSl_v, pSlArr_v, pLenS_v, pLen_v, pCap_v, pBuild_n, pBuild_c, cells_int, cells_str, cells_bool, cells_ptr, cells_slice, cells_map, cells_agg, oneCell_int, oneCell_str, oneCell_bool, oneCell_ptr, oneCell_slice, oneCell_map, putL_cons, putL_nil, pAnd_pure, pOr_pure, pAnd_pureE, pOr_pureE, pAnd_false, pOr_true, pCond_true, pCond_false, add_mk, bys_mk, bys_size, cond_true, cond_false, decide_true, decide_false, decide_not', dec_and, dec_or, dec_eqt, Bool.not_true, Bool.not_false, Option.isNone_none, Option.isNone_some, Option.map_some, Option.map_none, List.getElem?_toArray, List.getElem?_cons_zero, List.getElem?_cons_succ, List.size_toArray, List.length_cons, List.length_nil, List.length_replicate, List.set_cons_zero, List.set_cons_succ, Nat.reduceAdd, Nat.reduceMul, Nat.reduceSub, Nat.reduceLeDiff, Nat.zero_add, Nat.add_zero, Nat.zero_le, true_and, and_true, not_false_eq_true, ne_eq, Int.reduceNeg, Int.reduceEq, Int.reduceNe, Int.reduceLT, Int.reduceLE, le_refl', List.setIfInBounds_toArray, Nat.reduceLT, Array.size_setIfInBounds, if_true, if_false, reduceCtorEq, List.toArray_toList', List.drop_succ_cons, List.drop_zero, List.take_succ_cons, List.take_zero, List.nil_append, List.append_nil, List.cons_append, Bool.and_true, Bool.true_and, Bool.or_false, Bool.false_or, Bool.and_false, Bool.or_true, Bool.true_or, Bool.false_and, eq_self]
  exact h H2 (e1.trans e2)
/-- what bytes tell -/
def Dg.parse (s : List UInt8) : Dg :=
  ⟨((s.getD 2 0).toNat : Int), getN ((s.drop 4).take 4), getN ((s.drop 8).take 4), getN ((s.drop 12).take 4), getN ((s.drop 16).take 8), getN ((s.drop 24).take 4), getN ((s.drop 28).take 4), decide (((s.getD 3 0).toNat : Int) = 1), s.drop 34⟩
theorem getN4 {l : List UInt8} (h : l.length ≤ 4) : getN l < 4294967296 := by
  have h1 := getN_lt l
  have h2 : 256 ^ l.length ≤ 256 ^ 4 := Nat.pow_le_pow_right (by decide) h
  have h3 : (256 : Nat) ^ 4 = 4294967296 := by decide
  omega
theorem take4 (s : List UInt8) (k : Nat) : ((s.drop k).take 4).length ≤ 4 := by rw [List.length_take]; omega
theorem take8 (s : List UInt8) (k : Nat) : ((s.drop k).take 8).length ≤ 8 := by rw [List.length_take]; omega
theorem Dg.parse_fits {s : List UInt8} (hs : s.length ≤ 9223372036854775807) : (Dg.parse s).Fits := by
  have hb : (s.getD 2 0).toNat < 256 := UInt8.toNat_lt _
  refine ⟨by show _ ≤ ((s.getD 2 0).toNat : Int); omega, by show ((s.getD 2 0).toNat : Int) ≤ _; omega, getN4 (take4 s 4), getN4 (take4 s 8), getN4 (take4 s 12), getN_lt8 (take8 s 16), getN4 (take4 s 24), getN4 (take4 s 28), ?_⟩
  show (s.drop 34).length ≤ _
  rw [List.length_drop]; omega
theorem get_small {s : List UInt8} (hs : s.length ≤ 8) (h : R (.int .u64 (getN s : Int)) H) : CallsH Try.prog 21 #[str s] H R := by
  refine get_spec (by omega) ?_
  rw [if_pos hs]
  exact h
theorem conv32_to {s : List UInt8} {K : Value → Prop} (hs : s.length ≤ 4) (h : K (n32 (getN s))) : pConv .u32 (.int .u64 (getN s : Int)) K := by
  have := getN4 hs
  rw [pConv_v, wu32 (by omega) (by omega)]; exact h
/-- what is told, and the error -/
def decodeF (s : List UInt8) : Dg × Int :=
  if s.length < 4 ∨ sumL (s.take (s.length - 4)) ≠ s.drop (s.length - 4) then (Dg.zero, 7)
  else if (s.take (s.length - 4)).length < 34 then (Dg.zero, 3)
  else if (Dg.parse (s.take (s.length - 4))).Good ∧ (Dg.parse (s.take (s.length - 4))).bytes = s.take (s.length - 4) then (Dg.parse (s.take (s.length - 4)), 0) else (Dg.zero, 3)
theorem zero_build {K : Value → Prop} (h : K (.agg Dg.zero.cells.toArray)) : pBuild [(.int .i64 0), (.int .u32 0), (.int .u32 0), (.int .u32 0), (.int .u64 0), (.int .u32 0), (.int .u32 0), (.bool false), (str [])] [] K := h
theorem byte_idx {s : List UInt8} {i : Int} {n : Nat} {K : Value → Prop} (e : i = n) (h1 : n < s.length) (h : K (byteV (s.getD n 0))) : pIdxStr (str s) (.int .i64 i) K := by
  subst e
  rw [pIdxStr_v, bys_mk]; exact ⟨by omega, by omega, h⟩
theorem parse_build {t : List UInt8} {K : Value → Prop} (h : K (.agg (Dg.parse t).cells.toArray)) :
    pBuild [(.int .i64 0), (.int .u32 0), (.int .u32 0), (.int .u32 0), (.int .u64 0), (.int .u32 0), (.int .u32 0), (.bool false), (str [])]
      [(0, 1, .int .i64 ((t.getD 2 0).toNat : Int)), (7, 1, .bool (decide (((t.getD 3 0).toNat : Int) = 1))), (1, 1, n32 (getN ((t.drop 4).take 4))), (2, 1, n32 (getN ((t.drop 8).take 4))), (3, 1, n32 (getN ((t.drop 12).take 4))),
       (4, 1, .int .u64 (getN ((t.drop 16).take 8) : Int)), (5, 1, n32 (getN ((t.drop 24).take 4))), (6, 1, n32 (getN ((t.drop 28).take 4))), (8, 1, str (t.drop 34))] K := by
  simp only [pPick_v, pNil_v, pNil_f, pAdd_v, pSub_v, pMul_v, pAdd_s, pQuo_v, pRem_v, pBits_v, pShl_v, pShr_v, pLt_v, pLe_v, pGt_v, pGe_v, pEq_0, pNe_0, pEq_1, pNe_1, pEq_2, pNe_2, pEq_3n, pNe_3n, pEq_3s, pNe_3s, pEq_3t, pNe_3t, pEq_5n, pNe_5n, pEq_5s, pNe_5s, pEq_5t, pNe_5t, pEq_4n, pNe_4n, pEq_4s, pNe_4s, pNot_v, pNeg_v, pCom_v, pConv_v, pConvS_v, pMin_v, pMax_v, pFieldAddr_v, pField1_v, pFieldN_v, pExtract_v, pIdxArr_v, pIdxSl_v, pIdxStr_v, pBounds_00, pBounds_10, pBounds_01, pBounds_11, pSlStr_v, pSlSl_v, pSlArr_v, pLenS_v, pLen_v, pCap_v, pBuild_n, pBuild_c, cells_int, cells_str, cells_bool, cells_ptr, cells_slice, cells_map, cells_agg, oneCell_int, oneCell_str, oneCell_bool, oneCell_ptr, oneCell_slice, oneCell_map, putL_cons, putL_nil, pAnd_pure, pOr_pure, pAnd_pureE, pOr_pureE, pAnd_false, pOr_true, pCond_true, pCond_false, add_mk, bys_mk, bys_size, cond_true, cond_false, decide_true, decide_false, decide_not', dec_and, dec_or, dec_eqt, Bool.not_true, Bool.not_false, Option.isNone_none, Option.isNone_some, Option.map_some, Option.map_none, List.getElem?_toArray, List.getElem?_cons_zero, List.getElem?_cons_succ, List.size_toArray, List.length_cons, List.length_nil, List.length_replicate, List.set_cons_zero, List.set_cons_succ, Nat.reduceAdd, Nat.reduceMul, Nat.reduceSub, Nat.reduceLeDiff, Nat.zero_add, Nat.add_zero, Nat.zero_le, true_and, and_true, not_false_eq_true, ne_eq, Int.reduceNeg, Int.reduceEq, Int.reduceNe, Int.reduceLT, Int.reduceLE, le_refl', List.setIfInBounds_toArray, Nat.reduceLT, Array.size_setIfInBounds, if_true, if_false, reduceCtorEq, List.toArray_toList', List.drop_succ_cons, List.drop_zero, List.take_succ_cons, List.take_zero, List.nil_append, List.append_nil, List.cons_append, Bool.and_true, Bool.true_and, Bool.or_false, Bool.false_or, Bool.and_false, Bool.or_true, Bool.true_or, Bool.false_and, eq_self]
  exact h
set_option maxHeartbeats 1000000 in
theorem decode_spec {s : List UInt8} (hs : s.length ≤ 1000000000) (h : ∀ H', Ext H H' → R (.tuple #[.agg (decodeF s).1.cells.toArray, .int .i64 (decodeF s).2]) H') : CallsH Try.prog 13 #[str s] H R := by
  refine dgram_Decode.vc _ _ _ ?_
  unfold dgram_Decode.res
  refine pBox_ext fun H1 s1 e1 b1 => ?_
  have hb1 : H1[H.size]? = some (.cells Dg.zero.cells.toArray 32 (0, 0)) := b1
  have hH : H.size ≤ H.size := Nat.le_refl _
  -- the answer is laid into its cell
  have out : ∀ (H' : Heap) (d : Dg) (e : Int), H'[H.size]? = some (.cells Dg.zero.cells.toArray 32 (0, 0)) → Ext H H' → decodeF s = (d, e) → pStoreN H' 9 (.pointer (some ⟨H.size, 0, none⟩)) (.agg d.cells.toArray) fun _ H_5 => pLoadN H_5 9 (.pointer (some ⟨H.size, 0, none⟩)) fun r_6 => R (.tuple #[r_6, (.int .i64 e)]) H_5 := by
    intro H' d e hb' hx hd
    refine pStoreN_upd hb' rfl rfl rfl fun H2 s2 u2 => ?_
    refine pLoadN_to u2.at_ rfl ?_
    have := h H2 (u2.ext hx (Nat.le_refl _))
    rw [hd] at this
    exact this
  refine pLenS_to ?_
  rw [pSub_v, w64 (by omega) (by omega), pLt_v]
  by_cases h4 : s.length < 4
  · rw [decide_eq_true (by omega), pOr_true]
    refine fun _ => ?_
    rw [pCond_true]
    exact out H1 Dg.zero 7 hb1 e1 (by unfold decodeF; rw [if_pos (.inl h4)])
  rw [decide_eq_false (by omega)]
  have hn : (s.length : Int) - 4 = ((s.length - 4 : Nat) : Int) := by omega
  rw [hn]
  generalize ht : s.take (s.length - 4) = t at *
  have htl : t.length = s.length - 4 := by rw [← ht, List.length_take]; omega
  have hcut : ∀ K : Value → Prop, K (str t) → pSlStr (str s) none (some (.int .i64 ((s.length - 4 : Nat) : Int))) K := fun K hK => by
    refine pSlStr_to (lo := 0) (hi := s.length - 4) (.inr ⟨rfl, rfl⟩) (.inl rfl) (by omega) (by omega) ?_
    rw [List.drop_zero, Nat.sub_zero, ht]; exact hK
  refine pOr_split (fun e => by cases e) fun _ => ?_
  refine hcut _ ?_
  refine pSlStr_to (lo := s.length - 4) (hi := s.length) (.inl rfl) (.inr ⟨rfl, rfl⟩) (by omega) (by omega) ?_
  rw [List.take_of_length_le (by rw [List.length_drop]; omega)]
  refine sum_spec (by omega) fun H2 e2 => ?_
  refine pNe1_to ?_
  have hb2 := e2.blk hb1
  refine fun _ => pCond_if (fun hc => ?_) (fun hc => ?_)
  · exact out H2 Dg.zero 7 hb2 (e1.trans e2) (by unfold decodeF; rw [ht, if_pos (.inr hc)])
  have hc : sumL t = s.drop (s.length - 4) := Classical.not_not.1 hc
  refine hcut _ ?_
  rw [pLt_v]
  refine pCond_if (fun h34 => ?_) (fun h34 => ?_)
  · exact out H2 Dg.zero 3 hb2 (e1.trans e2) (by unfold decodeF; rw [ht, if_neg (fun g => g.elim h4 (fun g => g hc)), if_pos (by omega)])
  have h34' : 34 ≤ t.length := by omega
  have hdF : decodeF s = if (Dg.parse t).Good ∧ (Dg.parse t).bytes = t then (Dg.parse t, 0) else (Dg.zero, 3) := by
    unfold decodeF; rw [ht, if_neg (fun g => g.elim h4 (fun g => g hc)), if_neg (by omega)]
  have hfit := Dg.parse_fits (s := t) (by omega)
  refine ⟨fun v H' => ∃ b : Nat, v = .pointer (some ⟨b, 0, none⟩) ∧ Ext H2 H' ∧ H'[b]? = some (.cells (Dg.parse t).cells.toArray 32 (0, 0)) ∧ H2.size ≤ b, ?_, ?_⟩
  · rintro _ _ H3 ⟨b, rfl, e3, hb3, hbb⟩
    refine pLoadN_to hb3 rfl ?_
    refine good_spec hfit fun H4 e4 => ?_
    have hb4 := e4.blk hb3
    have hz4 := (e3.trans e4).blk hb2
    have x4 : Ext H H4 := ((e1.trans e2).trans e3).trans e4
    by_cases hg : (Dg.parse t).Good
    · rw [decide_eq_true hg, pNot_v]
      refine pOr_false ?_
      refine pLoadN_to hb4 rfl ?_
      refine bytes_spec hfit hg fun H5 e5 => ?_
      refine pNe1_to ?_
      refine fun _ => pCond_if (fun hne => ?_) (fun hne => ?_)
      · exact out H5 Dg.zero 3 (e5.blk hz4) (x4.trans e5) (by rw [hdF, if_neg (fun g => hne g.2)])
      · refine pLoadN_to (e5.blk hb4) rfl ?_
        exact out H5 _ 0 (e5.blk hz4) (x4.trans e5) (by rw [hdF, if_pos ⟨hg, Classical.not_not.1 hne⟩])
    · rw [decide_eq_false hg, pNot_v]
      simp only [Bool.not_false, pOr_true]
      refine fun _ => ?_
      rw [pCond_true]
      exact out H4 Dg.zero 3 hz4 x4 (by rw [hdF, if_neg (fun g => hg g.1)])
  refine byte_idx (n := 2) rfl (by omega) ?_
  rw [pConv_v, w64 (by omega) (by have : (t.getD 2 0).toNat < 256 := UInt8.toNat_lt _; omega)]
  refine byte_idx (n := 3) rfl (by omega) ?_
  rw [pEq_0]
  have cutK : ∀ (lo hi : Int) (a n : Nat) (K : Value → Prop), lo = a → hi = (a + n : Nat) → a + n ≤ 34 → K (str ((t.drop a).take n)) → pSlStr (str t) (some (.int .i64 lo)) (some (.int .i64 hi)) K := fun lo hi a n K e1 e2 h2 hK => by
    subst e1; subst e2
    refine pSlStr_to (.inl rfl) (.inl rfl) (by omega) (by omega) ?_
    rw [show a + n - a = n by omega]; exact hK
  refine cutK 4 8 4 4 _ rfl rfl (by decide) ?_
  refine cutK 8 12 8 4 _ rfl rfl (by decide) ?_
  refine cutK 12 16 12 4 _ rfl rfl (by decide) ?_
  refine cutK 16 24 16 8 _ rfl rfl (by decide) ?_
  refine cutK 24 28 24 4 _ rfl rfl (by decide) ?_
  refine cutK 28 32 28 4 _ rfl rfl (by decide) ?_
  refine pSlStr_to (lo := 34) (hi := t.length) (.inl rfl) (.inr ⟨rfl, rfl⟩) (by omega) (by omega) ?_
  rw [show (t.drop 34).take (t.length - 34) = t.drop 34 from List.take_of_length_le (by rw [List.length_drop]; omega)]
  have l1 : ((t.drop 4).take 4).length ≤ 4 := take4 t 4
  have l2 : ((t.drop 8).take 4).length ≤ 4 := take4 t 8
  have l3 : ((t.drop 12).take 4).length ≤ 4 := take4 t 12
  have l4 : ((t.drop 16).take 8).length ≤ 8 := take8 t 16
  have l5 : ((t.drop 24).take 4).length ≤ 4 := take4 t 24
  have l6 : ((t.drop 28).take 4).length ≤ 4 := take4 t 28
  have fin : ∀ (H' : Heap) (cs : List Value), cs = (Dg.parse t).cells → ∀ (b : Nat) (J : Value → Heap → Prop), H'[b]? = some (.cells Dg.zero.cells.toArray 32 (0, 0)) → Ext H2 H' → H2.size ≤ b →
      (∀ v H', (∃ b : Nat, v = .pointer (some ⟨b, 0, none⟩) ∧ Ext H2 H' ∧ H'[b]? = some (.cells (Dg.parse t).cells.toArray 32 (0, 0)) ∧ H2.size ≤ b) → J v H') →
      pStoreN H' 9 (.pointer (some ⟨b, 0, none⟩)) (.agg cs.toArray) fun _ H_26 => J (.pointer (some ⟨b, 0, none⟩)) H_26 := by
    intro H' cs hcs b J hb hx hbb hJ
    subst hcs
    refine pStoreN_upd hb rfl rfl rfl fun H3 s3 u3 => ?_
    exact hJ _ _ ⟨b, rfl, u3.ext hx hbb, u3.at_, hbb⟩
  repeat' (first
    | with_reducible refine get_small (by omega) ?_
    | with_reducible refine conv32_to (by omega) ?_
    | with_reducible refine pBox_ext fun H3 s3 e3 b3 => ?_
    | with_reducible refine And.intro ?_ ?_)
  all_goals
    with_reducible refine parse_build ?_
    try with_reducible refine pBox_ext fun H3 s3 e3 b3 => ?_
    exact fin _ _ rfl _ _ (by assumption) (by assumption) (Nat.le_refl _) (fun v H' hv => hv)
end Go.Proofs.Ytacfmbookcgjoaa
