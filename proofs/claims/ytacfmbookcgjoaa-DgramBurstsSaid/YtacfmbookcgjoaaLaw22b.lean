/- The laws DgramAny, DgramBursts over heaps. -/
import Derived.Test.YtacfmbookcgjoaaLaw22
import Derived.Test.YtacfmbookcgjoaaPick
namespace Go.Proofs.Ytacfmbookcgjoaa
open Go Go.Vc Go.Proofs
set_option linter.unusedVariables false
set_option linter.unusedSimpArgs false
variable {H : Heap} {R : Value → Heap → Prop}
theorem cut_len {d : Dg} {n : Nat} : (d.cut n).text.length ≤ n := by show (d.text.take n).length ≤ n; rw [List.length_take]; omega
theorem DgramAny_law (l0 l1 : List Value) (sum : Bool) (n0 : l0.length = ([.int .i64, .int .u32, .int .u32, .int .u32, .int .u64, .int .u32, .int .u32, .bool, .string] : List TypeDesc).length) (w0 : FitAll [.int .i64, .int .u32, .int .u32, .int .u32, .int .u64, .int .u32, .int .u32, .bool, .string] fun j => l0[j]?)
    (n1 : l1.length = 2) (w1 : FitAll (List.replicate 2 (.int .i64)) fun j => l1[j]?) :
    CallsH Try.prog 4 #[.agg l0.toArray, .agg l1.toArray, .bool sum] H (LawOk H) := by
  obtain ⟨d, rfl, hf⟩ := dg_of n0 w0
  obtain ⟨p, q, rfl⟩ := fit2 n1 w1
  refine lighterlaw22_DgramAny.vc _ _ _ _ _ ?_
  unfold lighterlaw22_DgramAny.res
  refine pBox_ext fun H1 s1 e1 b1 => ?_
  refine pBox_ext fun H2 s2 e2 b2 => ?_
  refine speaks22_spec fun H3 e3 => ?_
  rw [pNot_v]
  simp only [Bool.not_true, pCond_false]
  have b13 : H3[H.size]? = some (.cells d.cells.toArray 25 (0, 0)) := (e2.trans e3).blk b1
  have b23 : H3[H1.size]? = some (.cells [.int .i64 p, .int .i64 q].toArray 37 (0, 0)) := e3.blk b2
  refine cut_in (n := 256) b13 hf fun H4 b4 u4 s4 => ?_
  have x4 : Ext H H4 := u4.ext ((e1.trans e2).trans e3) (Nat.le_refl _)
  have b24 : H4[H1.size]? = some (.cells [.int .i64 p, .int .i64 q].toArray 37 (0, 0)) := u4.keep b23 (by omega)
  have hf4 := Dg.cut_fits hf 256
  have htl : (d.cut 256).text.length ≤ 256 := cut_len
  generalize d.cut 256 = c at *
  refine pLoadN_to b4 rfl ?_
  refine refEncode_spec hf4 fun H5 e5 => ?_
  have x5 := x4.trans e5
  have b25 := e5.blk b24
  refine ⟨fun v H' => ∃ s : List UInt8, v = str s ∧ H5 = H' ∧ 6 ≤ s.length ∧ s.length ≤ 1000, ?_, ?_⟩
  rotate_left
  · refine pEq1_to ?_
    refine pCond_if (fun hc => ?_) (fun hc => ?_)
    · refine pFieldAddr_to ?_
      refine pLoad_l (e5.blk b4) (v := str c.text) rfl ?_
      refine pAdd_str (by simp; omega) ?_
      refine pAdd_str (by simp; omega) ?_
      exact ⟨_, rfl, rfl, by simp, by simp; omega⟩
    · unfold Dg.enc at hc ⊢
      by_cases hg : c.Good
      · rw [if_pos hg]
        refine ⟨_, rfl, rfl, ?_, ?_⟩ <;> (unfold Dg.code; rw [List.length_append, sumL_len, Dg.bytes_len]; omega)
      · rw [if_neg hg] at hc; exact absurd rfl hc
  rintro _ _ _ ⟨s, rfl, rfl, hs0, hs1⟩
  refine own_bytes fun v H6 o6 e6 k6 => ?_
  have b26 := e6.blk b25
  rw [pIdxArr_v]
  refine ⟨by decide, by decide, ?_⟩
  rw [add_mk]
  refine pLoad_l b26 (v := .int .i64 p) rfl ?_
  have hlenK : ∀ K : Value → Prop, K (.int .i64 (s.length : Int)) → pLen v K := fun K hK => (o6.sl (by decide)).len (n := s.length) (by simp) (by decide) hK
  refine hlenK _ ?_
  have hn0 : (0 : Int) < s.length := by omega
  have ht := tmod_range (z := p) hn0
  have hmp := mod_pick (z := p) hn0
  rw [pRem_v]
  refine ⟨by omega, ?_⟩
  refine hlenK _ ?_
  rw [pAdd_v, w64 (by omega) (by omega)]
  refine hlenK _ ?_
  rw [pRem_v]
  refine ⟨by omega, ?_⟩
  rw [pIdxArr_v]
  refine ⟨by decide, by decide, ?_⟩
  rw [add_mk]
  refine pLoad_l b26 (v := .int .i64 q) rfl ?_
  rw [pConv_v]
  have hqb : Value.int .u8 (IntKind.u8.wrap q) = byteV (UInt8.ofNat (q % 256).toNat) := by
    unfold byteV
    rw [wu8_mod, UInt8.toNat_ofNat']
    congr 1
    omega
  rw [hqb]
  refine o6.store (l := s.map byteV) rfl hmp.1 (by rw [List.length_map]; exact hmp.2) fun H7 o7 i7 s7 => ?_
  rw [← List.map_set] at o7
  have x7 : Ext H H7 := ext_of_own (x5.trans e6) (fun k hk => by rw [k6, Option.some.injEq] at hk; have := x5.size; omega) i7 (by omega)
  have hbl : (s.set ((p.tmod s.length + s.length).tmod s.length).toNat (UInt8.ofNat (q % 256).toNat)).length = s.length := List.length_set
  generalize s.set ((p.tmod s.length + s.length).tmod s.length).toNat (UInt8.ofNat (q % 256).toNat) = b at *
  refine Sl.str (o7.sl (by decide)) ?_
  refine ⟨fun v H' => ∃ t : List UInt8, v = str t ∧ Ext H H' ∧ 6 ≤ t.length ∧ t.length ≤ 1000, ?_, ?_⟩
  rotate_left
  · refine pCond_b (fun hsum => ?_) (fun hsum => ⟨b, rfl, x7, by omega, by omega⟩)
    refine pLenS_to ?_
    rw [pSub_v, w64 (by omega) (by omega), show (b.length : Int) - 4 = ((b.length - 4 : Nat) : Int) by omega]
    refine pSlStr_to (lo := 0) (hi := b.length - 4) (.inr ⟨rfl, rfl⟩) (.inl rfl) (by omega) (by omega) ?_
    generalize hU : (b.drop 0).take (b.length - 4 - 0) = U
    have hUl : U.length = b.length - 4 := by rw [← hU, List.length_take, List.length_drop]; omega
    refine refMore_spec (s := 0) (by decide) (by omega) ?_
    have hm := more32_lt 0 U
    rw [pConv_v, wu64 (by omega) (by omega)]
    refine refPut_at (kn := 4) (by omega) (by omega) (by decide) fun H8 e8 => ?_
    refine pAdd_str (by rw [putN_len]; omega) ?_
    exact ⟨_, rfl, x7.trans e8, by rw [List.length_append, putN_len]; omega, by rw [List.length_append, putN_len]; omega⟩
  rintro _ _ H8 ⟨t, rfl, x8, ht0, ht1⟩
  refine decode_spec (by omega) fun H9 e9 => ?_
  refine pExtract_to rfl ?_
  refine pExtract_to rfl ?_
  refine pBox_ext fun H10 s10 e10 b10 => ?_
  refine pStoreN_upd b10 rfl rfl rfl fun H11 s11 u11 => ?_
  have b11 : H11[H9.size]? = some (.cells (decodeF t).1.cells.toArray 32 (0, 0)) := u11.at_
  have x11 : Ext H H11 := u11.ext ((x8.trans e9).trans e10) (by have := x8.size; have := e9.size; omega)
  refine pLenS_to ?_
  rw [pSub_v, w64 (by omega) (by omega), show (t.length : Int) - 4 = ((t.length - 4 : Nat) : Int) by omega]
  refine pSlStr_to (lo := 0) (hi := t.length - 4) (.inr ⟨rfl, rfl⟩) (.inl rfl) (by omega) (by omega) ?_
  rw [List.drop_zero, Nat.sub_zero]
  refine pSlStr_to (lo := t.length - 4) (hi := t.length) (.inl rfl) (.inr ⟨rfl, rfl⟩) (by omega) (by omega) ?_
  rw [show (t.drop (t.length - 4)).take (t.length - (t.length - 4)) = t.drop (t.length - 4) from List.take_of_length_le (by rw [List.length_drop]; omega)]
  refine refMore_spec (s := 0) (by decide) (by rw [List.length_take]; omega) ?_
  have hm := more32_lt 0 (t.take (t.length - 4))
  rw [pConv_v, wu64 (by omega) (by omega)]
  refine refPut_at (kn := 4) (by omega) (by omega) (by decide) fun H12 e12 => ?_
  have b12 := e12.blk b11
  refine pNe1_to ?_
  have hsame : putN (more32 0 (t.take (t.length - 4))) 4 = sumL (t.take (t.length - 4)) := rfl
  rw [hsame]
  have he := decode_err (t := t)
  have hfit := decode_fits (t := t) (d := (decodeF t).1) (e := (decodeF t).2) (by omega) rfl
  refine pCond_if (fun hc => ?_) (fun hc => ?_)
  · have hd : decodeF t = (Dg.zero, 7) := by
      unfold decodeF; rw [if_pos (.inr hc)]
    rw [hd] at b12 ⊢
    rw [pEq_0, decide_eq_true rfl]
    refine pAnd_true ?_
    refine pLoadN_to b12 rfl ?_
    refine zero_build ?_
    refine eqA_self ?_
    exact fun _ => ⟨rfl, x11.trans e12⟩
  · have hc : sumL (t.take (t.length - 4)) = t.drop (t.length - 4) := Classical.not_not.1 hc
    rcases he with he | ⟨he, hh⟩ | ⟨he, hh⟩
    · rw [he, pNe_0, decide_eq_false (by simp), pCond_false]
      refine pLoadN_to b12 rfl ?_
      refine refEncode_spec hfit fun H13 e13 => ?_
      have hok := decode_ok (t := t) (d := (decodeF t).1) (Prod.ext rfl he)
      refine pEq1_to ?_
      unfold Dg.enc
      rw [if_pos hok.1, hok.2, decide_eq_true rfl]
      exact ⟨rfl, (x11.trans e12).trans e13⟩
    · exact absurd hc (hh.elim (fun g => by omega) id)
    · rw [he] at b12 ⊢
      rw [pNe_0, decide_eq_true (by decide), pCond_true, pEq_0, decide_eq_true rfl]
      refine pAnd_true ?_
      refine pLoadN_to b12 rfl ?_
      refine zero_build ?_
      refine eqA_self ?_
      exact fun _ => ⟨rfl, x11.trans e12⟩
theorem and_u32_one' {n : Nat} (h : n < 4294967296) : bitsOf .and .u32 (n : Int) 1 = ((n % 2 : Nat) : Int) := by
  rw [show (1 : Int) = ((1 : Nat) : Int) from rfl, and_u32 h (by decide), and_one]
/-- bits of a text are turned, one by one -/
theorem burst_loop {A H5 : Heap} {v : Value} {L : List UInt8} {e q : Nat} {P : Heap → Prop} (he : e < 4294967296) (hq : q + 32 ≤ 8 * L.length) (hL : L.length ≤ 1000000) (o : Own H5 v 1 (L.map byteV)) (hx : Ext A H5) (hv : ∀ k, blkOf v = some k → A.size ≤ k)
    (hP : ∀ H' M, Own H' v 1 (M.map byteV) → Ext A H' → M.length = L.length → num M = num L ^^^ 2 ^ q * e → P H') :
    ∃ (I_6 : Value → Heap → Prop) (m_7 : Value → Heap → Nat), I_6 (.int .i64 0) H5 ∧
      ∀ _ : Env, ∀ i9 : Value, ∀ H_8 : Heap, I_6 i9 H_8 →
      pLt i9 (.int .i64 32) fun x43 =>
      pCond x43
      (∃ J_9 : Heap → Prop, (∀ _ : Env, ∀ H_10 : Heap, J_9 H_10 →
      pAdd i9 (.int .i64 1) fun x45 =>
      I_6 x45 H_10 ∧ m_7 x45 H_10 < m_7 i9 H_8) ∧
      pShr (.int .u32 (e : Int)) i9 fun x48 =>
      pBits .and x48 (.int .u32 1) fun x49 =>
      pEq 0 x49 (.int .u32 1) fun x50 =>
      pCond x50
      (pAdd (.int .i64 (q : Int)) i9 fun x54 =>
      pQuo x54 (.int .i64 8) fun x55 =>
      pIdxSl 1 v x55 fun x56 =>
      pLoad H_8 x56 fun x57 =>
      pAdd (.int .i64 (q : Int)) i9 fun x60 =>
      pRem x60 (.int .i64 8) fun x61 =>
      pShl (.int .u8 1) x61 fun x62 =>
      pBits .xor x57 x62 fun x63 =>
      pIdxSl 1 v x55 fun x64 =>
      pStore H_8 x64 x63 fun _ H_11 =>
      J_9 H_11)
      (J_9 H_8))
      (P H_8) := by
  refine ⟨fun i H' => ∃ (k : Nat) (M : List UInt8), i = .int .i64 k ∧ k ≤ 32 ∧ Own H' v 1 (M.map byteV) ∧ Ext A H' ∧ M.length = L.length ∧ num M = num L ^^^ 2 ^ q * bsum (fun j => e.testBit j) k,
    fun i _ => match i with | .int _ k => (32 - k).toNat | _ => 0, ⟨0, L, rfl, by omega, o, hx, rfl, by simp [bsum]⟩, ?_⟩
  rintro _ _ H3 ⟨k, M, rfl, hk, o3, e3, hMl, hnum⟩
  simp only [pPick_v, pNil_v, pNil_f, pAdd_v, pSub_v, pMul_v, pAdd_s, pQuo_v, pRem_v, pBits_v, pShl_v, pShr_v, pLt_v, pLe_v, pGt_v, pGe_v, pEq_0, pNe_0, pEq_1, pNe_1, pEq_2, pNe_2, pEq_3n, pNe_3n, pEq_3s, pNe_3s, pEq_3t, pNe_3t, pEq_5n, pNe_5n, pEq_5s, pNe_5s, pEq_5t, pNe_5t, pEq_4n, pNe_4n, pEq_4s, pNe_4s, pNot_v, pNeg_v, pCom_v, pConv_v, pConvS_v, pMin_v, pMax_v, pFieldAddr_v, pField1_v, pFieldN_v, pExtract_v, pIdxArr_v, pIdxSl_v, pIdxStr_v, pBounds_00, pBounds_10, pBounds_01, pBounds_11, pSlStr_v, pSlSl_v, pSlArr_v, pLenS_v, pLen_v, pCap_v, pBuild_n, pBuild_c, cells_int, cells_str, cells_bool, cells_ptr, cells_slice, cells_map, cells_agg, oneCell_int, oneCell_str, oneCell_bool, oneCell_ptr, oneCell_slice, oneCell_map, putL_cons, putL_nil, pAnd_pure, pOr_pure, pAnd_pureE, pOr_pureE, pAnd_false, pOr_true, pCond_true, pCond_false, add_mk, bys_mk, bys_size, cond_true, cond_false, decide_true, decide_false, decide_not', dec_and, dec_or, dec_eqt, Bool.not_true, Bool.not_false, Option.isNone_none, Option.isNone_some, Option.map_some, Option.map_none, List.getElem?_toArray, List.getElem?_cons_zero, List.getElem?_cons_succ, List.size_toArray, List.length_cons, List.length_nil, List.length_replicate, List.set_cons_zero, List.set_cons_succ, Nat.reduceAdd, Nat.reduceMul, Nat.reduceSub, Nat.reduceLeDiff, Nat.zero_add, Nat.add_zero, Nat.zero_le, true_and, and_true, not_false_eq_true, ne_eq, Int.reduceNeg, Int.reduceEq, Int.reduceNe, Int.reduceLT, Int.reduceLE, le_refl', List.setIfInBounds_toArray, Nat.reduceLT, Array.size_setIfInBounds, if_true, if_false, reduceCtorEq, List.toArray_toList', List.drop_succ_cons, List.drop_zero, List.take_succ_cons, List.take_zero, List.nil_append, List.append_nil, List.cons_append, Bool.and_true, Bool.true_and, Bool.or_false, Bool.false_or, Bool.and_false, Bool.or_true, Bool.true_or, Bool.false_and, eq_self]
  refine pCond_if (fun hc2 => ?_) (fun hc2 => ?_)
  · refine ⟨fun H' => ∃ M : List UInt8, Own H' v 1 (M.map byteV) ∧ Ext A H' ∧ M.length = L.length ∧ num M = num L ^^^ 2 ^ q * bsum (fun j => e.testBit j) (k + 1), ?_, ?_⟩
    · rintro _ H4 ⟨M', o4, e4, hM4, hn4⟩
      rw [w64 (by omega) (by omega)]
      exact ⟨⟨k + 1, M', rfl, by omega, o4, e4, hM4, hn4⟩, by show (_ : Int).toNat < (_ : Int).toNat; omega⟩
    · refine ⟨by omega, ?_⟩
      rw [fdiv_nat (n := e) (m := min (Int.toNat (k : Int)) IntKind.u32.bits) (j := k) (show min (Int.toNat (k : Int)) 32 = k by omega)]
      have hdl : e / 2 ^ k ≤ e := Nat.div_le_self _ _
      rw [and_u32_one' (by omega)]
      refine pCond_if (fun hc3 => ?_) (fun hc3 => ?_)
      · have htb : e.testBit k = true := by rw [Nat.testBit_eq_decide_div_mod_eq]; exact decide_eq_true (by omega)
        rw [w64 (n := (q : Int) + (k : Int)) (by omega) (by omega)]
        have hqd : ((q : Int) + (k : Int)).tdiv 8 = (((q + k) / 8 : Nat) : Int) := by rw [Int.tdiv_eq_ediv_of_nonneg (by omega)]; omega
        have hqm : ((q : Int) + (k : Int)).tmod 8 = (((q + k) % 8 : Nat) : Int) := by rw [Int.tmod_eq_emod_of_nonneg (by omega)]; omega
        rw [hqd, hqm, w64 (n := (((q + k) / 8 : Nat) : Int)) (by omega) (by omega)]
        have hil : (q + k) / 8 < M.length := by omega
        refine (o3.sl (by decide)).idx (n := M.length) (by simp) (by decide) (by omega) (by omega) fun ad had => ?_
        refine had.load (v := byteV (M.getD ((q + k) / 8) 0)) ?_ ?_
        · rw [Int.toNat_natCast, Nat.mul_one, List.getElem?_take, if_pos (by decide), List.getElem?_drop, Nat.add_zero, List.getElem?_map, List.getD_eq_getElem?_getD, List.getElem?_eq_getElem hil]; rfl
        refine ⟨by omega, ?_⟩
        have hsh : IntKind.u8.wrap (1 * 2 ^ min (Int.toNat (((q + k) % 8 : Nat) : Int)) IntKind.u8.bits) = ((2 ^ ((q + k) % 8) : Nat) : Int) := by
          rw [show min (Int.toNat (((q + k) % 8 : Nat) : Int)) IntKind.u8.bits = (q + k) % 8 by show min (Int.toNat (((q + k) % 8 : Nat) : Int)) 8 = _; omega]
          have hpw : (2 : Nat) ^ ((q + k) % 8) < 2 ^ 8 := Nat.pow_lt_pow_right (by decide) (by omega)
          rw [show (1 : Int) * 2 ^ ((q + k) % 8) = ((2 ^ ((q + k) % 8) : Nat) : Int) by rw [Int.one_mul, Int.natCast_pow]; rfl]
          generalize (2 : Nat) ^ ((q + k) % 8) = Q at hpw ⊢
          exact wu8 (by omega) (by omega)
        rw [hsh]
        have hpw : (2 : Nat) ^ ((q + k) % 8) < 2 ^ 8 := Nat.pow_lt_pow_right (by decide) (by omega)
        have hxx : (M.getD ((q + k) / 8) 0).toNat < 256 := UInt8.toNat_lt _
        simp only [pPick_v, pNil_v, pNil_f, pAdd_v, pSub_v, pMul_v, pAdd_s, pQuo_v, pRem_v, pBits_v, pShl_v, pShr_v, pLt_v, pLe_v, pGt_v, pGe_v, pEq_0, pNe_0, pEq_1, pNe_1, pEq_2, pNe_2, pEq_3n, pNe_3n, pEq_3s, pNe_3s, pEq_3t, pNe_3t, pEq_5n, pNe_5n, pEq_5s, pNe_5s, pEq_5t, pNe_5t, pEq_4n, pNe_4n, pEq_4s, pNe_4s, pNot_v, pNeg_v, pCom_v, pConv_v, pConvS_v, pMin_v, pMax_v, pFieldAddr_v, pField1_v, pFieldN_v, pExtract_v, pIdxArr_v, pIdxSl_v, pIdxStr_v, pBounds_00, pBounds_10, pBounds_01, pBounds_11, pSlStr_v, pSlSl_v, pSlArr_v, pLenS_v, pLen_v, pCap_v, pBuild_n, pBuild_c, cells_int, cells_str, cells_bool, cells_ptr, cells_slice, cells_map, cells_agg, oneCell_int, oneCell_str, oneCell_bool, oneCell_ptr, oneCell_slice, oneCell_map, putL_cons, putL_nil, pAnd_pure, pOr_pure, pAnd_pureE, pOr_pureE, pAnd_false, pOr_true, pCond_true, pCond_false, add_mk, bys_mk, bys_size, cond_true, cond_false, decide_true, decide_false, decide_not', dec_and, dec_or, dec_eqt, Bool.not_true, Bool.not_false, Option.isNone_none, Option.isNone_some, Option.map_some, Option.map_none, List.getElem?_toArray, List.getElem?_cons_zero, List.getElem?_cons_succ, List.size_toArray, List.length_cons, List.length_nil, List.length_replicate, List.set_cons_zero, List.set_cons_succ, Nat.reduceAdd, Nat.reduceMul, Nat.reduceSub, Nat.reduceLeDiff, Nat.zero_add, Nat.add_zero, Nat.zero_le, true_and, and_true, not_false_eq_true, ne_eq, Int.reduceNeg, Int.reduceEq, Int.reduceNe, Int.reduceLT, Int.reduceLE, le_refl', List.setIfInBounds_toArray, Nat.reduceLT, Array.size_setIfInBounds, if_true, if_false, reduceCtorEq, List.toArray_toList', List.drop_succ_cons, List.drop_zero, List.take_succ_cons, List.take_zero, List.nil_append, List.append_nil, List.cons_append, Bool.and_true, Bool.true_and, Bool.or_false, Bool.false_or, Bool.and_false, Bool.or_true, Bool.true_or, Bool.false_and, eq_self]
        rw [xor_u8 hxx (by omega)]
        have hxl : (M.getD ((q + k) / 8) 0).toNat ^^^ 2 ^ ((q + k) % 8) < 2 ^ 8 := Nat.xor_lt_two_pow (by omega) hpw
        have hbv : Value.int .u8 (((M.getD ((q + k) / 8) 0).toNat ^^^ 2 ^ ((q + k) % 8) : Nat) : Int) = byteV (UInt8.ofNat ((M.getD ((q + k) / 8) 0).toNat ^^^ 2 ^ ((q + k) % 8))) := by
          unfold byteV
          rw [UInt8.toNat_ofNat', Nat.mod_eq_of_lt hxl]
        rw [hbv]
        refine o3.store (l := M.map byteV) rfl (by omega) (by rw [List.length_map]; omega) fun H4 o4 i4 s4 => ?_
        rw [Int.toNat_natCast, ← List.map_set] at o4
        refine ⟨_, o4, ext_of_own e3 hv i4 (by omega), by simpa using hMl, ?_⟩
        rw [num_set M _ _ ((q + k) % 8) hil (by rw [UInt8.toNat_ofNat', Nat.mod_eq_of_lt hxl]), hnum, bsum_xor, htb, cond_true, dbl_xor, ← Nat.pow_add, Nat.xor_assoc]
        congr 3
        omega
      · have htb : e.testBit k = false := by rw [Nat.testBit_eq_decide_div_mod_eq]; exact decide_eq_false (by omega)
        refine ⟨M, o3, e3, hMl, ?_⟩
        rw [hnum, bsum_xor, htb, cond_false, Nat.xor_zero]
  · have hke : k = 32 := by omega
    subst hke
    rw [bsum_self (by omega)] at hnum
    exact hP H3 M o3 e3 hMl hnum
theorem DgramBursts_law (l0 : List Value) (at_ burst : Int) (n0 : l0.length = ([.int .i64, .int .u32, .int .u32, .int .u32, .int .u64, .int .u32, .int .u32, .bool, .string] : List TypeDesc).length) (w0 : FitAll [.int .i64, .int .u32, .int .u32, .int .u32, .int .u64, .int .u32, .int .u32, .bool, .string] fun j => l0[j]?)
    (w1 : (Lit.int .i64 at_).wf = true) (w2 : (Lit.int .u32 burst).wf = true) :
    CallsH Try.prog 5 #[.agg l0.toArray, .int .i64 at_, .int .u32 burst] H (LawOk H) := by
  obtain ⟨d, rfl, hf⟩ := dg_of n0 w0
  have hat := wf64 w1
  have hbu := wfu32 w2
  obtain ⟨e, rfl⟩ : ∃ e : Nat, burst = e := ⟨burst.toNat, by omega⟩
  refine lighterlaw22_DgramBursts.vc _ _ _ _ _ ?_
  unfold lighterlaw22_DgramBursts.res
  refine pBox_ext fun H1 s1 e1 b1 => ?_
  refine speaks22_spec fun H2 e2 => ?_
  rw [pNot_v]
  simp only [Bool.not_true]
  refine pOr_false ?_
  rw [pEq_0]
  refine fun _ => pCond_if (fun hc => ?_) (fun hc => ?_)
  · exact speaks22_spec fun H3 e3 => ⟨rfl, (e1.trans e2).trans e3⟩
  have b2 : H2[H.size]? = some (.cells d.cells.toArray 25 (0, 0)) := e2.blk b1
  refine cut_in (n := 256) b2 hf fun H3 b3 u3 s3 => ?_
  have x3 : Ext H H3 := u3.ext (e1.trans e2) (Nat.le_refl _)
  have hf3 := Dg.cut_fits hf 256
  generalize d.cut 256 = c at *
  refine pLoadN_to b3 rfl ?_
  by_cases hg : c.Good
  rotate_left
  · refine encode_bad hf3 hg fun H4 e4 => ?_
    refine pExtract_to rfl ?_
    refine pExtract_to rfl ?_
    rw [pNe_0, decide_eq_true (by decide), pCond_true]
    exact ⟨rfl, x3.trans e4⟩
  refine encode_good hf3 hg fun H4 e4 => ?_
  refine pExtract_to rfl ?_
  refine pExtract_to rfl ?_
  rw [pNe_0, decide_eq_false (by simp), pCond_false]
  have hcl : c.code.length = c.bytes.length + 4 := by unfold Dg.code; rw [List.length_append, sumL_len]
  have hbl := c.bytes_len
  have htl := hg.2.2.1
  refine own_bytes fun v H5 o5 e5 k5 => ?_
  have hlenK : ∀ K : Value → Prop, K (.int .i64 (c.code.length : Int)) → pLen v K := fun K hK => (o5.sl (by decide)).len (n := c.code.length) (by simp) (by decide) hK
  refine hlenK _ ?_
  simp only [pMul_v, pSub_v]
  rw [w64 (n := 8 * (c.code.length : Int)) (by omega) (by omega), w64 (n := 8 * (c.code.length : Int) - 31) (by omega) (by omega)]
  rw [pRem_v]
  refine ⟨by omega, ?_⟩
  have hm1 := Int.lt_tmod_of_pos at_ (show (0 : Int) < 8 * (c.code.length : Int) - 31 by omega)
  have hm2 := Int.tmod_lt_of_pos at_ (show (0 : Int) < 8 * (c.code.length : Int) - 31 by omega)
  generalize at_.tmod (8 * (c.code.length : Int) - 31) = u at *
  rw [pAdd_v, w64 (by omega) (by omega), pRem_v]
  refine ⟨by omega, ?_⟩
  rw [Int.tmod_eq_emod_of_nonneg (by omega)]
  have hb1 := Int.emod_nonneg (u + (8 * (c.code.length : Int) - 31)) (show 8 * (c.code.length : Int) - 31 ≠ 0 by omega)
  have hb2 := Int.emod_lt_of_pos (u + (8 * (c.code.length : Int) - 31)) (show (0 : Int) < 8 * (c.code.length : Int) - 31 by omega)
  generalize (u + (8 * (c.code.length : Int) - 31)) % (8 * (c.code.length : Int) - 31) = bt at *
  obtain ⟨q, rfl⟩ : ∃ q : Nat, bt = q := ⟨bt.toNat, by omega⟩
  refine burst_loop (A := H) (by omega) (by omega) (by omega) o5 ((x3.trans e4).trans e5) (fun k hk => by rw [k5, Option.some.injEq] at hk; have := (x3.trans e4).size; omega) fun H6 M o6 x6 hMl hnum => ?_
  refine Sl.str (o6.sl (by decide)) ?_
  refine decode_spec (by omega) fun H7 e7 => ?_
  have hne := burst_sum (m := c.bytes) (t := M) hMl hnum (by omega) (by omega) (by omega)
  have hd : decodeF M = (Dg.zero, 7) := by unfold decodeF; rw [if_pos (.inr hne)]
  rw [hd]
  refine pExtract_to rfl ?_
  refine pExtract_to rfl ?_
  refine pBox_ext fun H8 s8 e8 b8 => ?_
  refine pStoreN_upd b8 rfl rfl rfl fun H9 s9 u9 => ?_
  rw [pEq_0, decide_eq_true rfl]
  exact ⟨rfl, u9.ext ((x6.trans e7).trans e8) (by have := x6.size; have := e7.size; omega)⟩
end Go.Proofs.Ytacfmbookcgjoaa
