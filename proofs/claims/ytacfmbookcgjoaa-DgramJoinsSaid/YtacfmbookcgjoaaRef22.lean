/- Contracts of the document's answer for datagrams. -/
import Derived.Test.YtacfmbookcgjoaaDgramD
import Derived.Test.YtacfmbookcgjoaaRef02
import Derived.Test.YtacfmbookcgjoaaRefPut
import Derived.Test.YtacfmbookcgjoaaResLighterref22
namespace Go.Proofs.Ytacfmbookcgjoaa
open Go Go.Vc Go.Proofs
set_option linter.unusedVariables false
set_option linter.unusedSimpArgs false
variable {H : Heap} {R : Value → Heap → Prop}
theorem refGood_spec {d : Dg} (hf : d.Fits) (h : ∀ H', Ext H H' → R (.bool (decide d.Good)) H') : CallsH Try.prog 9 #[.agg d.cells.toArray] H R := by
  refine lighterref22_Good.vc _ _ _ ?_
  unfold lighterref22_Good.res
  refine pBox_ext fun H1 s1 e1 b1 => ?_
  have hb : H1[H.size]? = some (.cells d.cells.toArray 28 (0, 0)) := b1
  have h := h H1 e1
  simp only [pPick_v, pNil_v, pNil_f, pAdd_v, pSub_v, pMul_v, pAdd_s, pQuo_v, pRem_v, pBits_v, pShl_v, pShr_v, pLt_v, pLe_v, pGt_v, pGe_v, pEq_0, pNe_0, pEq_1, pNe_1, pEq_2, pNe_2, pEq_3n, pNe_3n, pEq_3s, pNe_3s, pEq_3t, pNe_3t, pEq_5n, pNe_5n, pEq_5s, pNe_5s, pEq_5t, pNe_5t, pEq_4n, pNe_4n, pEq_4s, pNe_4s, pNot_v, pNeg_v, pCom_v, pConv_v, pConvS_v, pMin_v, pMax_v, pFieldAddr_v, pField1_v, pFieldN_v, pExtract_v, pIdxArr_v, pIdxSl_v, pIdxStr_v, pBounds_00, pBounds_10, pBounds_01, pBounds_11, pSlStr_v, pSlSl_v, pSlArr_v, pLenS_v, pLen_v, pCap_v, pBuild_n, pBuild_c, cells_int, cells_str, cells_bool, cells_ptr, cells_slice, cells_map, cells_agg, oneCell_int, oneCell_str, oneCell_bool, oneCell_ptr, oneCell_slice, oneCell_map, putL_cons, putL_nil, pAnd_pure, pOr_pure, pAnd_pureE, pOr_pureE, pAnd_false, pOr_true, pCond_true, pCond_false, add_mk, bys_mk, bys_size, cond_true, cond_false, decide_true, decide_false, decide_not', dec_and, dec_or, dec_eqt, Bool.not_true, Bool.not_false, Option.isNone_none, Option.isNone_some, Option.map_some, Option.map_none, List.getElem?_toArray, List.getElem?_cons_zero, List.getElem?_cons_succ, List.size_toArray, List.length_cons, List.length_nil, List.length_replicate, List.set_cons_zero, List.set_cons_succ, Nat.reduceAdd, Nat.reduceMul, Nat.reduceSub, Nat.reduceLeDiff, Nat.zero_add, Nat.add_zero, Nat.zero_le, true_and, and_true, not_false_eq_true, ne_eq, Int.reduceNeg, Int.reduceEq, Int.reduceNe, Int.reduceLT, Int.reduceLE, le_refl', List.setIfInBounds_toArray, Nat.reduceLT, Array.size_setIfInBounds, if_true, if_false, reduceCtorEq, List.toArray_toList', List.drop_succ_cons, List.drop_zero, List.take_succ_cons, List.take_zero, List.nil_append, List.append_nil, List.cons_append, Bool.and_true, Bool.true_and, Bool.or_false, Bool.false_or, Bool.and_false, Bool.or_true, Bool.true_or, Bool.false_and, eq_self, pLoad_at hb, Dg.cells]
  intros
  refine pAnd_if (d := decide (d.kind = 3 ∨ d.kind = 2) || !d.last) (fun _ _ _ => ⟨rfl, rfl⟩) ?_
  intros
  refine bool_to (b := decide d.Good) ?_ h
  rw [Bool.eq_iff_iff]
  simp only [Bool.and_eq_true, Bool.or_eq_true, decide_eq_true_eq, Bool.not_eq_true']
  unfold Dg.Good
  constructor
  · rintro ⟨⟨⟨⟨⟨h1, h2⟩, h3⟩, h4⟩, h5⟩, h6⟩
    exact ⟨h1, by omega, by omega, by omega, h5, by rcases h6 with (h | h) | h; exact .inl h; exact .inr (.inl h); exact .inr (.inr h)⟩
  · rintro ⟨h1, h2, h3, h4, h5, h6⟩
    exact ⟨⟨⟨⟨⟨h1, by omega⟩, by omega⟩, by omega⟩, h5⟩, by rcases h6 with h | h | h; exact .inl (.inl h); exact .inl (.inr h); exact .inr h⟩
theorem refPut_at {n kn : Nat} {k : Int} (e : k = kn) (hn : n < 18446744073709551616) (hk : kn ≤ 8) (h : ∀ H', Ext H H' → R (str (putN n kn)) H') : CallsH Try.prog 14 #[.int .u64 n, .int .i64 k] H R := by
  subst e
  refine refPut_spec hn fun H' he => ?_
  rw [if_pos (by omega), Int.toNat_natCast]
  exact h H' he
theorem n4_spec {n : Nat} (hn : n < 4294967296) (h : ∀ H', Ext H H' → R (str (putN n 4)) H') : CallsH Try.prog 20 #[n32 n] H R := by
  refine lighterref22_n4.vc _ _ _ ?_
  unfold lighterref22_n4.res
  rw [pConv_v, wu64 (by omega) (by omega)]
  exact refPut_at (kn := 4) (by omega) (by omega) (by decide) h
def Dg.enc (d : Dg) : List UInt8 := if d.Good then d.code else []
set_option maxHeartbeats 16000000 in
theorem refEncode_spec {d : Dg} (hf : d.Fits) (h : ∀ H', Ext H H' → R (str d.enc) H') : CallsH Try.prog 12 #[.agg d.cells.toArray] H R := by
  obtain ⟨_, _, f1, f2, f3, f4, f5, f6, _⟩ := id hf
  refine lighterref22_Encode.vc _ _ _ ?_
  unfold lighterref22_Encode.res
  refine pBox_ext fun H1 s1 e1 b1 => ?_
  have hb1 : H1[H.size]? = some (.cells d.cells.toArray 28 (0, 0)) := b1
  refine pLoadN_to hb1 rfl ?_
  refine refGood_spec hf fun H2 e2 => ?_
  have hb2 := e2.blk hb1
  by_cases hg : d.Good
  rotate_left
  · rw [decide_eq_false hg, pNot_v]
    simp only [Bool.not_false, pCond_true]
    have := h H2 (e1.trans e2)
    unfold Dg.enc at this
    rw [if_neg hg] at this
    exact this
  have hk := hg.1
  have ht := hg.2.2.1
  rw [decide_eq_true hg, pNot_v]
  simp only [Bool.not_true, pCond_false]
  refine ⟨fun v H' => v = .int .u8 ((d.last.toNat : Nat) : Int) ∧ H2 = H', ?_, ?_⟩
  rotate_left
  · refine pFieldAddr_to ?_
    refine pLoad_l hb2 (v := .bool d.last) rfl ?_
    cases d.last with
    | true => simp only [pCond_true]; exact ⟨rfl, trivial⟩
    | false => simp only [pCond_false]; exact ⟨rfl, trivial⟩
  rintro _ _ _ ⟨rfl, rfl⟩
  obtain ⟨k, hkk⟩ : ∃ k : Nat, d.kind = k := ⟨d.kind.toNat, by omega⟩
  have hl : d.last.toNat ≤ 1 := by cases d.last <;> simp
  refine ⟨fun v H' => v = str d.bytes ∧ Ext H2 H', ?_, ?_⟩
  · rintro _ _ H3 ⟨rfl, e3⟩
    refine refMore_spec (s := 0) (by decide) (by rw [Dg.bytes_len]; omega) ?_
    refine n4_spec (more32_lt _ _) fun H4 e4 => ?_
    refine pAdd_str (by rw [Dg.bytes_len, putN_len]; omega) ?_
    have := h H4 (((e1.trans e2).trans e3).trans e4)
    unfold Dg.enc at this
    rw [if_pos hg] at this
    exact this
  have hb0 : H2[H.size]? = some (.cells [.int .i64 (k : Int), n32 d.session, n32 d.epoch, n32 d.seq, .int .u64 (d.at_ : Int), n32 d.sum, n32 d.map, .bool d.last, str d.text].toArray 28 (0, 0)) := by rw [hb2]; unfold Dg.cells; rw [hkk]
  have wk : IntKind.u8.wrap (k : Int) = (k : Int) := wu8 (by omega) (by omega)
  have wt : IntKind.u64.wrap (d.text.length : Int) = (d.text.length : Int) := wu64 (by omega) (by omega)
  have hv0 : Value.int .u8 (k : Int) = byteV (UInt8.ofNat k) := by
    unfold byteV; rw [UInt8.toNat_ofNat', Nat.mod_eq_of_lt (by omega)]
  have hv1 : Value.int .u8 ((d.last.toNat : Nat) : Int) = byteV (UInt8.ofNat d.last.toNat) := by
    unfold byteV; rw [UInt8.toNat_ofNat', Nat.mod_eq_of_lt (by omega)]
  have hfin : ∀ H', Ext H2 H' → (str ([76, 71] ++ [UInt8.ofNat k, UInt8.ofNat d.last.toNat] ++ putN d.session 4 ++ putN d.epoch 4 ++ putN d.seq 4 ++ putN d.at_ 8 ++ putN d.sum 4 ++ putN d.map 4 ++ putN d.text.length 2 ++ d.text)) = str d.bytes ∧ Ext H2 H' := by
    intro H' hx
    refine ⟨congrArg (fun l => str l) ?_, hx⟩
    unfold Dg.bytes foursL
    rw [hkk, Int.toNat_natCast]
    have p1 : ∀ n, n < 256 → putN n 1 = [UInt8.ofNat n] := by
      intro n hn
      show [UInt8.ofNat (n / 256 ^ 0 % 256)] = _
      rw [Nat.pow_zero, Nat.div_one, Nat.mod_eq_of_lt hn]
    rw [p1 k (by omega), p1 d.last.toNat (by omega)]
    simp [List.append_assoc]
  clear h
  rw [hv1]
  repeat (first | with_reducible refine pFieldAddr_to ?_ | ((with_reducible apply pLoad_l hb0); exact rfl) | ((with_reducible refine pConv_to ?_); first | rw [wk, hv0] | rw [wt]) | with_reducible refine pLenS_to ?_)
  have hx : Ext H2 H2 := Ext.refl _
  have l0 : ([76, 71] : List UInt8).length = 2 := rfl
  repeat' (first
    | exact pLoad_l (hx.blk hb0) rfl rfl
    | exact hfin _ hx
    | exact Sl.str (l := [UInt8.ofNat k, UInt8.ofNat d.last.toNat]) hs2 rfl
    | with_reducible refine pAdd_str (by simp only [List.length_append, List.length_cons, List.length_nil, putN_len]; omega) ?_
    | (with_reducible refine n4_spec f1 fun H' he => ?_
       have hx := hx.trans he
       try have hs2 := hs2.ext he)
    | (with_reducible refine n4_spec f2 fun H' he => ?_
       have hx := hx.trans he
       try have hs2 := hs2.ext he)
    | (with_reducible refine n4_spec f3 fun H' he => ?_
       have hx := hx.trans he
       try have hs2 := hs2.ext he)
    | (with_reducible refine n4_spec f5 fun H' he => ?_
       have hx := hx.trans he
       try have hs2 := hs2.ext he)
    | (with_reducible refine n4_spec f6 fun H' he => ?_
       have hx := hx.trans he
       try have hs2 := hs2.ext he)
    | (with_reducible refine refPut_at (kn := 2) (by omega) (by omega) (by decide) fun H' he => ?_
       have hx := hx.trans he
       try have hs2 := hs2.ext he)
    | (with_reducible refine refPut_at (kn := 8) (by omega) (by omega) (by decide) fun H' he => ?_
       have hx := hx.trans he
       try have hs2 := hs2.ext he)
    | (with_reducible refine build_vals (vs := [byteV (UInt8.ofNat k), byteV (UInt8.ofNat d.last.toNat)]) (fun K' hK => by simpa only [pPick_v, pNil_v, pNil_f, pAdd_v, pSub_v, pMul_v, pAdd_s, pQuo_v, pRem_v, pBits_v, pShl_v, pShr_v, pLt_v, pLe_v, pGt_v, pGe_v, pEq_0, pNe_0, pEq_1, pNe_1, pEq_2, pNe_2, pEq_3n, pNe_3n, pEq_3s, pNe_3s, pEq_3t, pNe_3t, pEq_5n, pNe_5n, pEq_5s, pNe_5s, pEq_5t, pNe_5t, pEq_4n, pNe_4n, pEq_4s, pNe_4s, pNot_v, pNeg_v, pCom_v, pConv_v, pConvS_v, pMin_v, pMax_v, pFieldAddr_v, pField1_v, pFieldN_v, pExtract_v, pIdxArr_v, pIdxSl_v, pIdxStr_v, pBounds_00, pBounds_10, pBounds_01, pBounds_11, pSlStr_v, pSlSl_v, pSlArr_v, pLenS_v, pLen_v, pCap_v, pBuild_n, pBuild_c, cells_int, cells_str, cells_bool, cells_ptr, cells_slice, cells_map, cells_agg, oneCell_int, oneCell_str, oneCell_bool, oneCell_ptr, oneCell_slice, oneCell_map, putL_cons, putL_nil, pAnd_pure, pOr_pure, pAnd_pureE, pOr_pureE, pAnd_false, pOr_true, pCond_true, pCond_false, add_mk, bys_mk, bys_size, cond_true, cond_false, decide_true, decide_false, decide_not', dec_and, dec_or, dec_eqt, Bool.not_true, Bool.not_false, Option.isNone_none, Option.isNone_some, Option.map_some, Option.map_none, List.getElem?_toArray, List.getElem?_cons_zero, List.getElem?_cons_succ, List.size_toArray, List.length_cons, List.length_nil, List.length_replicate, List.set_cons_zero, List.set_cons_succ, Nat.reduceAdd, Nat.reduceMul, Nat.reduceSub, Nat.reduceLeDiff, Nat.zero_add, Nat.add_zero, Nat.zero_le, true_and, and_true, not_false_eq_true, ne_eq, Int.reduceNeg, Int.reduceEq, Int.reduceNe, Int.reduceLT, Int.reduceLE, le_refl', List.setIfInBounds_toArray, Nat.reduceLT, Array.size_setIfInBounds, if_true, if_false, reduceCtorEq, List.toArray_toList', List.drop_succ_cons, List.drop_zero, List.take_succ_cons, List.take_zero, List.nil_append, List.append_nil, List.cons_append, Bool.and_true, Bool.true_and, Bool.or_false, Bool.false_or, Bool.and_false, Bool.or_true, Bool.true_or, Bool.false_and, eq_self] using hK) rfl fun y H' he hs2 _ => ?_
       have hx := hx.trans he)
    | ((with_reducible refine Sl.str (l := [UInt8.ofNat k, UInt8.ofNat d.last.toNat]) ?_ ?_); exact hs2)
    | with_reducible refine And.intro ?_ ?_)
end Go.Proofs.Ytacfmbookcgjoaa
