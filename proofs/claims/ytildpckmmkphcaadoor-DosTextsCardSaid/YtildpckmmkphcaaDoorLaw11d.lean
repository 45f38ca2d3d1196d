/- The law DosTexts over heaps. -/
import Derived.Test.YtildpckmmkphcaaDoorDosT
import Derived.Test.YtildpckmmkphcaaDoorLaw11b
namespace Go.Proofs.YtildpckmmkphcaaDoor
open Go Go.Vc Go.Proofs
set_option linter.unusedVariables false
set_option linter.unusedSimpArgs false
variable {H : Heap} {R : Value → Heap → Prop}
theorem dg_nat (v m : Nat) : (dg v m).toNat = 48 + v / 10 ^ m % 10 := by
  unfold dg
  rw [UInt8.toNat_ofNat_of_lt' (by show _ < 256; omega)]
theorem valN_two {v : Nat} (h : v < 100) : valN (digN v 2) = v := by
  have h1 := dg_nat v 1
  have h0 := dg_nat v 0
  show 10 * (10 * 0 + ((dg v 1).toNat : Int) - 48) + ((dg v 0).toNat : Int) - 48 = v
  simp only [Nat.reducePow] at h1 h0
  omega
theorem valN_four {v : Nat} (h : v < 10000) : valN (digN v 4) = v := by
  have h3 := dg_nat v 3
  have h2 := dg_nat v 2
  have h1 := dg_nat v 1
  have h0 := dg_nat v 0
  show 10 * (10 * (10 * (10 * 0 + ((dg v 3).toNat : Int) - 48) + ((dg v 2).toNat : Int) - 48) + ((dg v 1).toNat : Int) - 48) + ((dg v 0).toNat : Int) - 48 = v
  simp only [Nat.reducePow] at h3 h2 h1 h0
  omega
theorem buf_form (t : T6) : bufN t 6 = [dg t.y.toNat 3, dg t.y.toNat 2, dg t.y.toNat 1, dg t.y.toNat 0, 45, dg t.m.toNat 1, dg t.m.toNat 0, 45, dg t.d.toNat 1, dg t.d.toNat 0, 32, dg t.h.toNat 1, dg t.h.toNat 0, 58, dg t.n.toNat 1, dg t.n.toNat 0, 58, dg t.s.toNat 1, dg t.s.toNat 0] := by
  simp [bufN, putB, digN, signsL, fAt, fLen, formF, formN, fieldN]
theorem pEq1_to7 {l m : List UInt8} {K : Value → Prop} (h : K (.bool (decide (l = m)))) : pEq 1 (str l) (str m) K := by rw [pEq_1, bys_mk, bys_mk]; exact h
theorem parse_back {t : T6} (h : goodB t = true) : parseT (textL t) = some t := by
  have hf := good_facts h
  have hd := days_bounds t.y t.m
  have ht : textL t = bufN t 6 := by unfold textL; rw [if_pos h]
  have e0 : fldB (bufN t 6) 0 = digN t.y.toNat 4 := by rw [buf_form]; simp [fldB, fAt, fLen, formF, formN, digN]
  have e1 : fldB (bufN t 6) 1 = digN t.m.toNat 2 := by rw [buf_form]; simp [fldB, fAt, fLen, formF, formN, digN]
  have e2 : fldB (bufN t 6) 2 = digN t.d.toNat 2 := by rw [buf_form]; simp [fldB, fAt, fLen, formF, formN, digN]
  have e3 : fldB (bufN t 6) 3 = digN t.h.toNat 2 := by rw [buf_form]; simp [fldB, fAt, fLen, formF, formN, digN]
  have e4 : fldB (bufN t 6) 4 = digN t.n.toNat 2 := by rw [buf_form]; simp [fldB, fAt, fLen, formF, formN, digN]
  have e5 : fldB (bufN t 6) 5 = digN t.s.toNat 2 := by rw [buf_form]; simp [fldB, fAt, fLen, formF, formN, digN]
  have hft : fieldsT (bufN t 6) = t := by
    unfold fieldsT
    rw [e0, e1, e2, e3, e4, e5, valN_four (by omega), valN_two (by omega), valN_two (by omega), valN_two (by omega), valN_two (by omega), valN_two (by omega)]
    rw [Int.toNat_of_nonneg (by omega), Int.toNat_of_nonneg (by omega), Int.toNat_of_nonneg (by omega), Int.toNat_of_nonneg (by omega), Int.toNat_of_nonneg (by omega), Int.toNat_of_nonneg (by omega)]
  unfold parseT
  rw [ht, hft, if_pos ⟨bufN_len t 6 (by decide), ht⟩]
def weekI (t : T6) : Int := if goodB t then (numI t / 43200 + 2) % 7 else -1
theorem week_spec {t : T6} (h : ∀ H', Ext H H' → R (.int .i64 (weekI t)) H') : CallsH Tryd.prog 7 #[t.v] H R := by
  refine dos_Time_Weekday.vc _ _ _ ?_
  unfold dos_Time_Weekday.res
  refine pBox_ext fun H1 s1 e1 b1 => ?_
  have b1 : H1[H.size]? = some t.obj := b1
  rw [pLoadN_blk b1 (by rfl)]
  refine number_spec fun H2 e2 => ?_
  have h := h H2 (e1.trans e2)
  unfold weekI at h
  rw [pLt_v]
  cases hg : goodB t with
  | false =>
    rw [hg] at h
    rw [if_neg (by simp)] at h ⊢
    rw [decide_eq_true (by decide), pCond_true]
    exact h
  | true =>
    rw [hg] at h
    have hn := of_num hg
    rw [if_pos rfl] at h ⊢
    rw [decide_eq_false (by omega), pCond_false, pQuo_v]
    refine ⟨by decide, ?_⟩
    rw [Int.tdiv_eq_ediv_of_nonneg (by omega), w64 (by omega) (by omega), pAdd_v, w64 (by omega) (by omega), pRem_v]
    refine ⟨by decide, ?_⟩
    rw [Int.tmod_eq_emod_of_nonneg (by omega)]
    exact h
def aheadB (t u : T6) : Bool := goodB t && goodB u && decide (numI t < numI u)
theorem ahead_spec {t u : T6} (h : ∀ H', Ext H H' → R (.bool (aheadB t u)) H') : CallsH Tryd.prog 11 #[t.v, u.v] H R := by
  refine dos_Time_Ahead.vc _ _ _ _ ?_
  unfold dos_Time_Ahead.res
  refine pBox_ext fun H1 s1 e1 b1 => ?_
  have b1 : H1[H.size]? = some t.obj := b1
  refine pBox_ext fun H2 s2 e2 b2 => ?_
  have b2 : H2[H1.size]? = some u.obj := b2
  have a2 := e2.blk b1
  rw [pLoadN_blk a2 (by rfl)]
  refine good_spec fun H3 e3 => ?_
  have a3 := e3.blk a2
  have b3 := e3.blk b2
  have e03 := (e1.trans e2).trans e3
  unfold aheadB at h
  cases hg : goodB t with
  | false =>
    rw [pAnd_false]
    intro _
    rw [pAnd_false]
    intro _
    have := h H3 e03
    rw [hg] at this
    exact this
  | true =>
    refine pAnd_true ?_
    rw [pLoadN_blk b3 (by rfl)]
    refine good_spec fun H4 e4 => ?_
    have a4 := e4.blk a3
    have b4 := e4.blk b3
    intro _
    cases hg2 : goodB u with
    | false =>
      rw [pAnd_false]
      intro _
      have := h H4 (e03.trans e4)
      rw [hg, hg2] at this
      exact this
    | true =>
      refine pAnd_true ?_
      rw [pLoadN_blk a4 (by rfl), pLoadN_blk b4 (by rfl)]
      refine number_spec fun H5 e5 => ?_
      rw [pLoadN_blk (e5.blk b4) (by rfl)]
      refine ⟨rfl, ?_⟩
      refine number_spec fun H6 e6 => ?_
      rw [pLt_v]
      intro _
      have := h H6 (((e03.trans e4).trans e5).trans e6)
      rw [hg, hg2] at this
      rw [hg, hg2]
      exact this
theorem textL_zero : textL T6.zero = [] := by decide
theorem textL_first : textL ⟨1980, 1, 1, 0, 0, 0⟩ = [49, 57, 56, 48, 45, 48, 49, 45, 48, 49, 32, 48, 48, 58, 48, 48, 58, 48, 48] := by decide +kernel
theorem weekI_first : weekI ⟨1980, 1, 1, 0, 0, 0⟩ = 2 := by decide +kernel
theorem DosTexts_t (t : T6) (s : List UInt8) (hG : Reads H ⟨0, 0, none⟩ formV) (w1 : (ByteArray.mk s.toArray).size ≤ maxLen) : CallsH Tryd.prog 3 #[t.v, str s] H (LawOk H) := by
  have hsl : s.length ≤ 9223372036854775807 := w1
  refine lighterlaw11_DosTexts.vc _ _ _ _ ?_
  unfold lighterlaw11_DosTexts.res
  refine pBox_ext fun H1 s1 e1 b1 => ?_
  have b1 : H1[H.size]? = some (.cells t.cells 23 (0, 0)) := b1
  refine speaks11_spec fun H2 e2 => ?_
  rw [pNot_v, Bool.not_true, pCond_false]
  have b2 := e2.blk b1
  rw [pLoadN_blk b2 (by rfl)]
  refine pBox_ext fun H3 s3 e3 c3 => ?_
  refine pStoreN_upd c3 (by rfl) (by rfl) (by rfl) fun H4 _ u4 => ?_
  have c4 : H4[H2.size]? = some t.obj := u4.at_
  have hlt := lt_of_blk b2
  have b4 := u4.keep (e3.blk b2) (by omega)
  have e4 : Ext H H4 := u4.ext ((e1.trans e2).trans e3) (by have := (e1.trans e2).size; omega)
  rw [pLoadN_blk c4 (by rfl)]
  generalize H2.size = c at *
  refine text_spec11 (t := t) (hG.ext e4) fun H5 e5 => ?_
  have c5 := e5.blk c4
  have b5 := e5.blk b4
  have e05 := e4.trans e5
  refine ⟨fun H' => Ext H H' ∧ H'[c]? = some t.obj, ?_, ?_⟩
  · rintro _ H7 ⟨e7, c7⟩
    refine pLenS_to7 ?_
    rw [pMin_v, pSlStr_v, pBounds_01, bys_mk]
    refine ⟨by omega, by omega, ?_⟩
    rw [List.drop_zero, Nat.sub_zero]
    have hl30 : (s.take (min (s.length : Int) 30).toNat).length ≤ 30 := by rw [List.length_take]; omega
    generalize s.take (min (s.length : Int) 30).toNat = x at *
    refine parse_spec11 (hG.ext e7) (by omega) fun H8 e8 => ?_
    refine pExtract_to7 rfl ?_
    refine pExtract_to7 rfl ?_
    have hcase : ∃ u ok, (parseT x).getD T6.zero = u ∧ (parseT x).isSome = ok ∧ (decide (textL u = x) && decide (x ≠ [])) = ok ∧ (ok || decide (u = T6.zero)) = true := by
      cases hp : parseT x with
      | none =>
        refine ⟨T6.zero, false, rfl, rfl, ?_, by simp⟩
        rw [textL_zero]
        cases x <;> simp
      | some u =>
        unfold parseT at hp
        split at hp
        · rename_i hh
          cases hp
          refine ⟨_, true, rfl, rfl, ?_, rfl⟩
          rw [Option.getD_some, decide_eq_true hh.2, decide_eq_true (by intro e; rw [e] at hh; simp at hh)]
          rfl
        · cases hp
    obtain ⟨u, ok, hu, hok, hok1, hok2⟩ := hcase
    rw [hu, hok]
    have c8 := e8.blk c7
    refine pBox_ext fun H9 s9 e9 d9 => ?_
    refine pStoreN_upd d9 (by rfl) (by rfl) (by rfl) fun H10 _ u10 => ?_
    have d10 : H10[H8.size]? = some u.obj := u10.at_
    have hc8 := lt_of_blk c8
    have c10 := u10.keep (e9.blk c8) (by omega)
    have e10 : Ext H H10 := u10.ext ((e7.trans e8).trans e9) (by have := (e7.trans e8).size; omega)
    have hd10 := lt_of_blk d10
    generalize H8.size = d at *
    have hbl : ∀ K : Value → Prop, K (T6.v ⟨1980, 1, 1, 0, 0, 0⟩) → pBuild [(.int .i64 0), (.int .i64 0), (.int .i64 0), (.int .i64 0), (.int .i64 0), (.int .i64 0)] [(0, 1, (.int .i64 1980)), (1, 1, (.int .i64 1)), (2, 1, (.int .i64 1))] K := by
      intro K hK
      simp only [pPick_v, pNil_v, pNil_f, pAdd_v, pSub_v, pMul_v, pAdd_s, pQuo_v, pRem_v, pBits_v, pShl_v, pShr_v, pLt_v, pLe_v, pGt_v, pGe_v, pEq_0, pNe_0, pEq_1, pNe_1, pEq_2, pNe_2, pEq_3n, pNe_3n, pEq_3s, pNe_3s, pEq_3t, pNe_3t, pEq_5n, pNe_5n, pEq_5s, pNe_5s, pEq_5t, pNe_5t, pEq_4n, pNe_4n, pEq_4s, pNe_4s, pNot_v, pNeg_v, pCom_v, pConv_v, pConvS_v, pMin_v, pMax_v, pFieldAddr_v, pField1_v, pFieldN_v, pExtract_v, pIdxArr_v, pIdxSl_v, pIdxStr_v, pBounds_00, pBounds_10, pBounds_01, pBounds_11, pSlStr_v, pSlSl_v, pSlArr_v, pLenS_v, pLen_v, pCap_v, pBuild_n, pBuild_c, cells_int, cells_str, cells_bool, cells_ptr, cells_slice, cells_map, cells_agg, oneCell_int, oneCell_str, oneCell_bool, oneCell_ptr, oneCell_slice, oneCell_map, putL_cons, putL_nil, pAnd_pure, pOr_pure, pAnd_pureE, pOr_pureE, pAnd_false, pOr_true, pCond_true, pCond_false, add_mk, bys_mk, bys_size, cond_true, cond_false, decide_true, decide_false, decide_not', dec_and, dec_or, dec_eqt, Bool.not_true, Bool.not_false, Option.isNone_none, Option.isNone_some, Option.map_some, Option.map_none, List.getElem?_toArray, List.getElem?_cons_zero, List.getElem?_cons_succ, List.size_toArray, List.length_cons, List.length_nil, List.length_replicate, List.set_cons_zero, List.set_cons_succ, Nat.reduceAdd, Nat.reduceMul, Nat.reduceSub, Nat.reduceLeDiff, Nat.zero_add, Nat.add_zero, Nat.zero_le, true_and, and_true, not_false_eq_true, ne_eq, Int.reduceNeg, Int.reduceEq, Int.reduceNe, Int.reduceLT, Int.reduceLE, le_refl', List.setIfInBounds_toArray, Nat.reduceLT, Array.size_setIfInBounds, if_true, if_false, reduceCtorEq, List.toArray_toList', List.drop_succ_cons, List.drop_zero, List.take_succ_cons, List.take_zero, List.nil_append, List.append_nil, List.cons_append, Bool.and_true, Bool.true_and, Bool.or_false, Bool.false_or, Bool.and_false, Bool.or_true, Bool.true_or, Bool.false_and, eq_self]
      exact hK
    refine hbl _ ?_
    refine pBox_ext fun H11 s11 e11 f11 => ?_
    refine pStoreN_upd f11 (by rfl) (by rfl) (by rfl) fun H12 _ u12 => ?_
    have f12 : H12[H10.size]? = some (T6.obj ⟨1980, 1, 1, 0, 0, 0⟩) := u12.at_
    have d12 := u12.keep (e11.blk d10) (by omega)
    have hc10 := lt_of_blk c10
    have c12 := u12.keep (e11.blk c10) (by omega)
    have e12 : Ext H H12 := u12.ext (e10.trans e11) e10.size
    generalize H10.size = f at *
    rw [pLoadN_blk d12 (by rfl)]
    refine text_spec11 (t := u) (hG.ext e12) fun H13 e13 => ?_
    have c13 := e13.blk c12
    have d13 := e13.blk d12
    have f13 := e13.blk f12
    have e013 := e12.trans e13
    rw [pEq_1, bys_mk, bys_mk]
    refine pAnd_if (d := decide (x ≠ [])) (fun _ => ?_) ?_
    · rw [pNe_1, bys_mk, show bys (ByteArray.mk #[]) = [] from rfl]; exact ⟨rfl, rfl⟩
    rw [hok1]
    intro _
    rw [pEq_2, decide_eq_true rfl]
    refine pAnd_true ?_
    refine pOr_if (d := decide (u = T6.zero)) (fun _ => ?_) ?_
    · rw [pLoadN_blk d13 (by rfl), pBuild_n]
      refine (pEqA_T6 (t := u) (u := T6.zero)).mpr ?_
      exact ⟨rfl, rfl⟩
    rw [hok2]
    intro _ _
    refine pAnd_true ?_
    rw [pLoadN_blk f13 (by rfl)]
    refine week_spec fun H14 e14 => ?_
    rw [weekI_first, pEq_0, decide_eq_true rfl]
    intro _
    refine pAnd_true ?_
    have f14 := e14.blk f13
    rw [pLoadN_blk f14 (by rfl)]
    refine text_spec11 (hG.ext (e013.trans e14)) fun H15 e15 => ?_
    rw [textL_first]
    refine pEq1_to7 ?_
    rw [decide_eq_true rfl]
    intro _
    refine pAnd_true ?_
    have c15 := e15.blk (e14.blk c13)
    rw [pLoadN_blk c15 (by rfl), pLoadN_blk c15 (by rfl)]
    refine ahead_spec (t := t) (u := t) fun H16 e16 => ?_
    have hna : aheadB t t = false := by unfold aheadB; simp
    rw [hna, pNot_v, Bool.not_false]
    intro _
    exact ⟨rfl, ((e013.trans e14).trans e15).trans e16⟩
  · rw [pLoadN_blk b5 (by rfl)]
    refine refGood_spec (t := t) fun H6 e6 => ?_
    have e06 := e05.trans e6
    have b6 := e6.blk b5
    have c6 := e6.blk c5
    cases hg : goodB t with
    | false =>
      have htx : textL t = [] := by unfold textL; rw [hg]; rfl
      rw [pNot_v, Bool.not_false, pCond_true, htx, pNe_1, bys_mk, decide_eq_false (by simp)]
      refine pOr_false ?_
      rw [pLoadN_blk c6 (by rfl)]
      refine week_spec fun H7 e7 => ?_
      have hw : weekI t = -1 := by unfold weekI; rw [hg]; rfl
      rw [hw, pNe_0, decide_eq_false (by decide)]
      intro _
      rw [pCond_false]
      exact ⟨e06.trans e7, e7.blk c6⟩
    | true =>
      have htl : (textL t).length = 19 := by unfold textL; rw [hg]; exact bufN_len t 6 (by decide)
      rw [pNot_v, Bool.not_true, pCond_false]
      refine parse_spec11 (hG.ext e06) (by omega) fun H7 e7 => ?_
      rw [parse_back hg]
      refine pExtract_to7 rfl ?_
      refine pExtract_to7 rfl ?_
      have b7 := e7.blk b6
      have c7 := e7.blk c6
      have e07 := e06.trans e7
      refine pBox_ext fun H8 s8 e8 d8 => ?_
      refine pStoreN_upd d8 (by rfl) (by rfl) (by rfl) fun H9 _ u9 => ?_
      have d9 : H9[H7.size]? = some t.obj := u9.at_
      have hb7 := lt_of_blk b7
      have hc7 := lt_of_blk c7
      have b9 := u9.keep (e8.blk b7) (by omega)
      have c9 := u9.keep (e8.blk c7) (by omega)
      have e09 : Ext H H9 := u9.ext (e07.trans e8) e07.size
      generalize H7.size = d at *
      rw [pNot_v]
      show pOr (.bool (!true)) _ _ _
      rw [Bool.not_true]
      refine pOr_false ?_
      rw [pLoadN_blk d9 (by rfl), pLoadN_blk c9 (by rfl)]
      refine (pNeA_T6 (t := t) (u := t)).mpr ?_
      rw [decide_eq_true rfl, Bool.not_true]
      intro _
      refine pOr_false ?_
      refine pLenS_to7 ?_
      rw [htl, pNe_0, decide_eq_false (by decide)]
      intro _
      rw [pCond_false, pLoadN_blk b9 (by rfl)]
      refine refNext_spec hg fun H10 e10 => ?_
      have c10 := e10.blk c9
      have e010 := e09.trans e10
      refine pBox_ext fun H11 s11 e11 f11 => ?_
      refine pStoreN_upd f11 (by rfl) (by rfl) (by rfl) fun H12 _ u12 => ?_
      have f12 : H12[H10.size]? = some (nextT t).obj := u12.at_
      have hc10 := lt_of_blk c10
      have c12 := u12.keep (e11.blk c10) (by omega)
      have e012 : Ext H H12 := u12.ext (e010.trans e11) e010.size
      generalize H10.size = f at *
      rw [pLoadN_blk f12 (by rfl)]
      refine good_spec (t := nextT t) fun H13 e13 => ?_
      have c13 := e13.blk c12
      have f13 := e13.blk f12
      have e013 := e012.trans e13
      cases hgn : goodB (nextT t) with
      | false =>
        rw [pAnd_false]
        intro _
        rw [pCond_false]
        exact ⟨e013, c13⟩
      | true =>
        have hnn : numI (nextT t) = numI t + 43200 := by
          rcases next_num hg with ⟨_, _, h⟩ | ⟨h1, _⟩
          · exact h
          · have := good_facts hgn; omega
        have hn0 := of_num hg
        refine pAnd_true ?_
        rw [pLoadN_blk f13 (by rfl), pLoadN_blk c13 (by rfl)]
        refine week_spec fun H14 e14 => ?_
        have c14 := e14.blk c13
        have f14 := e14.blk f13
        rw [pLoadN_blk c14 (by rfl)]
        refine ⟨rfl, ?_⟩
        refine week_spec fun H15 e15 => ?_
        have c15 := e15.blk c14
        have f15 := e15.blk f14
        have hw1 : weekI (nextT t) = (numI t / 43200 + 3) % 7 := by unfold weekI; rw [hgn, if_pos rfl, hnn]; omega
        have hw2 : weekI t = (numI t / 43200 + 2) % 7 := by unfold weekI; rw [hg, if_pos rfl]
        rw [hw1, hw2, pAdd_v, w64 (by omega) (by omega), pRem_v]
        refine ⟨by decide, ?_⟩
        rw [Int.tmod_eq_emod_of_nonneg (by omega), pNe_0, decide_eq_false (by omega)]
        refine pOr_false ?_
        rw [pLoadN_blk c15 (by rfl), pLoadN_blk f15 (by rfl)]
        refine ahead_spec fun H16 e16 => ?_
        have c16 := e16.blk c15
        have f16 := e16.blk f15
        have ha1 : aheadB t (nextT t) = true := by unfold aheadB; rw [hg, hgn, hnn, decide_eq_true (by omega)]; rfl
        have ha2 : aheadB (nextT t) t = false := by unfold aheadB; rw [hg, hgn, hnn, decide_eq_false (by omega)]; rfl
        rw [ha1, pNot_v, Bool.not_true]
        intro _
        refine pOr_false ?_
        rw [pLoadN_blk f16 (by rfl), pLoadN_blk c16 (by rfl)]
        refine ahead_spec fun H17 e17 => ?_
        rw [ha2]
        intro _ _
        rw [pCond_false]
        exact ⟨(((e013.trans e14).trans e15).trans e16).trans e17, e17.blk c16⟩
theorem DosTexts_law (l : List Value) (s : List UInt8) (hG : Reads H ⟨0, 0, none⟩ formV) (hl : l.length = 6) (hf : FitAll [.int .i64, .int .i64, .int .i64, .int .i64, .int .i64, .int .i64] fun j => l[j]?) (w1 : (ByteArray.mk s.toArray).size ≤ maxLen) : CallsH Tryd.prog 3 #[.agg l.toArray, str s] H (LawOk H) := by
  obtain ⟨t, ht⟩ := six rfl hl hf
  rw [ht]
  exact DosTexts_t t s hG w1
end Go.Proofs.YtildpckmmkphcaaDoor
