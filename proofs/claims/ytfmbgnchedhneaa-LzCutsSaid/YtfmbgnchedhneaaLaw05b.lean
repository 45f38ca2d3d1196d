/- The law LzExpands over heaps. -/
import Derived.Test.YtfmbgnchedhneaaSpeaks05
import Derived.Test.YtfmbgnchedhneaaResLighterref05
import Derived.Test.YtfmbgnchedhneaaVcRows
namespace Go.Proofs.Ytfmbgnchedhneaa
-- only what is there
open Go Go.Vc Go.Proofs
set_option linter.unusedVariables false
set_option linter.unusedSimpArgs false
variable {H : Heap} {R : Value → Heap → Prop}
def Tok.robj (t : Tok) : Obj := .cells t.cells.toArray 29 (0, 0)
theorem refTokGood_spec {t : Tok} (h : ∀ H', Ext H H' → R (.bool (goodK t)) H') : CallsH Try.prog 5 #[t.v] H R := by
  refine lighterref05_Good.vc _ _ _ ?_
  unfold lighterref05_Good.res
  refine pBox_ext fun H1 s1 e1 b1 => ?_
  have b1 : H1[H.size]? = some t.robj := b1
  have h := h H1 e1
  simp only [pPick_v, pNil_v, pNil_f, pAdd_v, pSub_v, pMul_v, pAdd_s, pQuo_v, pRem_v, pBits_v, pShl_v, pShr_v, pLt_v, pLe_v, pGt_v, pGe_v, pEq_0, pNe_0, pEq_1, pNe_1, pEq_2, pNe_2, pEq_3n, pNe_3n, pEq_3s, pNe_3s, pEq_3t, pNe_3t, pEq_5n, pNe_5n, pEq_5s, pNe_5s, pEq_5t, pNe_5t, pEq_4n, pNe_4n, pEq_4s, pNe_4s, pNot_v, pNeg_v, pCom_v, pConv_v, pConvS_v, pMin_v, pMax_v, pFieldAddr_v, pField1_v, pFieldN_v, pExtract_v, pIdxArr_v, pIdxSl_v, pIdxStr_v, pBounds_00, pBounds_10, pBounds_01, pBounds_11, pSlStr_v, pSlSl_v, pSlArr_v, pLenS_v, pLen_v, pCap_v, pBuild_n, pBuild_c, cells_int, cells_str, cells_bool, cells_ptr, cells_slice, cells_map, cells_agg, oneCell_int, oneCell_str, oneCell_bool, oneCell_ptr, oneCell_slice, oneCell_map, putL_cons, putL_nil, pAnd_pure, pOr_pure, pAnd_pureE, pOr_pureE, pAnd_false, pOr_true, pCond_true, pCond_false, add_mk, bys_mk, bys_size, cond_true, cond_false, decide_true, decide_false, decide_not', dec_and, dec_or, dec_eqt, Bool.not_true, Bool.not_false, Option.isNone_none, Option.isNone_some, Option.map_some, Option.map_none, List.getElem?_toArray, List.getElem?_cons_zero, List.getElem?_cons_succ, List.size_toArray, List.length_cons, List.length_nil, List.length_replicate, List.set_cons_zero, List.set_cons_succ, Nat.reduceAdd, Nat.reduceMul, Nat.reduceSub, Nat.reduceLeDiff, Nat.zero_add, Nat.add_zero, Nat.zero_le, true_and, and_true, not_false_eq_true, ne_eq, Int.reduceNeg, Int.reduceEq, Int.reduceNe, Int.reduceLT, Int.reduceLE, le_refl', List.setIfInBounds_toArray, Nat.reduceLT, Array.size_setIfInBounds, if_true, if_false, reduceCtorEq, List.toArray_toList', List.drop_succ_cons, List.drop_zero, List.take_succ_cons, List.take_zero, List.nil_append, List.append_nil, List.cons_append, Bool.and_true, Bool.true_and, Bool.or_false, Bool.false_or, Bool.and_false, Bool.or_true, Bool.true_or, Bool.false_and, eq_self, pLoad_at b1]
  refine pCond_if (fun hc => ?_) (fun hc => ?_)
  · rw [goodK, if_pos hc] at h; exact h
  · rw [goodK, if_neg hc] at h
    intros
    refine bool_to ?_ h
    rw [Bool.eq_iff_iff]
    simp only [decide_eq_true_eq]
    omega
set_option maxHeartbeats 1000000 in
theorem toks_of : ∀ L : List (List Value), (∀ r ∈ L, r.length = 3) → (∀ r ∈ L, FitAll [.int .u8, .int .i64, .int .i64] fun j => r[j]?) → ∃ T : List Tok, T.length = L.length ∧ toksL T = L.flatten ∧ ∀ t ∈ T, t.fits
  | [], _, _ => ⟨[], rfl, rfl, by simp⟩
  | r :: L, h1, h2 => by
    obtain ⟨T, h3, h4, h5⟩ := toks_of L (fun r hr => h1 r (by simp [hr])) (fun r hr => h2 r (by simp [hr]))
    have hl := h1 r (by simp)
    have hf := h2 r (by simp)
    match r, hl with
    | [a, b, c], _ =>
      obtain ⟨_, g0, x0, rfl, k0⟩ := hf 0 _ rfl
      obtain ⟨_, g1, x1, rfl, k1⟩ := hf 1 _ rfl
      obtain ⟨_, g2, x2, rfl, k2⟩ := hf 2 _ rfl
      simp at g0 g1 g2
      subst g0 g1 g2
      have hx := wfu8 k0
      have hb := wf64 k1
      have hc := wf64 k2
      refine ⟨⟨UInt8.ofNat x0.toNat, x1, x2⟩ :: T, by simp [h3], ?_, ?_⟩
      · rw [List.flatten_cons, ← h4]
        show _ ++ toksL T = _
        congr 1
        simp only [Tok.cells, List.cons.injEq, Value.int.injEq, true_and, and_true]
        rw [UInt8.toNat_ofNat_of_lt' (by show x0.toNat < 256; omega)]
        omega
      · intro t ht
        rcases List.mem_cons.1 ht with rfl | ht
        · exact ⟨hb.1, hb.2, hc.1, hc.2⟩
        · exact h5 t ht
theorem toksL_take (T : List Tok) (i : Nat) (t : Tok) (h : T[i]? = some t) : toksL (T.take (i + 1)) = toksL (T.take i) ++ t.cells := by
  rw [List.take_add_one, h]
  simp [toksL]
end Go.Proofs.Ytfmbgnchedhneaa
