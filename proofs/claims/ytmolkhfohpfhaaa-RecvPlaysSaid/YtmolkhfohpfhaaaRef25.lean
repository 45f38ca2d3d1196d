/- Contracts of package lighterref25. -/
import Derived.Test.YtmolkhfohpfhaaaRecv
import Derived.Test.YtmolkhfohpfhaaaVcOwns
import Derived.Test.YtmolkhfohpfhaaaResLighterref25
namespace Go.Proofs.Ytmolkhfohpfhaaa
open Go Go.Vc Go.Proofs
set_option linter.unusedVariables false
set_option linter.unusedSimpArgs false
variable {H : Heap} {R : Value → Heap → Prop} {S : Slots} {next : Int} {w : Value}
def txtV (S : Slots) : List Value := S.map fun o => str (o.getD [])
def thV (S : Slots) : List Value := S.map fun o => .bool o.isSome
theorem txtV_len : (txtV S).length = S.length := by simp [txtV]
theorem thV_len : (thV S).length = S.length := by simp [thV]
theorem txtV_one : (txtV S).all oneCell = true := by simp [txtV, oneCell]
theorem thV_one : (thV S).all oneCell = true := by simp [thV, oneCell]
/-- the ref's window, a value -/
structure RefW (H : Heap) (w : Value) (next : Int) (S : Slots) : Prop where
  ex : ∃ tv bv, w = .agg #[.int .u32 next, tv, bv] ∧ Sl H tv 1 (txtV S) ∧ Sl H bv 1 (thV S)
theorem RefW.ext {H' : Heap} (h : RefW H w next S) (hx : Ext H H') : RefW H' w next S := by
  obtain ⟨tv, bv, e, h1, h2⟩ := h.ex
  exact ⟨tv, bv, e, h1.ext hx, h2.ext hx⟩
/-- the blocks of a ref's window -/
def footW (w : Value) (k : Nat) : Prop := ∃ n tv bv, w = .agg #[n, tv, bv] ∧ (blkOf tv = some k ∨ blkOf bv = some k)
theorem footW_mk {n y z : Value} {k : Nat} : footW (.agg #[n, y, z]) k ↔ (blkOf y = some k ∨ blkOf z = some k) := by
  constructor
  · rintro ⟨n', tv, bv, e, h⟩
    simp only [Value.agg.injEq, Array.mk.injEq, List.cons.injEq, and_true] at e
    obtain ⟨rfl, rfl, rfl⟩ := e
    exact h
  · exact fun h => ⟨n, y, z, rfl, h⟩
theorem refNew_spec {n s : Int} (h1 : 1 ≤ s) (h2 : s ≤ 32) (h : ∀ w H', (∀ k, footW w k → H.size ≤ k) → RefW H' w n (List.replicate s.toNat none) → Ext H H' → R w H') : CallsH Try.prog 13 #[.int .u32 n, .int .i64 s] H R := by
  refine lighterref25_New.vc _ _ _ _ ?_
  unfold lighterref25_New.res
  refine (Owns.start (H := H)).box fun b H1 o hb => ?_
  have et : List.replicate s.toNat (str []) = txtV (List.replicate s.toNat none) := by simp [txtV]
  have eb : List.replicate s.toNat (.bool false) = thV (List.replicate s.toNat none) := by simp [thV]
  repeat' (first
    | (with_reducible apply And.intro)
    | (with_reducible refine o.make1 (by omega) (by omega) (by omega) fun x H' o => ?_)
    | (with_reducible refine pBuild_three rfl (o.sl (by repeat (first | exact List.mem_cons_self | apply List.mem_cons_of_mem))).one (o.sl (by repeat (first | exact List.mem_cons_self | apply List.mem_cons_of_mem))).one ?_)
    | (with_reducible refine o.bstoreN (vs := [_, _, _]) (by repeat (first | exact List.mem_cons_self | apply List.mem_cons_of_mem)) rfl rfl (all_cons rfl (all_cons (o.sl (by repeat (first | exact List.mem_cons_self | apply List.mem_cons_of_mem))).one (all_cons (o.sl (by repeat (first | exact List.mem_cons_self | apply List.mem_cons_of_mem))).one rfl))) (by repeat (first | exact Rep.here | apply Rep.there)) fun H' o hs => ?_)
    | (with_reducible refine o.bloadN (by repeat (first | exact List.mem_cons_self | apply List.mem_cons_of_mem)) rfl ?_)
    | (with_reducible refine h _ _ (fun k hk => (footW_mk.1 hk).elim (o.newV (by repeat (first | exact List.mem_cons_self | apply List.mem_cons_of_mem))) (o.newV (by repeat (first | exact List.mem_cons_self | apply List.mem_cons_of_mem)))) ⟨_, _, rfl, ?_, ?_⟩ o.ext)
    | (first | rw [← et] | rw [← eb]); exact o.sl (by repeat (first | exact List.mem_cons_self | apply List.mem_cons_of_mem)))
theorem txtV_at {i : Nat} (hi : i < S.length) : (txtV S)[i]? = some (str (S[i].getD [])) := by simp [txtV, hi]
theorem thV_at {i : Nat} (hi : i < S.length) : (thV S)[i]? = some (.bool S[i].isSome) := by simp [thV, hi]
theorem refHeld_spec (hw : RefW H w next S) (hsm : heldL S ≤ 8192) (hl : S.length ≤ 32) (h : ∀ H', Ext H H' → R (.int .i64 (heldL S)) H') : CallsH Try.prog 21 #[w] H R := by
  obtain ⟨tv, bv, rfl, ht, hb⟩ := hw.ex
  refine lighterref25_Held.vc _ _ _ ?_
  unfold lighterref25_Held.res
  refine pBox_ext fun H1 s1 e1 b1 => ?_
  refine ⟨fun n i H' => ∃ k : Nat, i = .int .i64 k ∧ k ≤ S.length ∧ n = .int .i64 (heldL (S.take k)) ∧ H1 = H', fun _ i _ => match i with | .int _ x => (100 - x).toNat | _ => 0, ⟨0, rfl, by omega, rfl, rfl⟩, ?_⟩
  rintro _ _ _ _ ⟨k, rfl, hk, rfl, rfl⟩
  have htake : k < S.length → heldL (S.take (k + 1)) = heldL (S.take k) + heldL [S[k]!] := fun hlt => by
    rw [List.take_add_one, heldL_append, List.getElem?_eq_getElem hlt, getElem!_pos S k hlt]; rfl
  have hle : heldL (S.take k) ≤ 8192 := by
    have := heldL_append (S.take k) (S.drop k)
    rw [List.take_append_drop] at this
    omega
  have hle1 : heldL (S.take (k + 1)) ≤ 8192 := by
    have := heldL_append (S.take (k + 1)) (S.drop (k + 1))
    rw [List.take_append_drop] at this
    omega
  simp only [pPick_v, pNil_v, pNil_f, pAdd_v, pSub_v, pMul_v, pAdd_s, pQuo_v, pRem_v, pBits_v, pShl_v, pShr_v, pLt_v, pLe_v, pGt_v, pGe_v, pEq_0, pNe_0, pEq_1, pNe_1, pEq_2, pNe_2, pEq_3n, pNe_3n, pEq_3s, pNe_3s, pEq_3t, pNe_3t, pEq_5n, pNe_5n, pEq_5s, pNe_5s, pEq_5t, pNe_5t, pEq_4n, pNe_4n, pEq_4s, pNe_4s, pNot_v, pNeg_v, pCom_v, pConv_v, pConvS_v, pMin_v, pMax_v, pFieldAddr_v, pField1_v, pFieldN_v, pExtract_v, pIdxArr_v, pIdxSl_v, pIdxStr_v, pBounds_00, pBounds_10, pBounds_01, pBounds_11, pSlStr_v, pSlSl_v, pSlArr_v, pLenS_v, pLen_v, pCap_v, pBuild_n, pBuild_c, cells_int, cells_str, cells_bool, cells_ptr, cells_slice, cells_map, cells_agg, oneCell_int, oneCell_str, oneCell_bool, oneCell_ptr, oneCell_slice, oneCell_map, putL_cons, putL_nil, pAnd_pure, pOr_pure, pAnd_pureE, pOr_pureE, pAnd_false, pOr_true, pCond_true, pCond_false, add_mk, bys_mk, bys_size, cond_true, cond_false, decide_true, decide_false, decide_not', dec_and, dec_or, dec_eqt, Bool.not_true, Bool.not_false, Option.isNone_none, Option.isNone_some, Option.map_some, Option.map_none, List.getElem?_toArray, List.getElem?_cons_zero, List.getElem?_cons_succ, List.size_toArray, List.length_cons, List.length_nil, List.length_replicate, List.set_cons_zero, List.set_cons_succ, Nat.reduceAdd, Nat.reduceMul, Nat.reduceSub, Nat.reduceLeDiff, Nat.zero_add, Nat.add_zero, Nat.zero_le, true_and, and_true, not_false_eq_true, ne_eq, Int.reduceNeg, Int.reduceEq, Int.reduceNe, Int.reduceLT, Int.reduceLE, le_refl', List.setIfInBounds_toArray, Nat.reduceLT, Array.size_setIfInBounds, if_true, if_false, reduceCtorEq, List.toArray_toList', List.drop_succ_cons, List.drop_zero, List.take_succ_cons, List.take_zero, List.nil_append, List.append_nil, List.cons_append, Bool.and_true, Bool.true_and, Bool.or_false, Bool.false_or, Bool.and_false, Bool.or_true, Bool.true_or, Bool.false_and, eq_self, pLoad_at b1, cells_agg]
  refine (ht.ext e1).len (n := S.length) (by simp [txtV_len]) (by decide) ?_
  simp only [pPick_v, pNil_v, pNil_f, pAdd_v, pSub_v, pMul_v, pAdd_s, pQuo_v, pRem_v, pBits_v, pShl_v, pShr_v, pLt_v, pLe_v, pGt_v, pGe_v, pEq_0, pNe_0, pEq_1, pNe_1, pEq_2, pNe_2, pEq_3n, pNe_3n, pEq_3s, pNe_3s, pEq_3t, pNe_3t, pEq_5n, pNe_5n, pEq_5s, pNe_5s, pEq_5t, pNe_5t, pEq_4n, pNe_4n, pEq_4s, pNe_4s, pNot_v, pNeg_v, pCom_v, pConv_v, pConvS_v, pMin_v, pMax_v, pFieldAddr_v, pField1_v, pFieldN_v, pExtract_v, pIdxArr_v, pIdxSl_v, pIdxStr_v, pBounds_00, pBounds_10, pBounds_01, pBounds_11, pSlStr_v, pSlSl_v, pSlArr_v, pLenS_v, pLen_v, pCap_v, pBuild_n, pBuild_c, cells_int, cells_str, cells_bool, cells_ptr, cells_slice, cells_map, cells_agg, oneCell_int, oneCell_str, oneCell_bool, oneCell_ptr, oneCell_slice, oneCell_map, putL_cons, putL_nil, pAnd_pure, pOr_pure, pAnd_pureE, pOr_pureE, pAnd_false, pOr_true, pCond_true, pCond_false, add_mk, bys_mk, bys_size, cond_true, cond_false, decide_true, decide_false, decide_not', dec_and, dec_or, dec_eqt, Bool.not_true, Bool.not_false, Option.isNone_none, Option.isNone_some, Option.map_some, Option.map_none, List.getElem?_toArray, List.getElem?_cons_zero, List.getElem?_cons_succ, List.size_toArray, List.length_cons, List.length_nil, List.length_replicate, List.set_cons_zero, List.set_cons_succ, Nat.reduceAdd, Nat.reduceMul, Nat.reduceSub, Nat.reduceLeDiff, Nat.zero_add, Nat.add_zero, Nat.zero_le, true_and, and_true, not_false_eq_true, ne_eq, Int.reduceNeg, Int.reduceEq, Int.reduceNe, Int.reduceLT, Int.reduceLE, le_refl', List.setIfInBounds_toArray, Nat.reduceLT, Array.size_setIfInBounds, if_true, if_false, reduceCtorEq, List.toArray_toList', List.drop_succ_cons, List.drop_zero, List.take_succ_cons, List.take_zero, List.nil_append, List.append_nil, List.cons_append, Bool.and_true, Bool.true_and, Bool.or_false, Bool.false_or, Bool.and_false, Bool.or_true, Bool.true_or, Bool.false_and, eq_self]
  refine pCond_if (fun hc => ?_) (fun hc => ?_)
  · have hlt : k < S.length := by omega
    refine ⟨fun n H' => n = .int .i64 (heldL (S.take (k + 1))) ∧ H1 = H', ?_, ?_⟩
    · rintro _ _ _ ⟨rfl, rfl⟩
      simp only [pPick_v, pNil_v, pNil_f, pAdd_v, pSub_v, pMul_v, pAdd_s, pQuo_v, pRem_v, pBits_v, pShl_v, pShr_v, pLt_v, pLe_v, pGt_v, pGe_v, pEq_0, pNe_0, pEq_1, pNe_1, pEq_2, pNe_2, pEq_3n, pNe_3n, pEq_3s, pNe_3s, pEq_3t, pNe_3t, pEq_5n, pNe_5n, pEq_5s, pNe_5s, pEq_5t, pNe_5t, pEq_4n, pNe_4n, pEq_4s, pNe_4s, pNot_v, pNeg_v, pCom_v, pConv_v, pConvS_v, pMin_v, pMax_v, pFieldAddr_v, pField1_v, pFieldN_v, pExtract_v, pIdxArr_v, pIdxSl_v, pIdxStr_v, pBounds_00, pBounds_10, pBounds_01, pBounds_11, pSlStr_v, pSlSl_v, pSlArr_v, pLenS_v, pLen_v, pCap_v, pBuild_n, pBuild_c, cells_int, cells_str, cells_bool, cells_ptr, cells_slice, cells_map, cells_agg, oneCell_int, oneCell_str, oneCell_bool, oneCell_ptr, oneCell_slice, oneCell_map, putL_cons, putL_nil, pAnd_pure, pOr_pure, pAnd_pureE, pOr_pureE, pAnd_false, pOr_true, pCond_true, pCond_false, add_mk, bys_mk, bys_size, cond_true, cond_false, decide_true, decide_false, decide_not', dec_and, dec_or, dec_eqt, Bool.not_true, Bool.not_false, Option.isNone_none, Option.isNone_some, Option.map_some, Option.map_none, List.getElem?_toArray, List.getElem?_cons_zero, List.getElem?_cons_succ, List.size_toArray, List.length_cons, List.length_nil, List.length_replicate, List.set_cons_zero, List.set_cons_succ, Nat.reduceAdd, Nat.reduceMul, Nat.reduceSub, Nat.reduceLeDiff, Nat.zero_add, Nat.add_zero, Nat.zero_le, true_and, and_true, not_false_eq_true, ne_eq, Int.reduceNeg, Int.reduceEq, Int.reduceNe, Int.reduceLT, Int.reduceLE, le_refl', List.setIfInBounds_toArray, Nat.reduceLT, Array.size_setIfInBounds, if_true, if_false, reduceCtorEq, List.toArray_toList', List.drop_succ_cons, List.drop_zero, List.take_succ_cons, List.take_zero, List.nil_append, List.append_nil, List.cons_append, Bool.and_true, Bool.true_and, Bool.or_false, Bool.false_or, Bool.and_false, Bool.or_true, Bool.true_or, Bool.false_and, eq_self]
      rw [w64 (n := (k : Int) + 1) (by omega) (by omega)]
      exact ⟨⟨k + 1, rfl, by omega, rfl⟩, by show (_ : Int).toNat < (_ : Int).toNat; omega⟩
    · refine (hb.ext e1).at_ (n := S.length) (by simp [thV_len]) (by decide) (by omega) (by omega) fun p hp => ?_
      refine hp.load (hb.ext e1) (w := .bool S[k].isSome) (by rw [Int.toNat_natCast, Nat.mul_one, thV_at hlt]) ?_
      have hk0 := htake hlt
      rw [getElem!_pos S k hlt] at hk0
      cases hS : S[k] with
      | none =>
        rw [hS] at hk0
        simp only [Option.isSome_none, pPick_v, pNil_v, pNil_f, pAdd_v, pSub_v, pMul_v, pAdd_s, pQuo_v, pRem_v, pBits_v, pShl_v, pShr_v, pLt_v, pLe_v, pGt_v, pGe_v, pEq_0, pNe_0, pEq_1, pNe_1, pEq_2, pNe_2, pEq_3n, pNe_3n, pEq_3s, pNe_3s, pEq_3t, pNe_3t, pEq_5n, pNe_5n, pEq_5s, pNe_5s, pEq_5t, pNe_5t, pEq_4n, pNe_4n, pEq_4s, pNe_4s, pNot_v, pNeg_v, pCom_v, pConv_v, pConvS_v, pMin_v, pMax_v, pFieldAddr_v, pField1_v, pFieldN_v, pExtract_v, pIdxArr_v, pIdxSl_v, pIdxStr_v, pBounds_00, pBounds_10, pBounds_01, pBounds_11, pSlStr_v, pSlSl_v, pSlArr_v, pLenS_v, pLen_v, pCap_v, pBuild_n, pBuild_c, cells_int, cells_str, cells_bool, cells_ptr, cells_slice, cells_map, cells_agg, oneCell_int, oneCell_str, oneCell_bool, oneCell_ptr, oneCell_slice, oneCell_map, putL_cons, putL_nil, pAnd_pure, pOr_pure, pAnd_pureE, pOr_pureE, pAnd_false, pOr_true, pCond_true, pCond_false, add_mk, bys_mk, bys_size, cond_true, cond_false, decide_true, decide_false, decide_not', dec_and, dec_or, dec_eqt, Bool.not_true, Bool.not_false, Option.isNone_none, Option.isNone_some, Option.map_some, Option.map_none, List.getElem?_toArray, List.getElem?_cons_zero, List.getElem?_cons_succ, List.size_toArray, List.length_cons, List.length_nil, List.length_replicate, List.set_cons_zero, List.set_cons_succ, Nat.reduceAdd, Nat.reduceMul, Nat.reduceSub, Nat.reduceLeDiff, Nat.zero_add, Nat.add_zero, Nat.zero_le, true_and, and_true, not_false_eq_true, ne_eq, Int.reduceNeg, Int.reduceEq, Int.reduceNe, Int.reduceLT, Int.reduceLE, le_refl', List.setIfInBounds_toArray, Nat.reduceLT, Array.size_setIfInBounds, if_true, if_false, reduceCtorEq, List.toArray_toList', List.drop_succ_cons, List.drop_zero, List.take_succ_cons, List.take_zero, List.nil_append, List.append_nil, List.cons_append, Bool.and_true, Bool.true_and, Bool.or_false, Bool.false_or, Bool.and_false, Bool.or_true, Bool.true_or, Bool.false_and, eq_self]
        rw [hk0]; rfl
      | some t =>
        rw [hS] at hk0
        simp only [Option.isSome_some, pPick_v, pNil_v, pNil_f, pAdd_v, pSub_v, pMul_v, pAdd_s, pQuo_v, pRem_v, pBits_v, pShl_v, pShr_v, pLt_v, pLe_v, pGt_v, pGe_v, pEq_0, pNe_0, pEq_1, pNe_1, pEq_2, pNe_2, pEq_3n, pNe_3n, pEq_3s, pNe_3s, pEq_3t, pNe_3t, pEq_5n, pNe_5n, pEq_5s, pNe_5s, pEq_5t, pNe_5t, pEq_4n, pNe_4n, pEq_4s, pNe_4s, pNot_v, pNeg_v, pCom_v, pConv_v, pConvS_v, pMin_v, pMax_v, pFieldAddr_v, pField1_v, pFieldN_v, pExtract_v, pIdxArr_v, pIdxSl_v, pIdxStr_v, pBounds_00, pBounds_10, pBounds_01, pBounds_11, pSlStr_v, pSlSl_v, pSlArr_v, pLenS_v, pLen_v, pCap_v, pBuild_n, pBuild_c, cells_int, cells_str, cells_bool, cells_ptr, cells_slice, cells_map, cells_agg, oneCell_int, oneCell_str, oneCell_bool, oneCell_ptr, oneCell_slice, oneCell_map, putL_cons, putL_nil, pAnd_pure, pOr_pure, pAnd_pureE, pOr_pureE, pAnd_false, pOr_true, pCond_true, pCond_false, add_mk, bys_mk, bys_size, cond_true, cond_false, decide_true, decide_false, decide_not', dec_and, dec_or, dec_eqt, Bool.not_true, Bool.not_false, Option.isNone_none, Option.isNone_some, Option.map_some, Option.map_none, List.getElem?_toArray, List.getElem?_cons_zero, List.getElem?_cons_succ, List.size_toArray, List.length_cons, List.length_nil, List.length_replicate, List.set_cons_zero, List.set_cons_succ, Nat.reduceAdd, Nat.reduceMul, Nat.reduceSub, Nat.reduceLeDiff, Nat.zero_add, Nat.add_zero, Nat.zero_le, true_and, and_true, not_false_eq_true, ne_eq, Int.reduceNeg, Int.reduceEq, Int.reduceNe, Int.reduceLT, Int.reduceLE, le_refl', List.setIfInBounds_toArray, Nat.reduceLT, Array.size_setIfInBounds, if_true, if_false, reduceCtorEq, List.toArray_toList', List.drop_succ_cons, List.drop_zero, List.take_succ_cons, List.take_zero, List.nil_append, List.append_nil, List.cons_append, Bool.and_true, Bool.true_and, Bool.or_false, Bool.false_or, Bool.and_false, Bool.or_true, Bool.true_or, Bool.false_and, eq_self]
        refine (ht.ext e1).at_ (n := S.length) (by simp [txtV_len]) (by decide) (by omega) (by omega) fun p hp => ?_
        refine hp.load (ht.ext e1) (w := str t) (by rw [Int.toNat_natCast, Nat.mul_one, txtV_at hlt, hS]; rfl) ?_
        have : heldL [some t] = t.length := by simp [heldL]
        simp only [pPick_v, pNil_v, pNil_f, pAdd_v, pSub_v, pMul_v, pAdd_s, pQuo_v, pRem_v, pBits_v, pShl_v, pShr_v, pLt_v, pLe_v, pGt_v, pGe_v, pEq_0, pNe_0, pEq_1, pNe_1, pEq_2, pNe_2, pEq_3n, pNe_3n, pEq_3s, pNe_3s, pEq_3t, pNe_3t, pEq_5n, pNe_5n, pEq_5s, pNe_5s, pEq_5t, pNe_5t, pEq_4n, pNe_4n, pEq_4s, pNe_4s, pNot_v, pNeg_v, pCom_v, pConv_v, pConvS_v, pMin_v, pMax_v, pFieldAddr_v, pField1_v, pFieldN_v, pExtract_v, pIdxArr_v, pIdxSl_v, pIdxStr_v, pBounds_00, pBounds_10, pBounds_01, pBounds_11, pSlStr_v, pSlSl_v, pSlArr_v, pLenS_v, pLen_v, pCap_v, pBuild_n, pBuild_c, cells_int, cells_str, cells_bool, cells_ptr, cells_slice, cells_map, cells_agg, oneCell_int, oneCell_str, oneCell_bool, oneCell_ptr, oneCell_slice, oneCell_map, putL_cons, putL_nil, pAnd_pure, pOr_pure, pAnd_pureE, pOr_pureE, pAnd_false, pOr_true, pCond_true, pCond_false, add_mk, bys_mk, bys_size, cond_true, cond_false, decide_true, decide_false, decide_not', dec_and, dec_or, dec_eqt, Bool.not_true, Bool.not_false, Option.isNone_none, Option.isNone_some, Option.map_some, Option.map_none, List.getElem?_toArray, List.getElem?_cons_zero, List.getElem?_cons_succ, List.size_toArray, List.length_cons, List.length_nil, List.length_replicate, List.set_cons_zero, List.set_cons_succ, Nat.reduceAdd, Nat.reduceMul, Nat.reduceSub, Nat.reduceLeDiff, Nat.zero_add, Nat.add_zero, Nat.zero_le, true_and, and_true, not_false_eq_true, ne_eq, Int.reduceNeg, Int.reduceEq, Int.reduceNe, Int.reduceLT, Int.reduceLE, le_refl', List.setIfInBounds_toArray, Nat.reduceLT, Array.size_setIfInBounds, if_true, if_false, reduceCtorEq, List.toArray_toList', List.drop_succ_cons, List.drop_zero, List.take_succ_cons, List.take_zero, List.nil_append, List.append_nil, List.cons_append, Bool.and_true, Bool.true_and, Bool.or_false, Bool.false_or, Bool.and_false, Bool.or_true, Bool.true_or, Bool.false_and, eq_self]
        rw [w64 (by omega) (by omega)]
        congr 1; omega
  · have : k = S.length := by omega
    subst this
    rw [List.take_length]
    exact h _ e1
theorem bsum_above {D : Nat → Bool} {m : Nat} : ∀ {n : Nat}, m ≤ n → (∀ j, m ≤ j → j < n → D j = false) → bsum D n = bsum D m
  | 0, h, _ => by have : m = 0 := by omega
                  subst this; rfl
  | n + 1, h, h0 => by
    by_cases hm : m = n + 1
    · subst hm; rfl
    · rw [bsum, bsum_above (n := n) (by omega) (fun j h1 h2 => h0 j h1 (by omega)), h0 n (by omega) (by omega)]; rfl
/-- the bits of the ref's answer: those of the places 1.. -/
theorem refBits_spec (hw : RefW H w next S) (h1 : 1 ≤ S.length) (hl : S.length ≤ 32) (h : ∀ H', Ext H H' → R (.int .u32 (bsum (thereS S) 31 : Nat)) H') : CallsH Try.prog 19 #[w] H R := by
  obtain ⟨tv, bv, rfl, ht, hb⟩ := hw.ex
  refine lighterref25_Bits.vc _ _ _ ?_
  unfold lighterref25_Bits.res
  refine pBox_ext fun H1 s1 e1 b1 => ?_
  refine ⟨fun v p i H' => ∃ k : Nat, i = .int .i64 ((k + 1 : Nat) : Int) ∧ k + 1 ≤ S.length ∧ v = .int .u32 (bsum (thereS S) k : Nat) ∧ p = .int .u32 ((2 ^ k : Nat) % 4294967296 : Int) ∧ H1 = H', fun _ _ i _ => match i with | .int _ x => (100 - x).toNat | _ => 0, ⟨0, rfl, by omega, rfl, rfl, rfl⟩, ?_⟩
  rintro _ _ _ _ _ ⟨k, rfl, hk, rfl, rfl, rfl⟩
  have hbs := bsum_lt (thereS S) k
  have hp2 : 2 ^ k ≤ 2 ^ 31 := Nat.pow_le_pow_right (by omega) (by omega)
  have hpk : 2 ^ (k + 1) = 2 * 2 ^ k := by rw [Nat.pow_succ, Nat.mul_comm]
  have hbk := bsum_lt (thereS S) (k + 1)
  simp only [pPick_v, pNil_v, pNil_f, pAdd_v, pSub_v, pMul_v, pAdd_s, pQuo_v, pRem_v, pBits_v, pShl_v, pShr_v, pLt_v, pLe_v, pGt_v, pGe_v, pEq_0, pNe_0, pEq_1, pNe_1, pEq_2, pNe_2, pEq_3n, pNe_3n, pEq_3s, pNe_3s, pEq_3t, pNe_3t, pEq_5n, pNe_5n, pEq_5s, pNe_5s, pEq_5t, pNe_5t, pEq_4n, pNe_4n, pEq_4s, pNe_4s, pNot_v, pNeg_v, pCom_v, pConv_v, pConvS_v, pMin_v, pMax_v, pFieldAddr_v, pField1_v, pFieldN_v, pExtract_v, pIdxArr_v, pIdxSl_v, pIdxStr_v, pBounds_00, pBounds_10, pBounds_01, pBounds_11, pSlStr_v, pSlSl_v, pSlArr_v, pLenS_v, pLen_v, pCap_v, pBuild_n, pBuild_c, cells_int, cells_str, cells_bool, cells_ptr, cells_slice, cells_map, cells_agg, oneCell_int, oneCell_str, oneCell_bool, oneCell_ptr, oneCell_slice, oneCell_map, putL_cons, putL_nil, pAnd_pure, pOr_pure, pAnd_pureE, pOr_pureE, pAnd_false, pOr_true, pCond_true, pCond_false, add_mk, bys_mk, bys_size, cond_true, cond_false, decide_true, decide_false, decide_not', dec_and, dec_or, dec_eqt, Bool.not_true, Bool.not_false, Option.isNone_none, Option.isNone_some, Option.map_some, Option.map_none, List.getElem?_toArray, List.getElem?_cons_zero, List.getElem?_cons_succ, List.size_toArray, List.length_cons, List.length_nil, List.length_replicate, List.set_cons_zero, List.set_cons_succ, Nat.reduceAdd, Nat.reduceMul, Nat.reduceSub, Nat.reduceLeDiff, Nat.zero_add, Nat.add_zero, Nat.zero_le, true_and, and_true, not_false_eq_true, ne_eq, Int.reduceNeg, Int.reduceEq, Int.reduceNe, Int.reduceLT, Int.reduceLE, le_refl', List.setIfInBounds_toArray, Nat.reduceLT, Array.size_setIfInBounds, if_true, if_false, reduceCtorEq, List.toArray_toList', List.drop_succ_cons, List.drop_zero, List.take_succ_cons, List.take_zero, List.nil_append, List.append_nil, List.cons_append, Bool.and_true, Bool.true_and, Bool.or_false, Bool.false_or, Bool.and_false, Bool.or_true, Bool.true_or, Bool.false_and, eq_self, pLoad_at b1, cells_agg]
  refine (hb.ext e1).len (n := S.length) (by simp [thV_len]) (by decide) ?_
  simp only [pPick_v, pNil_v, pNil_f, pAdd_v, pSub_v, pMul_v, pAdd_s, pQuo_v, pRem_v, pBits_v, pShl_v, pShr_v, pLt_v, pLe_v, pGt_v, pGe_v, pEq_0, pNe_0, pEq_1, pNe_1, pEq_2, pNe_2, pEq_3n, pNe_3n, pEq_3s, pNe_3s, pEq_3t, pNe_3t, pEq_5n, pNe_5n, pEq_5s, pNe_5s, pEq_5t, pNe_5t, pEq_4n, pNe_4n, pEq_4s, pNe_4s, pNot_v, pNeg_v, pCom_v, pConv_v, pConvS_v, pMin_v, pMax_v, pFieldAddr_v, pField1_v, pFieldN_v, pExtract_v, pIdxArr_v, pIdxSl_v, pIdxStr_v, pBounds_00, pBounds_10, pBounds_01, pBounds_11, pSlStr_v, pSlSl_v, pSlArr_v, pLenS_v, pLen_v, pCap_v, pBuild_n, pBuild_c, cells_int, cells_str, cells_bool, cells_ptr, cells_slice, cells_map, cells_agg, oneCell_int, oneCell_str, oneCell_bool, oneCell_ptr, oneCell_slice, oneCell_map, putL_cons, putL_nil, pAnd_pure, pOr_pure, pAnd_pureE, pOr_pureE, pAnd_false, pOr_true, pCond_true, pCond_false, add_mk, bys_mk, bys_size, cond_true, cond_false, decide_true, decide_false, decide_not', dec_and, dec_or, dec_eqt, Bool.not_true, Bool.not_false, Option.isNone_none, Option.isNone_some, Option.map_some, Option.map_none, List.getElem?_toArray, List.getElem?_cons_zero, List.getElem?_cons_succ, List.size_toArray, List.length_cons, List.length_nil, List.length_replicate, List.set_cons_zero, List.set_cons_succ, Nat.reduceAdd, Nat.reduceMul, Nat.reduceSub, Nat.reduceLeDiff, Nat.zero_add, Nat.add_zero, Nat.zero_le, true_and, and_true, not_false_eq_true, ne_eq, Int.reduceNeg, Int.reduceEq, Int.reduceNe, Int.reduceLT, Int.reduceLE, le_refl', List.setIfInBounds_toArray, Nat.reduceLT, Array.size_setIfInBounds, if_true, if_false, reduceCtorEq, List.toArray_toList', List.drop_succ_cons, List.drop_zero, List.take_succ_cons, List.take_zero, List.nil_append, List.append_nil, List.cons_append, Bool.and_true, Bool.true_and, Bool.or_false, Bool.false_or, Bool.and_false, Bool.or_true, Bool.true_or, Bool.false_and, eq_self]
  refine pCond_if (fun hc => ?_) (fun hc => ?_)
  · have hlt : k + 1 < S.length := by omega
    have hpk31 : k < 31 := by omega
    refine ⟨fun v H' => v = .int .u32 (bsum (thereS S) (k + 1) : Nat) ∧ H1 = H', ?_, ?_⟩
    · rintro _ _ _ ⟨rfl, rfl⟩
      simp only [pPick_v, pNil_v, pNil_f, pAdd_v, pSub_v, pMul_v, pAdd_s, pQuo_v, pRem_v, pBits_v, pShl_v, pShr_v, pLt_v, pLe_v, pGt_v, pGe_v, pEq_0, pNe_0, pEq_1, pNe_1, pEq_2, pNe_2, pEq_3n, pNe_3n, pEq_3s, pNe_3s, pEq_3t, pNe_3t, pEq_5n, pNe_5n, pEq_5s, pNe_5s, pEq_5t, pNe_5t, pEq_4n, pNe_4n, pEq_4s, pNe_4s, pNot_v, pNeg_v, pCom_v, pConv_v, pConvS_v, pMin_v, pMax_v, pFieldAddr_v, pField1_v, pFieldN_v, pExtract_v, pIdxArr_v, pIdxSl_v, pIdxStr_v, pBounds_00, pBounds_10, pBounds_01, pBounds_11, pSlStr_v, pSlSl_v, pSlArr_v, pLenS_v, pLen_v, pCap_v, pBuild_n, pBuild_c, cells_int, cells_str, cells_bool, cells_ptr, cells_slice, cells_map, cells_agg, oneCell_int, oneCell_str, oneCell_bool, oneCell_ptr, oneCell_slice, oneCell_map, putL_cons, putL_nil, pAnd_pure, pOr_pure, pAnd_pureE, pOr_pureE, pAnd_false, pOr_true, pCond_true, pCond_false, add_mk, bys_mk, bys_size, cond_true, cond_false, decide_true, decide_false, decide_not', dec_and, dec_or, dec_eqt, Bool.not_true, Bool.not_false, Option.isNone_none, Option.isNone_some, Option.map_some, Option.map_none, List.getElem?_toArray, List.getElem?_cons_zero, List.getElem?_cons_succ, List.size_toArray, List.length_cons, List.length_nil, List.length_replicate, List.set_cons_zero, List.set_cons_succ, Nat.reduceAdd, Nat.reduceMul, Nat.reduceSub, Nat.reduceLeDiff, Nat.zero_add, Nat.add_zero, Nat.zero_le, true_and, and_true, not_false_eq_true, ne_eq, Int.reduceNeg, Int.reduceEq, Int.reduceNe, Int.reduceLT, Int.reduceLE, le_refl', List.setIfInBounds_toArray, Nat.reduceLT, Array.size_setIfInBounds, if_true, if_false, reduceCtorEq, List.toArray_toList', List.drop_succ_cons, List.drop_zero, List.take_succ_cons, List.take_zero, List.nil_append, List.append_nil, List.cons_append, Bool.and_true, Bool.true_and, Bool.or_false, Bool.false_or, Bool.and_false, Bool.or_true, Bool.true_or, Bool.false_and, eq_self]
      rw [w64 (n := ((k + 1 : Nat) : Int) + 1) (by omega) (by omega)]
      refine ⟨⟨k + 1, rfl, by omega, rfl, ?_⟩, by show (_ : Int).toNat < (_ : Int).toNat; omega⟩
      rw [wu32_mod, hpk]
      congr 1
      generalize 2 ^ k = P at *
      omega
    · refine (hb.ext e1).at_ (n := S.length) (by simp [thV_len]) (by decide) (by omega) (by omega) fun p hp => ?_
      refine hp.load (hb.ext e1) (w := .bool S[k + 1].isSome) (by rw [Int.toNat_natCast, Nat.mul_one, thV_at hlt]) ?_
      have hth : thereS S k = S[k + 1].isSome := by
        unfold thereS; rw [List.getElem?_eq_getElem hlt]; rfl
      rw [bsum, hth] at hbk ⊢
      cases hS : S[k + 1].isSome with
      | false =>
        simp only [pPick_v, pNil_v, pNil_f, pAdd_v, pSub_v, pMul_v, pAdd_s, pQuo_v, pRem_v, pBits_v, pShl_v, pShr_v, pLt_v, pLe_v, pGt_v, pGe_v, pEq_0, pNe_0, pEq_1, pNe_1, pEq_2, pNe_2, pEq_3n, pNe_3n, pEq_3s, pNe_3s, pEq_3t, pNe_3t, pEq_5n, pNe_5n, pEq_5s, pNe_5s, pEq_5t, pNe_5t, pEq_4n, pNe_4n, pEq_4s, pNe_4s, pNot_v, pNeg_v, pCom_v, pConv_v, pConvS_v, pMin_v, pMax_v, pFieldAddr_v, pField1_v, pFieldN_v, pExtract_v, pIdxArr_v, pIdxSl_v, pIdxStr_v, pBounds_00, pBounds_10, pBounds_01, pBounds_11, pSlStr_v, pSlSl_v, pSlArr_v, pLenS_v, pLen_v, pCap_v, pBuild_n, pBuild_c, cells_int, cells_str, cells_bool, cells_ptr, cells_slice, cells_map, cells_agg, oneCell_int, oneCell_str, oneCell_bool, oneCell_ptr, oneCell_slice, oneCell_map, putL_cons, putL_nil, pAnd_pure, pOr_pure, pAnd_pureE, pOr_pureE, pAnd_false, pOr_true, pCond_true, pCond_false, add_mk, bys_mk, bys_size, cond_true, cond_false, decide_true, decide_false, decide_not', dec_and, dec_or, dec_eqt, Bool.not_true, Bool.not_false, Option.isNone_none, Option.isNone_some, Option.map_some, Option.map_none, List.getElem?_toArray, List.getElem?_cons_zero, List.getElem?_cons_succ, List.size_toArray, List.length_cons, List.length_nil, List.length_replicate, List.set_cons_zero, List.set_cons_succ, Nat.reduceAdd, Nat.reduceMul, Nat.reduceSub, Nat.reduceLeDiff, Nat.zero_add, Nat.add_zero, Nat.zero_le, true_and, and_true, not_false_eq_true, ne_eq, Int.reduceNeg, Int.reduceEq, Int.reduceNe, Int.reduceLT, Int.reduceLE, le_refl', List.setIfInBounds_toArray, Nat.reduceLT, Array.size_setIfInBounds, if_true, if_false, reduceCtorEq, List.toArray_toList', List.drop_succ_cons, List.drop_zero, List.take_succ_cons, List.take_zero, List.nil_append, List.append_nil, List.cons_append, Bool.and_true, Bool.true_and, Bool.or_false, Bool.false_or, Bool.and_false, Bool.or_true, Bool.true_or, Bool.false_and, eq_self]
        done
      | true =>
        rw [hS] at hbk
        simp only [pPick_v, pNil_v, pNil_f, pAdd_v, pSub_v, pMul_v, pAdd_s, pQuo_v, pRem_v, pBits_v, pShl_v, pShr_v, pLt_v, pLe_v, pGt_v, pGe_v, pEq_0, pNe_0, pEq_1, pNe_1, pEq_2, pNe_2, pEq_3n, pNe_3n, pEq_3s, pNe_3s, pEq_3t, pNe_3t, pEq_5n, pNe_5n, pEq_5s, pNe_5s, pEq_5t, pNe_5t, pEq_4n, pNe_4n, pEq_4s, pNe_4s, pNot_v, pNeg_v, pCom_v, pConv_v, pConvS_v, pMin_v, pMax_v, pFieldAddr_v, pField1_v, pFieldN_v, pExtract_v, pIdxArr_v, pIdxSl_v, pIdxStr_v, pBounds_00, pBounds_10, pBounds_01, pBounds_11, pSlStr_v, pSlSl_v, pSlArr_v, pLenS_v, pLen_v, pCap_v, pBuild_n, pBuild_c, cells_int, cells_str, cells_bool, cells_ptr, cells_slice, cells_map, cells_agg, oneCell_int, oneCell_str, oneCell_bool, oneCell_ptr, oneCell_slice, oneCell_map, putL_cons, putL_nil, pAnd_pure, pOr_pure, pAnd_pureE, pOr_pureE, pAnd_false, pOr_true, pCond_true, pCond_false, add_mk, bys_mk, bys_size, cond_true, cond_false, decide_true, decide_false, decide_not', dec_and, dec_or, dec_eqt, Bool.not_true, Bool.not_false, Option.isNone_none, Option.isNone_some, Option.map_some, Option.map_none, List.getElem?_toArray, List.getElem?_cons_zero, List.getElem?_cons_succ, List.size_toArray, List.length_cons, List.length_nil, List.length_replicate, List.set_cons_zero, List.set_cons_succ, Nat.reduceAdd, Nat.reduceMul, Nat.reduceSub, Nat.reduceLeDiff, Nat.zero_add, Nat.add_zero, Nat.zero_le, true_and, and_true, not_false_eq_true, ne_eq, Int.reduceNeg, Int.reduceEq, Int.reduceNe, Int.reduceLT, Int.reduceLE, le_refl', List.setIfInBounds_toArray, Nat.reduceLT, Array.size_setIfInBounds, if_true, if_false, reduceCtorEq, List.toArray_toList', List.drop_succ_cons, List.drop_zero, List.take_succ_cons, List.take_zero, List.nil_append, List.append_nil, List.cons_append, Bool.and_true, Bool.true_and, Bool.or_false, Bool.false_or, Bool.and_false, Bool.or_true, Bool.true_or, Bool.false_and, eq_self, cond_true] at hbk ⊢
        have h31 : 2 ^ (k + 1) ≤ 2 ^ 31 := Nat.pow_le_pow_right (by omega) (by omega)
        generalize 2 ^ k = P at *
        generalize 2 ^ (k + 1) = Q at *
        rw [wu32_mod]
        congr 1; omega
  · have hkl : k + 1 = S.length := by omega
    have hfin : bsum (thereS S) 31 = bsum (thereS S) k := bsum_above (by omega) fun j hj _ => by
      unfold thereS; rw [List.getElem?_eq_none (by omega)]; rfl
    rw [hfin] at h
    exact h _ e1
theorem txtV_set {i : Nat} {t : List UInt8} : (txtV S).set i (str t) = txtV (S.set i (some t)) := by simp [txtV, List.map_set]
theorem thV_set {i : Nat} {t : List UInt8} : (thV S).set i (.bool true) = thV (S.set i (some t)) := by simp [thV, List.map_set]
theorem refTake_spec {n : Int} {t : List UInt8} (hn0 : 0 ≤ n) (hn1 : n ≤ 4294967295) (hx0 : 0 ≤ next) (hx1 : next ≤ 4294967295) (ht : t.length ≤ 9223372036854775807) (hw : RefW H w next S) (hl : S.length ≤ 32)
    (hno : ¬ (t.length ≤ 256 ∧ S[place next n]? = some none) → ∀ w' H', (∀ k, footW w' k → footW w k ∨ H.size ≤ k) → RefW H' w' next S → Ext H H' → R (.tuple #[w', .bool false]) H')
    (hyes : t.length ≤ 256 → S[place next n]? = some none → ∀ w' H', (∀ k, footW w' k → footW w k ∨ H.size ≤ k) → RefW H' w' next (S.set (place next n) (some t)) → Ext H H' → R (.tuple #[w', .bool true]) H') : CallsH Try.prog 16 #[w, .int .u32 n, str t] H R := by
  obtain ⟨tv, bv, rfl, htv, hbv⟩ := hw.ex
  refine lighterref25_Take.vc _ _ _ _ _ ?_
  unfold lighterref25_Take.res
  refine (Owns.start (H := H)).box fun b1 H1 o _ => ?_
  change Owns H H1 [.box b1 [.int .u32 next, tv, bv] _] at o
  refine o.box fun b2 H2 o _ => ?_
  change Owns H H2 [.box b2 [.int .u32 0, .slice none 0 0, .slice none 0 0] _, .box b1 [.int .u32 next, tv, bv] _] at o
  have hto := htv.one
  have hbo := hbv.one
  refine pLenS_to ?_
  rw [pGt_v]
  refine pCond_if (fun hc => ?_) (fun hc => ?_)
  · refine o.bloadN (by repeat (first | exact List.mem_cons_self | apply List.mem_cons_of_mem)) rfl ?_
    refine o.bstoreN (vs := [_, _, _]) (by repeat (first | exact List.mem_cons_self | apply List.mem_cons_of_mem)) rfl rfl (all_cons rfl (all_cons hto (all_cons hbo rfl))) (by repeat (first | exact Rep.here | apply Rep.there)) fun H' o hs => ?_
    refine o.bloadN (by repeat (first | exact List.mem_cons_self | apply List.mem_cons_of_mem)) rfl ?_
    exact hno (fun h => by omega) _ _ (fun k hk => .inl hk) ⟨tv, bv, rfl, htv.ext o.ext, hbv.ext o.ext⟩ o.ext
  refine ⟨fun i H' => ∃ k : Nat, i = .int .i64 k ∧ k ≤ S.length ∧ (∀ j, j < k → ¬ (place next n = j ∧ S[j]? = some none)) ∧ H2 = H', fun i _ => match i with | .int _ x => (100 - x).toNat | _ => 0, ⟨0, rfl, by omega, fun j hj => by omega, rfl⟩, ?_⟩
  rintro _ _ _ ⟨k, rfl, hk, hk0, rfl⟩
  simp only [pPick_v, pNil_v, pNil_f, pAdd_v, pSub_v, pMul_v, pAdd_s, pQuo_v, pRem_v, pBits_v, pShl_v, pShr_v, pLt_v, pLe_v, pGt_v, pGe_v, pEq_0, pNe_0, pEq_1, pNe_1, pEq_2, pNe_2, pEq_3n, pNe_3n, pEq_3s, pNe_3s, pEq_3t, pNe_3t, pEq_5n, pNe_5n, pEq_5s, pNe_5s, pEq_5t, pNe_5t, pEq_4n, pNe_4n, pEq_4s, pNe_4s, pNot_v, pNeg_v, pCom_v, pConv_v, pConvS_v, pMin_v, pMax_v, pFieldAddr_v, pField1_v, pFieldN_v, pExtract_v, pIdxArr_v, pIdxSl_v, pIdxStr_v, pBounds_00, pBounds_10, pBounds_01, pBounds_11, pSlStr_v, pSlSl_v, pSlArr_v, pLenS_v, pLen_v, pCap_v, pBuild_n, pBuild_c, cells_int, cells_str, cells_bool, cells_ptr, cells_slice, cells_map, cells_agg, oneCell_int, oneCell_str, oneCell_bool, oneCell_ptr, oneCell_slice, oneCell_map, putL_cons, putL_nil, pAnd_pure, pOr_pure, pAnd_pureE, pOr_pureE, pAnd_false, pOr_true, pCond_true, pCond_false, add_mk, bys_mk, bys_size, cond_true, cond_false, decide_true, decide_false, decide_not', dec_and, dec_or, dec_eqt, Bool.not_true, Bool.not_false, Option.isNone_none, Option.isNone_some, Option.map_some, Option.map_none, List.getElem?_toArray, List.getElem?_cons_zero, List.getElem?_cons_succ, List.size_toArray, List.length_cons, List.length_nil, List.length_replicate, List.set_cons_zero, List.set_cons_succ, Nat.reduceAdd, Nat.reduceMul, Nat.reduceSub, Nat.reduceLeDiff, Nat.zero_add, Nat.add_zero, Nat.zero_le, true_and, and_true, not_false_eq_true, ne_eq, Int.reduceNeg, Int.reduceEq, Int.reduceNe, Int.reduceLT, Int.reduceLE, le_refl', List.setIfInBounds_toArray, Nat.reduceLT, Array.size_setIfInBounds, if_true, if_false, reduceCtorEq, List.toArray_toList', List.drop_succ_cons, List.drop_zero, List.take_succ_cons, List.take_zero, List.nil_append, List.append_nil, List.cons_append, Bool.and_true, Bool.true_and, Bool.or_false, Bool.false_or, Bool.and_false, Bool.or_true, Bool.true_or, Bool.false_and, eq_self]
  refine o.bload (by repeat (first | exact List.mem_cons_self | apply List.mem_cons_of_mem)) rfl ?_
  refine (hbv.ext o.ext).len (n := S.length) (by simp [thV_len]) (by decide) ?_
  rw [pLt_v]
  refine pCond_if (fun hc => ?_) (fun hc => ?_)
  rotate_left
  · refine o.bloadN (by repeat (first | exact List.mem_cons_self | apply List.mem_cons_of_mem)) rfl ?_
    refine o.bstoreN (vs := [_, _, _]) (by repeat (first | exact List.mem_cons_self | apply List.mem_cons_of_mem)) rfl rfl (all_cons rfl (all_cons hto (all_cons hbo rfl))) (by repeat (first | exact Rep.here | apply Rep.there)) fun H' o hs => ?_
    refine o.bloadN (by repeat (first | exact List.mem_cons_self | apply List.mem_cons_of_mem)) rfl ?_
    refine hno (fun h => ?_) _ _ (fun k hk => .inl hk) ⟨tv, bv, rfl, htv.ext o.ext, hbv.ext o.ext⟩ o.ext
    have := (List.getElem?_eq_some_iff.1 h.2).1
    exact hk0 (place next n) (by omega) ⟨rfl, h.2⟩
  have hlt : k < S.length := by omega
  refine o.bload (by repeat (first | exact List.mem_cons_self | apply List.mem_cons_of_mem)) rfl ?_
  simp only [pPick_v, pNil_v, pNil_f, pAdd_v, pSub_v, pMul_v, pAdd_s, pQuo_v, pRem_v, pBits_v, pShl_v, pShr_v, pLt_v, pLe_v, pGt_v, pGe_v, pEq_0, pNe_0, pEq_1, pNe_1, pEq_2, pNe_2, pEq_3n, pNe_3n, pEq_3s, pNe_3s, pEq_3t, pNe_3t, pEq_5n, pNe_5n, pEq_5s, pNe_5s, pEq_5t, pNe_5t, pEq_4n, pNe_4n, pEq_4s, pNe_4s, pNot_v, pNeg_v, pCom_v, pConv_v, pConvS_v, pMin_v, pMax_v, pFieldAddr_v, pField1_v, pFieldN_v, pExtract_v, pIdxArr_v, pIdxSl_v, pIdxStr_v, pBounds_00, pBounds_10, pBounds_01, pBounds_11, pSlStr_v, pSlSl_v, pSlArr_v, pLenS_v, pLen_v, pCap_v, pBuild_n, pBuild_c, cells_int, cells_str, cells_bool, cells_ptr, cells_slice, cells_map, cells_agg, oneCell_int, oneCell_str, oneCell_bool, oneCell_ptr, oneCell_slice, oneCell_map, putL_cons, putL_nil, pAnd_pure, pOr_pure, pAnd_pureE, pOr_pureE, pAnd_false, pOr_true, pCond_true, pCond_false, add_mk, bys_mk, bys_size, cond_true, cond_false, decide_true, decide_false, decide_not', dec_and, dec_or, dec_eqt, Bool.not_true, Bool.not_false, Option.isNone_none, Option.isNone_some, Option.map_some, Option.map_none, List.getElem?_toArray, List.getElem?_cons_zero, List.getElem?_cons_succ, List.size_toArray, List.length_cons, List.length_nil, List.length_replicate, List.set_cons_zero, List.set_cons_succ, Nat.reduceAdd, Nat.reduceMul, Nat.reduceSub, Nat.reduceLeDiff, Nat.zero_add, Nat.add_zero, Nat.zero_le, true_and, and_true, not_false_eq_true, ne_eq, Int.reduceNeg, Int.reduceEq, Int.reduceNe, Int.reduceLT, Int.reduceLE, le_refl', List.setIfInBounds_toArray, Nat.reduceLT, Array.size_setIfInBounds, if_true, if_false, reduceCtorEq, List.toArray_toList', List.drop_succ_cons, List.drop_zero, List.take_succ_cons, List.take_zero, List.nil_append, List.append_nil, List.cons_append, Bool.and_true, Bool.true_and, Bool.or_false, Bool.false_or, Bool.and_false, Bool.or_true, Bool.true_or, Bool.false_and, eq_self]
  have hpl : (IntKind.u32.wrap (next + IntKind.u32.wrap (k : Int)) = n) ↔ place next n = k := by
    rw [wu32_mod, wu32_mod]; unfold place; omega
  have hstep : ¬ (place next n = k ∧ S[k]? = some none) → (IntKind.i64.wrap ((k : Int) + 1) = ((k + 1 : Nat) : Int)) ∧ (∀ j, j < k + 1 → ¬ (place next n = j ∧ S[j]? = some none)) := fun h => ⟨by rw [w64 (by omega) (by omega)]; rfl, fun j hj => by
    by_cases hjk : j = k
    · subst hjk; exact h
    · exact hk0 j (by omega)⟩
  by_cases hp : place next n = k
  rotate_left
  · rw [decide_eq_false (fun h => hp (hpl.1 h)), pAnd_false]
    intro _
    rw [pCond_false]
    obtain ⟨e1, e2⟩ := hstep (fun h => hp h.1)
    rw [e1]
    exact ⟨⟨k + 1, rfl, by omega, e2, by trivial⟩, by show (_ : Int).toNat < (_ : Int).toNat; omega⟩
  rw [decide_eq_true (hpl.2 hp)]
  refine pAnd_true ?_
  refine o.bload (by repeat (first | exact List.mem_cons_self | apply List.mem_cons_of_mem)) rfl ?_
  refine (hbv.ext o.ext).at_ (n := S.length) (by simp [thV_len]) (by decide) (by omega) (by omega) fun p hp' => ?_
  refine hp'.load (hbv.ext o.ext) (w := .bool S[k].isSome) (by rw [Int.toNat_natCast, Nat.mul_one, thV_at hlt]) ?_
  rw [pNot_v]
  intro _
  cases hS : S[k] with
  | some u =>
    simp only [Option.isSome_some, Bool.not_true]
    rw [pCond_false]
    obtain ⟨e1, e2⟩ := hstep (fun h => by rw [List.getElem?_eq_getElem hlt, hS] at h; simp at h)
    rw [e1]
    exact ⟨⟨k + 1, rfl, by omega, e2, by trivial⟩, by show (_ : Int).toNat < (_ : Int).toNat; omega⟩
  | none =>
    simp only [Option.isSome_none, Bool.not_false]
    rw [pCond_true]
    have hSk : S[k]? = some none := by rw [List.getElem?_eq_getElem hlt, hS]
    subst hp
    refine o.build0 1 (by decide) fun y H' o => ?_
    refine o.bload (by repeat (first | exact List.mem_cons_self | apply List.mem_cons_of_mem)) rfl ?_
    refine o.app (by repeat (first | exact Sel.here | apply Sel.there)) (htv.ext o.ext) txtV_one (by simp only [txtV_len, List.length_nil]; omega) fun y H' o => ?_
    refine o.bstore (by repeat (first | exact List.mem_cons_self | apply List.mem_cons_of_mem)) (by simp) (o.sl (by repeat (first | exact List.mem_cons_self | apply List.mem_cons_of_mem))).one (by repeat (first | exact Rep.here | apply Rep.there)) fun H' o _ => ?_
    refine o.build0 1 (by decide) fun z H' o => ?_
    refine o.bload (by repeat (first | exact List.mem_cons_self | apply List.mem_cons_of_mem)) rfl ?_
    refine o.app (by repeat (first | exact Sel.here | apply Sel.there)) (hbv.ext o.ext) thV_one (by simp only [thV_len, List.length_nil]; omega) fun z H' o => ?_
    refine o.bstore (by repeat (first | exact List.mem_cons_self | apply List.mem_cons_of_mem)) (by simp) (o.sl (by repeat (first | exact List.mem_cons_self | apply List.mem_cons_of_mem))).one (by repeat (first | exact Rep.here | apply Rep.there)) fun H' o _ => ?_
    refine o.bload (by repeat (first | exact List.mem_cons_self | apply List.mem_cons_of_mem)) rfl ?_
    have hy := o.sl (v := y) (by repeat (first | exact List.mem_cons_self | apply List.mem_cons_of_mem))
    refine hy.at_ (n := S.length) (by simp [txtV_len]) (by decide) (by omega) (by omega) fun p hp => ?_
    refine o.store hp (by repeat (first | exact List.mem_cons_self | apply List.mem_cons_of_mem)) (by simp [txtV_len]; omega) rfl (by repeat (first | exact Rep.here | apply Rep.there)) fun H' o _ => ?_
    refine o.bload (by repeat (first | exact List.mem_cons_self | apply List.mem_cons_of_mem)) rfl ?_
    have hz := o.sl (v := z) (by repeat (first | exact List.mem_cons_self | apply List.mem_cons_of_mem))
    refine hz.at_ (n := S.length) (by simp [thV_len]) (by decide) (by omega) (by omega) fun p hp => ?_
    refine o.store hp (by repeat (first | exact List.mem_cons_self | apply List.mem_cons_of_mem)) (by simp [thV_len]; omega) rfl (by repeat (first | exact Rep.here | apply Rep.there)) fun H' o _ => ?_
    refine o.bloadN (by repeat (first | exact List.mem_cons_self | apply List.mem_cons_of_mem)) rfl ?_
    refine o.bstoreN (vs := [_, _, _]) (by repeat (first | exact List.mem_cons_self | apply List.mem_cons_of_mem)) rfl rfl (all_cons rfl (all_cons (o.sl (v := y) (by repeat (first | exact List.mem_cons_self | apply List.mem_cons_of_mem))).one (all_cons (o.sl (v := z) (by repeat (first | exact List.mem_cons_self | apply List.mem_cons_of_mem))).one rfl))) (by repeat (first | exact Rep.here | apply Rep.there)) fun H' o _ => ?_
    refine o.bloadN (by repeat (first | exact List.mem_cons_self | apply List.mem_cons_of_mem)) rfl ?_
    refine hyes (by omega) hSk _ _ (fun k hk => .inr ((footW_mk.1 hk).elim (o.newV (v := y) (by repeat (first | exact List.mem_cons_self | apply List.mem_cons_of_mem))) (o.newV (v := z) (by repeat (first | exact List.mem_cons_self | apply List.mem_cons_of_mem))))) ⟨y, z, rfl, ?_, ?_⟩ o.ext
    · have := o.sl (v := y) (by repeat (first | exact List.mem_cons_self | apply List.mem_cons_of_mem))
      rw [Int.toNat_natCast, Nat.mul_one, List.nil_append, txtV_set] at this
      exact this
    · have := o.sl (v := z) (by repeat (first | exact List.mem_cons_self | apply List.mem_cons_of_mem))
      rw [Int.toNat_natCast, Nat.mul_one, List.nil_append, thV_set (t := t)] at this
      exact this
set_option maxHeartbeats 8000000 in
theorem refStep_spec (hw : RefW H w next S) (h1 : 1 ≤ S.length) (hl : S.length ≤ 32) (hx0 : 0 ≤ next) (hx1 : next ≤ 4294967295)
    (hno : S[0]? = some none → ∀ w' H', (∀ k, footW w' k → footW w k ∨ H.size ≤ k) → RefW H' w' next S → Ext H H' → R (.tuple #[w', str [], .bool false]) H')
    (hyes : ∀ t S', S = some t :: S' → ∀ w' H', (∀ k, footW w' k → footW w k ∨ H.size ≤ k) → RefW H' w' (IntKind.u32.wrap (next + 1)) (S' ++ [none]) → Ext H H' → R (.tuple #[w', str t, .bool true]) H') : CallsH Try.prog 15 #[w] H R := by
  obtain ⟨tv, bv, rfl, htv, hbv⟩ := hw.ex
  refine lighterref25_Step.vc _ _ _ ?_
  unfold lighterref25_Step.res
  refine (Owns.start (H := H)).box fun b1 H1 o _ => ?_
  change Owns H H1 [.box b1 [.int .u32 next, tv, bv] _] at o
  refine o.box fun b2 H2 o _ => ?_
  change Owns H H2 [.box b2 [.int .u32 0, .slice none 0 0, .slice none 0 0] _, .box b1 [.int .u32 next, tv, bv] _] at o
  have hto := htv.one
  have hbo := hbv.one
  rw [pFieldAddr_v]
  refine o.bload (by repeat (first | exact List.mem_cons_self | apply List.mem_cons_of_mem)) rfl ?_
  refine (hbv.ext o.ext).at_ (n := S.length) (by simp [thV_len]) (by decide) (by omega) (by omega) fun p hp => ?_
  refine hp.load (hbv.ext o.ext) (w := .bool S[0].isSome) (by rw [show (0 : Int).toNat * 1 = 0 from rfl, thV_at h1]) ?_
  rw [pNot_v]
  match S, htv, hbv, h1, hl, hno, hyes with
  | none :: S', htv, hbv, h1, hl, hno, hyes =>
    simp only [List.getElem_cons_zero, Option.isSome_none, Bool.not_false]
    rw [pCond_true]
    refine o.bloadN (by repeat (first | exact List.mem_cons_self | apply List.mem_cons_of_mem)) rfl ?_
    refine o.bstoreN (vs := [_, _, _]) (by repeat (first | exact List.mem_cons_self | apply List.mem_cons_of_mem)) rfl rfl (all_cons rfl (all_cons hto (all_cons hbo rfl))) (by repeat (first | exact Rep.here | apply Rep.there)) fun H' o hs => ?_
    refine o.bloadN (by repeat (first | exact List.mem_cons_self | apply List.mem_cons_of_mem)) rfl ?_
    exact hno rfl _ _ (fun k hk => .inl hk) ⟨tv, bv, rfl, htv.ext o.ext, hbv.ext o.ext⟩ o.ext
  | some t :: S', htv, hbv, h1, hl, hno, hyes =>
    have hk := hyes t S' rfl
    clear hno hyes
    rw [List.getElem_cons_zero, Option.isSome_some, Bool.not_true, pCond_false, pFieldAddr_v, add_mk]
    refine o.bload (by repeat (first | exact List.mem_cons_self | apply List.mem_cons_of_mem)) rfl ?_
    refine (htv.ext o.ext).at_ (n := S'.length + 1) (by simp [txtV_len]) (by decide) (by omega) (by omega) fun p hp => ?_
    refine hp.load (htv.ext o.ext) (w := str t) rfl ?_
    rw [pFieldAddr_v, add_mk]
    refine o.bload (by repeat (first | exact List.mem_cons_self | apply List.mem_cons_of_mem)) rfl ?_
    rw [pAdd_v, pFieldAddr_v, add_mk]
    refine o.bload (by repeat (first | exact List.mem_cons_self | apply List.mem_cons_of_mem)) rfl ?_
    refine htv.cut (n := S'.length + 1) (lo := 1) (hi := S'.length + 1) (by decide) (by simp [txtV_len]) (by omega) (by omega) (fun x22 h22 => ?_) (.inl rfl) (.inr ⟨rfl, rfl⟩)
    rw [pFieldAddr_v, add_mk]
    refine o.bload (by repeat (first | exact List.mem_cons_self | apply List.mem_cons_of_mem)) rfl ?_
    refine hbv.cut (n := S'.length + 1) (lo := 1) (hi := S'.length + 1) (by decide) (by simp [thV_len]) (by omega) (by omega) (fun x29 h29 => ?_) (.inl rfl) (.inr ⟨rfl, rfl⟩)
    have h22' : Sl H x22 1 (txtV S') := by
      have e : (((txtV (some t :: S')).drop (1 * 1)).take ((S'.length + 1 - 1) * 1)) = txtV S' := by
        show (txtV S').take _ = _
        rw [List.take_of_length_le (by simp [txtV_len])]
      rw [← e]; exact h22
    have h29' : Sl H x29 1 (thV S') := by
      have e : (((thV (some t :: S')).drop (1 * 1)).take ((S'.length + 1 - 1) * 1)) = thV S' := by
        show (thV S').take _ = _
        rw [List.take_of_length_le (by simp [thV_len])]
      rw [← e]; exact h29
    clear h22 h29
    have hS' : S'.length ≤ 31 := by simp at hl; omega
    have et : txtV S' ++ [str []] = txtV (S' ++ [none]) := by simp [txtV]
    have eb : thV S' ++ [.bool false] = thV (S' ++ [none]) := by simp [thV]
    have c22 := h22'
    have c29 := h29'
    repeat' (first
      | (with_reducible apply And.intro)
      | (with_reducible refine o.bload (by repeat (first | exact List.mem_cons_self | apply List.mem_cons_of_mem)) rfl ?_; rfl)
      | (with_reducible refine o.build0 1 (by decide) fun y H' o => ?_)
      | (with_reducible refine o.build1 (by decide) rfl rfl fun y H' o => ?_)
      | (with_reducible refine o.app (by repeat (first | exact Sel.here | apply Sel.there)) (c22.ext o.ext) txtV_one (by simp only [txtV_len, List.length_nil]; omega) fun y H' o => ?_)
      | (with_reducible refine o.app (by repeat (first | exact Sel.here | apply Sel.there)) (c29.ext o.ext) thV_one (by simp only [thV_len, List.length_nil]; omega) fun y H' o => ?_)
      | (with_reducible refine o.app (by repeat (first | exact Sel.here | apply Sel.there)) (o.sl (by repeat (first | exact List.mem_cons_self | apply List.mem_cons_of_mem))) rfl (by simp [txtV_len, thV_len, cells_str, cells_bool]; omega) fun y H' o => ?_)
      | (with_reducible refine pBuild_three rfl (o.sl (by repeat (first | exact List.mem_cons_self | apply List.mem_cons_of_mem))).one (o.sl (by repeat (first | exact List.mem_cons_self | apply List.mem_cons_of_mem))).one ?_)
      | (with_reducible refine o.bstoreN (vs := [_, _, _]) (by repeat (first | exact List.mem_cons_self | apply List.mem_cons_of_mem)) rfl rfl (all_cons rfl (all_cons (o.sl (by repeat (first | exact List.mem_cons_self | apply List.mem_cons_of_mem))).one (all_cons (o.sl (by repeat (first | exact List.mem_cons_self | apply List.mem_cons_of_mem))).one rfl))) (by repeat (first | exact Rep.here | apply Rep.there)) fun H' o hs => ?_)
      | (with_reducible refine o.bloadN (by repeat (first | exact List.mem_cons_self | apply List.mem_cons_of_mem)) rfl ?_)
      | (with_reducible refine hk _ _ (fun k hk => .inr ((footW_mk.1 hk).elim (o.newV (by repeat (first | exact List.mem_cons_self | apply List.mem_cons_of_mem))) (o.newV (by repeat (first | exact List.mem_cons_self | apply List.mem_cons_of_mem))))) ⟨_, _, rfl, ?_, ?_⟩ o.ext)
      | (with_reducible first | rw [← et] | rw [← eb]))
    all_goals first | exact o.sl (by repeat (first | exact List.mem_cons_self | apply List.mem_cons_of_mem)) | (trace_state; sorry)
end Go.Proofs.Ytmolkhfohpfhaaa
