/- Contracts of package recv. -/
import Derived.Test.YtmolkhfohpfhaaaSend
import Derived.Test.YtmolkhfohpfhaaaBitNat
import Derived.Test.YtmolkhfohpfhaaaResRecv
namespace Go.Proofs.Ytmolkhfohpfhaaa
open Go Go.Vc Go.Proofs
set_option linter.unusedVariables false
set_option linter.unusedSimpArgs false
variable {H : Heap} {R : Value → Heap → Prop}
/-- texts that wait, from the next number on -/
abbrev Slots := List (Option (List UInt8))
def place (next n : Int) : Nat := ((n - next) % 4294967296).toNat
def slotAt (S : Slots) (next : Int) : Int → Option Value := fun n => if 0 ≤ n ∧ n ≤ 4294967295 then ((S[place next n]?).join).map fun t => str t else none
def heldL : Slots → Nat
  | [] => 0
  | none :: S => heldL S
  | some t :: S => t.length + heldL S
theorem heldL_append (S T : Slots) : heldL (S ++ T) = heldL S + heldL T := by
  induction S with
  | nil => simp [heldL]
  | cons o S ih => cases o <;> simp [heldL, ih]; omega
theorem heldL_le : ∀ (S : Slots), (∀ t, some t ∈ S → t.length ≤ 256) → heldL S ≤ 256 * S.length
  | [], _ => by simp [heldL]
  | none :: S, h => by have := heldL_le S (fun t ht => h t (by simp [ht])); simp only [heldL, List.length_cons]; omega
  | some t :: S, h => by have := heldL_le S (fun t ht => h t (by simp [ht])); have := h t (by simp); simp only [heldL, List.length_cons]; omega
theorem heldL_none (n : Nat) : heldL (List.replicate n none) = 0 := by
  induction n with
  | zero => rfl
  | succ n ih => rw [List.replicate_succ, heldL, ih]
theorem heldL_set {t : List UInt8} : ∀ (S : Slots) (k : Nat), S[k]? = some none → heldL (S.set k (some t)) = heldL S + t.length
  | [], k, h => by simp at h
  | o :: S, 0, h => by
    simp only [List.getElem?_cons_zero, Option.some.injEq] at h
    subst h
    simp only [List.set_cons_zero, heldL]; omega
  | o :: S, k + 1, h => by
    simp only [List.getElem?_cons_succ] at h
    have := heldL_set (t := t) S k h
    cases o <;> simp only [List.set_cons_succ, heldL] <;> omega
abbrev robj (next size : Int) (r : Nat) (held : Int) : Obj := .cells [.int .u32 next, .int .i64 size, .map (some r), .int .i64 held].toArray 81 (0, 0)
structure Rcv (H : Heap) (b r : Nat) (next size : Int) (S : Slots) : Prop where
  blk : H[b]? = some (robj next size r (heldL S))
  map : MapAt (intKeys .u32) H r (slotAt S next)
  ne : b ≠ r
  n0 : 0 ≤ next
  n1 : next ≤ 4294967295
  len : (S.length : Int) = size
  s0 : 1 ≤ size
  s1 : size ≤ 32
  small : ∀ t, some t ∈ S → t.length ≤ 256
variable {b r : Nat} {next size : Int} {S : Slots}
theorem Rcv.ext {H' : Heap} (h : Rcv H b r next size S) (hx : Ext H H') : Rcv H' b r next size S :=
  { h with blk := hx.blk h.blk, map := h.map.ext hx }
theorem Rcv.held (h : Rcv H b r next size S) : heldL S ≤ 8192 := by
  have := heldL_le S h.small
  have := h.len
  have := h.s1
  omega
theorem rNew_spec {n s : Int} (hn : 0 ≤ n) (hn1 : n ≤ 4294967295) (hok : 1 ≤ s ∧ s ≤ 32)
    (h : ∀ H' b r, Rcv H' b r n s (List.replicate s.toNat none) → Ext H H' → H.size ≤ b → H.size ≤ r → R (.tuple #[sptr b, .int .i64 0]) H') : CallsH Try.prog 12 #[.int .u32 n, .int .i64 s] H R := by
  refine recv_New.vc _ _ _ _ ?_
  unfold recv_New.res
  simp only [pPick_v, pNil_v, pNil_f, pAdd_v, pSub_v, pMul_v, pAdd_s, pQuo_v, pRem_v, pBits_v, pShl_v, pShr_v, pLt_v, pLe_v, pGt_v, pGe_v, pEq_0, pNe_0, pEq_1, pNe_1, pEq_2, pNe_2, pEq_3n, pNe_3n, pEq_3s, pNe_3s, pEq_3t, pNe_3t, pEq_5n, pNe_5n, pEq_5s, pNe_5s, pEq_5t, pNe_5t, pEq_4n, pNe_4n, pEq_4s, pNe_4s, pNot_v, pNeg_v, pCom_v, pConv_v, pConvS_v, pMin_v, pMax_v, pFieldAddr_v, pField1_v, pFieldN_v, pExtract_v, pIdxArr_v, pIdxSl_v, pIdxStr_v, pBounds_00, pBounds_10, pBounds_01, pBounds_11, pSlStr_v, pSlSl_v, pSlArr_v, pLenS_v, pLen_v, pCap_v, pBuild_n, pBuild_c, cells_int, cells_str, cells_bool, cells_ptr, cells_slice, cells_map, cells_agg, oneCell_int, oneCell_str, oneCell_bool, oneCell_ptr, oneCell_slice, oneCell_map, putL_cons, putL_nil, pAnd_pure, pOr_pure, pAnd_pureE, pOr_pureE, pAnd_false, pOr_true, pCond_true, pCond_false, add_mk, bys_mk, bys_size, cond_true, cond_false, decide_true, decide_false, decide_not', dec_and, dec_or, dec_eqt, Bool.not_true, Bool.not_false, Option.isNone_none, Option.isNone_some, Option.map_some, Option.map_none, List.getElem?_toArray, List.getElem?_cons_zero, List.getElem?_cons_succ, List.size_toArray, List.length_cons, List.length_nil, List.length_replicate, List.set_cons_zero, List.set_cons_succ, Nat.reduceAdd, Nat.reduceMul, Nat.reduceSub, Nat.reduceLeDiff, Nat.zero_add, Nat.add_zero, Nat.zero_le, true_and, and_true, not_false_eq_true, ne_eq, Int.reduceNeg, Int.reduceEq, Int.reduceNe, Int.reduceLT, Int.reduceLE, le_refl', List.setIfInBounds_toArray, Nat.reduceLT, Array.size_setIfInBounds, if_true, if_false, reduceCtorEq, List.toArray_toList', List.drop_succ_cons, List.drop_zero, List.take_succ_cons, List.take_zero, List.nil_append, List.append_nil, List.cons_append, Bool.and_true, Bool.true_and, Bool.or_false, Bool.false_or, Bool.and_false, Bool.or_true, Bool.true_or, Bool.false_and, eq_self]
  intros
  refine pCond_if (fun hc => by omega) (fun hc => ?_)
  refine map_make (intKeys .u32) fun H1 m1 e1 s1 => ?_
  simp only [pPick_v, pNil_v, pNil_f, pAdd_v, pSub_v, pMul_v, pAdd_s, pQuo_v, pRem_v, pBits_v, pShl_v, pShr_v, pLt_v, pLe_v, pGt_v, pGe_v, pEq_0, pNe_0, pEq_1, pNe_1, pEq_2, pNe_2, pEq_3n, pNe_3n, pEq_3s, pNe_3s, pEq_3t, pNe_3t, pEq_5n, pNe_5n, pEq_5s, pNe_5s, pEq_5t, pNe_5t, pEq_4n, pNe_4n, pEq_4s, pNe_4s, pNot_v, pNeg_v, pCom_v, pConv_v, pConvS_v, pMin_v, pMax_v, pFieldAddr_v, pField1_v, pFieldN_v, pExtract_v, pIdxArr_v, pIdxSl_v, pIdxStr_v, pBounds_00, pBounds_10, pBounds_01, pBounds_11, pSlStr_v, pSlSl_v, pSlArr_v, pLenS_v, pLen_v, pCap_v, pBuild_n, pBuild_c, cells_int, cells_str, cells_bool, cells_ptr, cells_slice, cells_map, cells_agg, oneCell_int, oneCell_str, oneCell_bool, oneCell_ptr, oneCell_slice, oneCell_map, putL_cons, putL_nil, pAnd_pure, pOr_pure, pAnd_pureE, pOr_pureE, pAnd_false, pOr_true, pCond_true, pCond_false, add_mk, bys_mk, bys_size, cond_true, cond_false, decide_true, decide_false, decide_not', dec_and, dec_or, dec_eqt, Bool.not_true, Bool.not_false, Option.isNone_none, Option.isNone_some, Option.map_some, Option.map_none, List.getElem?_toArray, List.getElem?_cons_zero, List.getElem?_cons_succ, List.size_toArray, List.length_cons, List.length_nil, List.length_replicate, List.set_cons_zero, List.set_cons_succ, Nat.reduceAdd, Nat.reduceMul, Nat.reduceSub, Nat.reduceLeDiff, Nat.zero_add, Nat.add_zero, Nat.zero_le, true_and, and_true, not_false_eq_true, ne_eq, Int.reduceNeg, Int.reduceEq, Int.reduceNe, Int.reduceLT, Int.reduceLE, le_refl', List.setIfInBounds_toArray, Nat.reduceLT, Array.size_setIfInBounds, if_true, if_false, reduceCtorEq, List.toArray_toList', List.drop_succ_cons, List.drop_zero, List.take_succ_cons, List.take_zero, List.nil_append, List.append_nil, List.cons_append, Bool.and_true, Bool.true_and, Bool.or_false, Bool.false_or, Bool.and_false, Bool.or_true, Bool.true_or, Bool.false_and, eq_self]
  refine pBox_ext fun H2 s2 e2 b2 => ?_
  refine h H2 H1.size H.size ⟨?_, ?_, by omega, hn, hn1, by simp; omega, hok.1, hok.2, by simp⟩ (e1.trans e2) e1.size (Nat.le_refl _)
  · rw [heldL_none]; exact b2
  have : slotAt (List.replicate s.toNat none) n = fun _ => none := by
    funext a
    unfold slotAt
    rw [List.getElem?_replicate]
    split
    · split <;> rfl
    · rfl
  rw [this]
  exact m1.ext e2
theorem rNew_no {n s : Int} (hno : ¬ (1 ≤ s ∧ s ≤ 32)) (h : R (.tuple #[.pointer none, .int .i64 1]) H) : CallsH Try.prog 12 #[.int .u32 n, .int .i64 s] H R := by
  refine recv_New.vc _ _ _ _ ?_
  unfold recv_New.res
  simp only [pPick_v, pNil_v, pNil_f, pAdd_v, pSub_v, pMul_v, pAdd_s, pQuo_v, pRem_v, pBits_v, pShl_v, pShr_v, pLt_v, pLe_v, pGt_v, pGe_v, pEq_0, pNe_0, pEq_1, pNe_1, pEq_2, pNe_2, pEq_3n, pNe_3n, pEq_3s, pNe_3s, pEq_3t, pNe_3t, pEq_5n, pNe_5n, pEq_5s, pNe_5s, pEq_5t, pNe_5t, pEq_4n, pNe_4n, pEq_4s, pNe_4s, pNot_v, pNeg_v, pCom_v, pConv_v, pConvS_v, pMin_v, pMax_v, pFieldAddr_v, pField1_v, pFieldN_v, pExtract_v, pIdxArr_v, pIdxSl_v, pIdxStr_v, pBounds_00, pBounds_10, pBounds_01, pBounds_11, pSlStr_v, pSlSl_v, pSlArr_v, pLenS_v, pLen_v, pCap_v, pBuild_n, pBuild_c, cells_int, cells_str, cells_bool, cells_ptr, cells_slice, cells_map, cells_agg, oneCell_int, oneCell_str, oneCell_bool, oneCell_ptr, oneCell_slice, oneCell_map, putL_cons, putL_nil, pAnd_pure, pOr_pure, pAnd_pureE, pOr_pureE, pAnd_false, pOr_true, pCond_true, pCond_false, add_mk, bys_mk, bys_size, cond_true, cond_false, decide_true, decide_false, decide_not', dec_and, dec_or, dec_eqt, Bool.not_true, Bool.not_false, Option.isNone_none, Option.isNone_some, Option.map_some, Option.map_none, List.getElem?_toArray, List.getElem?_cons_zero, List.getElem?_cons_succ, List.size_toArray, List.length_cons, List.length_nil, List.length_replicate, List.set_cons_zero, List.set_cons_succ, Nat.reduceAdd, Nat.reduceMul, Nat.reduceSub, Nat.reduceLeDiff, Nat.zero_add, Nat.add_zero, Nat.zero_le, true_and, and_true, not_false_eq_true, ne_eq, Int.reduceNeg, Int.reduceEq, Int.reduceNe, Int.reduceLT, Int.reduceLE, le_refl', List.setIfInBounds_toArray, Nat.reduceLT, Array.size_setIfInBounds, if_true, if_false, reduceCtorEq, List.toArray_toList', List.drop_succ_cons, List.drop_zero, List.take_succ_cons, List.take_zero, List.nil_append, List.append_nil, List.cons_append, Bool.and_true, Bool.true_and, Bool.or_false, Bool.false_or, Bool.and_false, Bool.or_true, Bool.true_or, Bool.false_and, eq_self]
  intros
  exact pCond_if (fun hc => h) (fun hc => by omega)
theorem rHeld_nil (h : R (.int .i64 0) H) : CallsH Try.prog 20 #[.pointer none] H R := by
  refine recv_Window_Held.vc _ _ _ ?_
  unfold recv_Window_Held.res
  simp only [pPick_v, pNil_v, pNil_f, pAdd_v, pSub_v, pMul_v, pAdd_s, pQuo_v, pRem_v, pBits_v, pShl_v, pShr_v, pLt_v, pLe_v, pGt_v, pGe_v, pEq_0, pNe_0, pEq_1, pNe_1, pEq_2, pNe_2, pEq_3n, pNe_3n, pEq_3s, pNe_3s, pEq_3t, pNe_3t, pEq_5n, pNe_5n, pEq_5s, pNe_5s, pEq_5t, pNe_5t, pEq_4n, pNe_4n, pEq_4s, pNe_4s, pNot_v, pNeg_v, pCom_v, pConv_v, pConvS_v, pMin_v, pMax_v, pFieldAddr_v, pField1_v, pFieldN_v, pExtract_v, pIdxArr_v, pIdxSl_v, pIdxStr_v, pBounds_00, pBounds_10, pBounds_01, pBounds_11, pSlStr_v, pSlSl_v, pSlArr_v, pLenS_v, pLen_v, pCap_v, pBuild_n, pBuild_c, cells_int, cells_str, cells_bool, cells_ptr, cells_slice, cells_map, cells_agg, oneCell_int, oneCell_str, oneCell_bool, oneCell_ptr, oneCell_slice, oneCell_map, putL_cons, putL_nil, pAnd_pure, pOr_pure, pAnd_pureE, pOr_pureE, pAnd_false, pOr_true, pCond_true, pCond_false, add_mk, bys_mk, bys_size, cond_true, cond_false, decide_true, decide_false, decide_not', dec_and, dec_or, dec_eqt, Bool.not_true, Bool.not_false, Option.isNone_none, Option.isNone_some, Option.map_some, Option.map_none, List.getElem?_toArray, List.getElem?_cons_zero, List.getElem?_cons_succ, List.size_toArray, List.length_cons, List.length_nil, List.length_replicate, List.set_cons_zero, List.set_cons_succ, Nat.reduceAdd, Nat.reduceMul, Nat.reduceSub, Nat.reduceLeDiff, Nat.zero_add, Nat.add_zero, Nat.zero_le, true_and, and_true, not_false_eq_true, ne_eq, Int.reduceNeg, Int.reduceEq, Int.reduceNe, Int.reduceLT, Int.reduceLE, le_refl', List.setIfInBounds_toArray, Nat.reduceLT, Array.size_setIfInBounds, if_true, if_false, reduceCtorEq, List.toArray_toList', List.drop_succ_cons, List.drop_zero, List.take_succ_cons, List.take_zero, List.nil_append, List.append_nil, List.cons_append, Bool.and_true, Bool.true_and, Bool.or_false, Bool.false_or, Bool.and_false, Bool.or_true, Bool.true_or, Bool.false_and, eq_self]
  exact h
theorem rHeld_spec (hw : Rcv H b r next size S) (h : R (.int .i64 (heldL S)) H) : CallsH Try.prog 20 #[sptr b] H R := by
  refine recv_Window_Held.vc _ _ _ ?_
  unfold recv_Window_Held.res
  simp only [pPick_v, pNil_v, pNil_f, pAdd_v, pSub_v, pMul_v, pAdd_s, pQuo_v, pRem_v, pBits_v, pShl_v, pShr_v, pLt_v, pLe_v, pGt_v, pGe_v, pEq_0, pNe_0, pEq_1, pNe_1, pEq_2, pNe_2, pEq_3n, pNe_3n, pEq_3s, pNe_3s, pEq_3t, pNe_3t, pEq_5n, pNe_5n, pEq_5s, pNe_5s, pEq_5t, pNe_5t, pEq_4n, pNe_4n, pEq_4s, pNe_4s, pNot_v, pNeg_v, pCom_v, pConv_v, pConvS_v, pMin_v, pMax_v, pFieldAddr_v, pField1_v, pFieldN_v, pExtract_v, pIdxArr_v, pIdxSl_v, pIdxStr_v, pBounds_00, pBounds_10, pBounds_01, pBounds_11, pSlStr_v, pSlSl_v, pSlArr_v, pLenS_v, pLen_v, pCap_v, pBuild_n, pBuild_c, cells_int, cells_str, cells_bool, cells_ptr, cells_slice, cells_map, cells_agg, oneCell_int, oneCell_str, oneCell_bool, oneCell_ptr, oneCell_slice, oneCell_map, putL_cons, putL_nil, pAnd_pure, pOr_pure, pAnd_pureE, pOr_pureE, pAnd_false, pOr_true, pCond_true, pCond_false, add_mk, bys_mk, bys_size, cond_true, cond_false, decide_true, decide_false, decide_not', dec_and, dec_or, dec_eqt, Bool.not_true, Bool.not_false, Option.isNone_none, Option.isNone_some, Option.map_some, Option.map_none, List.getElem?_toArray, List.getElem?_cons_zero, List.getElem?_cons_succ, List.size_toArray, List.length_cons, List.length_nil, List.length_replicate, List.set_cons_zero, List.set_cons_succ, Nat.reduceAdd, Nat.reduceMul, Nat.reduceSub, Nat.reduceLeDiff, Nat.zero_add, Nat.add_zero, Nat.zero_le, true_and, and_true, not_false_eq_true, ne_eq, Int.reduceNeg, Int.reduceEq, Int.reduceNe, Int.reduceLT, Int.reduceLE, le_refl', List.setIfInBounds_toArray, Nat.reduceLT, Array.size_setIfInBounds, if_true, if_false, reduceCtorEq, List.toArray_toList', List.drop_succ_cons, List.drop_zero, List.take_succ_cons, List.take_zero, List.nil_append, List.append_nil, List.cons_append, Bool.and_true, Bool.true_and, Bool.or_false, Bool.false_or, Bool.and_false, Bool.or_true, Bool.true_or, Bool.false_and, eq_self, pLoad_at hw.blk]
  exact h
theorem rTake_nil {n : Int} {t : List UInt8} (h : R (.bool false) H) : CallsH Try.prog 17 #[.pointer none, .int .u32 n, str t] H R := by
  refine recv_Window_Take.vc _ _ _ _ _ ?_
  unfold recv_Window_Take.res
  simp only [pPick_v, pNil_v, pNil_f, pAdd_v, pSub_v, pMul_v, pAdd_s, pQuo_v, pRem_v, pBits_v, pShl_v, pShr_v, pLt_v, pLe_v, pGt_v, pGe_v, pEq_0, pNe_0, pEq_1, pNe_1, pEq_2, pNe_2, pEq_3n, pNe_3n, pEq_3s, pNe_3s, pEq_3t, pNe_3t, pEq_5n, pNe_5n, pEq_5s, pNe_5s, pEq_5t, pNe_5t, pEq_4n, pNe_4n, pEq_4s, pNe_4s, pNot_v, pNeg_v, pCom_v, pConv_v, pConvS_v, pMin_v, pMax_v, pFieldAddr_v, pField1_v, pFieldN_v, pExtract_v, pIdxArr_v, pIdxSl_v, pIdxStr_v, pBounds_00, pBounds_10, pBounds_01, pBounds_11, pSlStr_v, pSlSl_v, pSlArr_v, pLenS_v, pLen_v, pCap_v, pBuild_n, pBuild_c, cells_int, cells_str, cells_bool, cells_ptr, cells_slice, cells_map, cells_agg, oneCell_int, oneCell_str, oneCell_bool, oneCell_ptr, oneCell_slice, oneCell_map, putL_cons, putL_nil, pAnd_pure, pOr_pure, pAnd_pureE, pOr_pureE, pAnd_false, pOr_true, pCond_true, pCond_false, add_mk, bys_mk, bys_size, cond_true, cond_false, decide_true, decide_false, decide_not', dec_and, dec_or, dec_eqt, Bool.not_true, Bool.not_false, Option.isNone_none, Option.isNone_some, Option.map_some, Option.map_none, List.getElem?_toArray, List.getElem?_cons_zero, List.getElem?_cons_succ, List.size_toArray, List.length_cons, List.length_nil, List.length_replicate, List.set_cons_zero, List.set_cons_succ, Nat.reduceAdd, Nat.reduceMul, Nat.reduceSub, Nat.reduceLeDiff, Nat.zero_add, Nat.add_zero, Nat.zero_le, true_and, and_true, not_false_eq_true, ne_eq, Int.reduceNeg, Int.reduceEq, Int.reduceNe, Int.reduceLT, Int.reduceLE, le_refl', List.setIfInBounds_toArray, Nat.reduceLT, Array.size_setIfInBounds, if_true, if_false, reduceCtorEq, List.toArray_toList', List.drop_succ_cons, List.drop_zero, List.take_succ_cons, List.take_zero, List.nil_append, List.append_nil, List.cons_append, Bool.and_true, Bool.true_and, Bool.or_false, Bool.false_or, Bool.and_false, Bool.or_true, Bool.true_or, Bool.false_and, eq_self]
  intros
  exact h
theorem place_range (next n : Int) : 0 ≤ (n - next) % 4294967296 ∧ (n - next) % 4294967296 ≤ 4294967295 := by omega
theorem slotAt_at {n : Int} (h0 : 0 ≤ n) (h1 : n ≤ 4294967295) : slotAt S next n = ((S[place next n]?).join).map fun t => str t := by
  unfold slotAt; rw [if_pos ⟨h0, h1⟩]
theorem slotAt_set {n : Int} {t : List UInt8} (h0 : 0 ≤ n) (h1 : n ≤ 4294967295) (hn0 : 0 ≤ next) (hn1 : next ≤ 4294967295) (hp : place next n < S.length) :
    mset (intKeys .u32) (slotAt S next) n (some (str t)) = slotAt (S.set (place next n) (some t)) next := by
  funext a
  by_cases ha : a = n
  · subst ha
    rw [mset_self, slotAt_at h0 h1, List.getElem?_set_self hp]; rfl
  · rw [mset_ne _ ha]
    unfold slotAt
    split
    · rename_i hr
      rw [List.getElem?_set_ne]
      unfold place
      omega
    · rfl
theorem rTake_spec {n : Int} {t : List UInt8} (hn0 : 0 ≤ n) (hn1 : n ≤ 4294967295) (ht : t.length ≤ 9223372036854775807) (hw : Rcv H b r next size S)
    (hno : ¬ (t.length ≤ 256 ∧ S[place next n]? = some none) → R (.bool false) H)
    (hyes : t.length ≤ 256 → S[place next n]? = some none → ∀ H', Rcv H' b r next size (S.set (place next n) (some t)) → Only b r H H' → R (.bool true) H') : CallsH Try.prog 17 #[sptr b, .int .u32 n, str t] H R := by
  obtain ⟨_, _, hne, n0, n1, hl, s0, s1, hsm⟩ := id hw
  have hr := place_range next n
  refine recv_Window_Take.vc _ _ _ _ _ ?_
  unfold recv_Window_Take.res
  simp only [pPick_v, pNil_v, pNil_f, pAdd_v, pSub_v, pMul_v, pAdd_s, pQuo_v, pRem_v, pBits_v, pShl_v, pShr_v, pLt_v, pLe_v, pGt_v, pGe_v, pEq_0, pNe_0, pEq_1, pNe_1, pEq_2, pNe_2, pEq_3n, pNe_3n, pEq_3s, pNe_3s, pEq_3t, pNe_3t, pEq_5n, pNe_5n, pEq_5s, pNe_5s, pEq_5t, pNe_5t, pEq_4n, pNe_4n, pEq_4s, pNe_4s, pNot_v, pNeg_v, pCom_v, pConv_v, pConvS_v, pMin_v, pMax_v, pFieldAddr_v, pField1_v, pFieldN_v, pExtract_v, pIdxArr_v, pIdxSl_v, pIdxStr_v, pBounds_00, pBounds_10, pBounds_01, pBounds_11, pSlStr_v, pSlSl_v, pSlArr_v, pLenS_v, pLen_v, pCap_v, pBuild_n, pBuild_c, cells_int, cells_str, cells_bool, cells_ptr, cells_slice, cells_map, cells_agg, oneCell_int, oneCell_str, oneCell_bool, oneCell_ptr, oneCell_slice, oneCell_map, putL_cons, putL_nil, pAnd_pure, pOr_pure, pAnd_pureE, pOr_pureE, pAnd_false, pOr_true, pCond_true, pCond_false, add_mk, bys_mk, bys_size, cond_true, cond_false, decide_true, decide_false, decide_not', dec_and, dec_or, dec_eqt, Bool.not_true, Bool.not_false, Option.isNone_none, Option.isNone_some, Option.map_some, Option.map_none, List.getElem?_toArray, List.getElem?_cons_zero, List.getElem?_cons_succ, List.size_toArray, List.length_cons, List.length_nil, List.length_replicate, List.set_cons_zero, List.set_cons_succ, Nat.reduceAdd, Nat.reduceMul, Nat.reduceSub, Nat.reduceLeDiff, Nat.zero_add, Nat.add_zero, Nat.zero_le, true_and, and_true, not_false_eq_true, ne_eq, Int.reduceNeg, Int.reduceEq, Int.reduceNe, Int.reduceLT, Int.reduceLE, le_refl', List.setIfInBounds_toArray, Nat.reduceLT, Array.size_setIfInBounds, if_true, if_false, reduceCtorEq, List.toArray_toList', List.drop_succ_cons, List.drop_zero, List.take_succ_cons, List.take_zero, List.nil_append, List.append_nil, List.cons_append, Bool.and_true, Bool.true_and, Bool.or_false, Bool.false_or, Bool.and_false, Bool.or_true, Bool.true_or, Bool.false_and, eq_self, pLoad_at hw.blk]
  refine fun _ => ?_
  by_cases hlen : t.length ≤ 256
  rotate_left
  · rw [decide_eq_true (by omega)]
    simp only [pPick_v, pNil_v, pNil_f, pAdd_v, pSub_v, pMul_v, pAdd_s, pQuo_v, pRem_v, pBits_v, pShl_v, pShr_v, pLt_v, pLe_v, pGt_v, pGe_v, pEq_0, pNe_0, pEq_1, pNe_1, pEq_2, pNe_2, pEq_3n, pNe_3n, pEq_3s, pNe_3s, pEq_3t, pNe_3t, pEq_5n, pNe_5n, pEq_5s, pNe_5s, pEq_5t, pNe_5t, pEq_4n, pNe_4n, pEq_4s, pNe_4s, pNot_v, pNeg_v, pCom_v, pConv_v, pConvS_v, pMin_v, pMax_v, pFieldAddr_v, pField1_v, pFieldN_v, pExtract_v, pIdxArr_v, pIdxSl_v, pIdxStr_v, pBounds_00, pBounds_10, pBounds_01, pBounds_11, pSlStr_v, pSlSl_v, pSlArr_v, pLenS_v, pLen_v, pCap_v, pBuild_n, pBuild_c, cells_int, cells_str, cells_bool, cells_ptr, cells_slice, cells_map, cells_agg, oneCell_int, oneCell_str, oneCell_bool, oneCell_ptr, oneCell_slice, oneCell_map, putL_cons, putL_nil, pAnd_pure, pOr_pure, pAnd_pureE, pOr_pureE, pAnd_false, pOr_true, pCond_true, pCond_false, add_mk, bys_mk, bys_size, cond_true, cond_false, decide_true, decide_false, decide_not', dec_and, dec_or, dec_eqt, Bool.not_true, Bool.not_false, Option.isNone_none, Option.isNone_some, Option.map_some, Option.map_none, List.getElem?_toArray, List.getElem?_cons_zero, List.getElem?_cons_succ, List.size_toArray, List.length_cons, List.length_nil, List.length_replicate, List.set_cons_zero, List.set_cons_succ, Nat.reduceAdd, Nat.reduceMul, Nat.reduceSub, Nat.reduceLeDiff, Nat.zero_add, Nat.add_zero, Nat.zero_le, true_and, and_true, not_false_eq_true, ne_eq, Int.reduceNeg, Int.reduceEq, Int.reduceNe, Int.reduceLT, Int.reduceLE, le_refl', List.setIfInBounds_toArray, Nat.reduceLT, Array.size_setIfInBounds, if_true, if_false, reduceCtorEq, List.toArray_toList', List.drop_succ_cons, List.drop_zero, List.take_succ_cons, List.take_zero, List.nil_append, List.append_nil, List.cons_append, Bool.and_true, Bool.true_and, Bool.or_false, Bool.false_or, Bool.and_false, Bool.or_true, Bool.true_or, Bool.false_and, eq_self]
    refine fun _ => hno (fun h => hlen h.1)
  rw [decide_eq_false (by omega)]
  refine pOr_false ?_
  refine serialIn_spec ?_
  rw [wu32_mod, w64 (n := (n - next) % 4294967296) (by omega) (by omega)]
  by_cases hin : (n - next) % 4294967296 < size
  rotate_left
  · rw [decide_eq_false (by omega)]
    simp only [pPick_v, pNil_v, pNil_f, pAdd_v, pSub_v, pMul_v, pAdd_s, pQuo_v, pRem_v, pBits_v, pShl_v, pShr_v, pLt_v, pLe_v, pGt_v, pGe_v, pEq_0, pNe_0, pEq_1, pNe_1, pEq_2, pNe_2, pEq_3n, pNe_3n, pEq_3s, pNe_3s, pEq_3t, pNe_3t, pEq_5n, pNe_5n, pEq_5s, pNe_5s, pEq_5t, pNe_5t, pEq_4n, pNe_4n, pEq_4s, pNe_4s, pNot_v, pNeg_v, pCom_v, pConv_v, pConvS_v, pMin_v, pMax_v, pFieldAddr_v, pField1_v, pFieldN_v, pExtract_v, pIdxArr_v, pIdxSl_v, pIdxStr_v, pBounds_00, pBounds_10, pBounds_01, pBounds_11, pSlStr_v, pSlSl_v, pSlArr_v, pLenS_v, pLen_v, pCap_v, pBuild_n, pBuild_c, cells_int, cells_str, cells_bool, cells_ptr, cells_slice, cells_map, cells_agg, oneCell_int, oneCell_str, oneCell_bool, oneCell_ptr, oneCell_slice, oneCell_map, putL_cons, putL_nil, pAnd_pure, pOr_pure, pAnd_pureE, pOr_pureE, pAnd_false, pOr_true, pCond_true, pCond_false, add_mk, bys_mk, bys_size, cond_true, cond_false, decide_true, decide_false, decide_not', dec_and, dec_or, dec_eqt, Bool.not_true, Bool.not_false, Option.isNone_none, Option.isNone_some, Option.map_some, Option.map_none, List.getElem?_toArray, List.getElem?_cons_zero, List.getElem?_cons_succ, List.size_toArray, List.length_cons, List.length_nil, List.length_replicate, List.set_cons_zero, List.set_cons_succ, Nat.reduceAdd, Nat.reduceMul, Nat.reduceSub, Nat.reduceLeDiff, Nat.zero_add, Nat.add_zero, Nat.zero_le, true_and, and_true, not_false_eq_true, ne_eq, Int.reduceNeg, Int.reduceEq, Int.reduceNe, Int.reduceLT, Int.reduceLE, le_refl', List.setIfInBounds_toArray, Nat.reduceLT, Array.size_setIfInBounds, if_true, if_false, reduceCtorEq, List.toArray_toList', List.drop_succ_cons, List.drop_zero, List.take_succ_cons, List.take_zero, List.nil_append, List.append_nil, List.cons_append, Bool.and_true, Bool.true_and, Bool.or_false, Bool.false_or, Bool.and_false, Bool.or_true, Bool.true_or, Bool.false_and, eq_self]
    refine fun _ => hno (fun h => ?_)
    have := (List.getElem?_eq_some_iff.1 h.2).1
    unfold place at this
    omega
  rw [decide_eq_true (by omega)]
  simp only [pPick_v, pNil_v, pNil_f, pAdd_v, pSub_v, pMul_v, pAdd_s, pQuo_v, pRem_v, pBits_v, pShl_v, pShr_v, pLt_v, pLe_v, pGt_v, pGe_v, pEq_0, pNe_0, pEq_1, pNe_1, pEq_2, pNe_2, pEq_3n, pNe_3n, pEq_3s, pNe_3s, pEq_3t, pNe_3t, pEq_5n, pNe_5n, pEq_5s, pNe_5s, pEq_5t, pNe_5t, pEq_4n, pNe_4n, pEq_4s, pNe_4s, pNot_v, pNeg_v, pCom_v, pConv_v, pConvS_v, pMin_v, pMax_v, pFieldAddr_v, pField1_v, pFieldN_v, pExtract_v, pIdxArr_v, pIdxSl_v, pIdxStr_v, pBounds_00, pBounds_10, pBounds_01, pBounds_11, pSlStr_v, pSlSl_v, pSlArr_v, pLenS_v, pLen_v, pCap_v, pBuild_n, pBuild_c, cells_int, cells_str, cells_bool, cells_ptr, cells_slice, cells_map, cells_agg, oneCell_int, oneCell_str, oneCell_bool, oneCell_ptr, oneCell_slice, oneCell_map, putL_cons, putL_nil, pAnd_pure, pOr_pure, pAnd_pureE, pOr_pureE, pAnd_false, pOr_true, pCond_true, pCond_false, add_mk, bys_mk, bys_size, cond_true, cond_false, decide_true, decide_false, decide_not', dec_and, dec_or, dec_eqt, Bool.not_true, Bool.not_false, Option.isNone_none, Option.isNone_some, Option.map_some, Option.map_none, List.getElem?_toArray, List.getElem?_cons_zero, List.getElem?_cons_succ, List.size_toArray, List.length_cons, List.length_nil, List.length_replicate, List.set_cons_zero, List.set_cons_succ, Nat.reduceAdd, Nat.reduceMul, Nat.reduceSub, Nat.reduceLeDiff, Nat.zero_add, Nat.add_zero, Nat.zero_le, true_and, and_true, not_false_eq_true, ne_eq, Int.reduceNeg, Int.reduceEq, Int.reduceNe, Int.reduceLT, Int.reduceLE, le_refl', List.setIfInBounds_toArray, Nat.reduceLT, Array.size_setIfInBounds, if_true, if_false, reduceCtorEq, List.toArray_toList', List.drop_succ_cons, List.drop_zero, List.take_succ_cons, List.take_zero, List.nil_append, List.append_nil, List.cons_append, Bool.and_true, Bool.true_and, Bool.or_false, Bool.false_or, Bool.and_false, Bool.or_true, Bool.true_or, Bool.false_and, eq_self, pLoad_at hw.blk]
  refine fun _ => ?_
  have hp : place next n < S.length := by unfold place; omega
  refine hw.map.lookup (k := n) ?_
  rw [slotAt_at hn0 hn1, List.getElem?_eq_getElem hp]
  cases hS : S[place next n] with
  | some u =>
    simp only [Option.join, Option.bind_some, id, Option.map_some, Option.isSome_some, cond_true, pPick_v, pNil_v, pNil_f, pAdd_v, pSub_v, pMul_v, pAdd_s, pQuo_v, pRem_v, pBits_v, pShl_v, pShr_v, pLt_v, pLe_v, pGt_v, pGe_v, pEq_0, pNe_0, pEq_1, pNe_1, pEq_2, pNe_2, pEq_3n, pNe_3n, pEq_3s, pNe_3s, pEq_3t, pNe_3t, pEq_5n, pNe_5n, pEq_5s, pNe_5s, pEq_5t, pNe_5t, pEq_4n, pNe_4n, pEq_4s, pNe_4s, pNot_v, pNeg_v, pCom_v, pConv_v, pConvS_v, pMin_v, pMax_v, pFieldAddr_v, pField1_v, pFieldN_v, pExtract_v, pIdxArr_v, pIdxSl_v, pIdxStr_v, pBounds_00, pBounds_10, pBounds_01, pBounds_11, pSlStr_v, pSlSl_v, pSlArr_v, pLenS_v, pLen_v, pCap_v, pBuild_n, pBuild_c, cells_int, cells_str, cells_bool, cells_ptr, cells_slice, cells_map, cells_agg, oneCell_int, oneCell_str, oneCell_bool, oneCell_ptr, oneCell_slice, oneCell_map, putL_cons, putL_nil, pAnd_pure, pOr_pure, pAnd_pureE, pOr_pureE, pAnd_false, pOr_true, pCond_true, pCond_false, add_mk, bys_mk, bys_size, cond_true, cond_false, decide_true, decide_false, decide_not', dec_and, dec_or, dec_eqt, Bool.not_true, Bool.not_false, Option.isNone_none, Option.isNone_some, Option.map_some, Option.map_none, List.getElem?_toArray, List.getElem?_cons_zero, List.getElem?_cons_succ, List.size_toArray, List.length_cons, List.length_nil, List.length_replicate, List.set_cons_zero, List.set_cons_succ, Nat.reduceAdd, Nat.reduceMul, Nat.reduceSub, Nat.reduceLeDiff, Nat.zero_add, Nat.add_zero, Nat.zero_le, true_and, and_true, not_false_eq_true, ne_eq, Int.reduceNeg, Int.reduceEq, Int.reduceNe, Int.reduceLT, Int.reduceLE, le_refl', List.setIfInBounds_toArray, Nat.reduceLT, Array.size_setIfInBounds, if_true, if_false, reduceCtorEq, List.toArray_toList', List.drop_succ_cons, List.drop_zero, List.take_succ_cons, List.take_zero, List.nil_append, List.append_nil, List.cons_append, Bool.and_true, Bool.true_and, Bool.or_false, Bool.false_or, Bool.and_false, Bool.or_true, Bool.true_or, Bool.false_and, eq_self]
    exact hno (fun h => by rw [List.getElem?_eq_getElem hp, hS] at h; simp at h)
  | none =>
    simp only [Option.join, Option.bind_some, id, Option.map_none, Option.isSome_none, cond_true, pPick_v, pNil_v, pNil_f, pAdd_v, pSub_v, pMul_v, pAdd_s, pQuo_v, pRem_v, pBits_v, pShl_v, pShr_v, pLt_v, pLe_v, pGt_v, pGe_v, pEq_0, pNe_0, pEq_1, pNe_1, pEq_2, pNe_2, pEq_3n, pNe_3n, pEq_3s, pNe_3s, pEq_3t, pNe_3t, pEq_5n, pNe_5n, pEq_5s, pNe_5s, pEq_5t, pNe_5t, pEq_4n, pNe_4n, pEq_4s, pNe_4s, pNot_v, pNeg_v, pCom_v, pConv_v, pConvS_v, pMin_v, pMax_v, pFieldAddr_v, pField1_v, pFieldN_v, pExtract_v, pIdxArr_v, pIdxSl_v, pIdxStr_v, pBounds_00, pBounds_10, pBounds_01, pBounds_11, pSlStr_v, pSlSl_v, pSlArr_v, pLenS_v, pLen_v, pCap_v, pBuild_n, pBuild_c, cells_int, cells_str, cells_bool, cells_ptr, cells_slice, cells_map, cells_agg, oneCell_int, oneCell_str, oneCell_bool, oneCell_ptr, oneCell_slice, oneCell_map, putL_cons, putL_nil, pAnd_pure, pOr_pure, pAnd_pureE, pOr_pureE, pAnd_false, pOr_true, pCond_true, pCond_false, add_mk, bys_mk, bys_size, cond_true, cond_false, decide_true, decide_false, decide_not', dec_and, dec_or, dec_eqt, Bool.not_true, Bool.not_false, Option.isNone_none, Option.isNone_some, Option.map_some, Option.map_none, List.getElem?_toArray, List.getElem?_cons_zero, List.getElem?_cons_succ, List.size_toArray, List.length_cons, List.length_nil, List.length_replicate, List.set_cons_zero, List.set_cons_succ, Nat.reduceAdd, Nat.reduceMul, Nat.reduceSub, Nat.reduceLeDiff, Nat.zero_add, Nat.add_zero, Nat.zero_le, true_and, and_true, not_false_eq_true, ne_eq, Int.reduceNeg, Int.reduceEq, Int.reduceNe, Int.reduceLT, Int.reduceLE, le_refl', List.setIfInBounds_toArray, Nat.reduceLT, Array.size_setIfInBounds, if_true, if_false, reduceCtorEq, List.toArray_toList', List.drop_succ_cons, List.drop_zero, List.take_succ_cons, List.take_zero, List.nil_append, List.append_nil, List.cons_append, Bool.and_true, Bool.true_and, Bool.or_false, Bool.false_or, Bool.and_false, Bool.or_true, Bool.true_or, Bool.false_and, eq_self, pLoad_at hw.blk]
    have hSn : S[place next n]? = some none := by rw [List.getElem?_eq_getElem hp, hS]
    refine hw.map.set (k := n) fun H1 m1 s1' k1 => ?_
    have hb1 := (k1 b hne).trans hw.blk
    simp only [pPick_v, pNil_v, pNil_f, pAdd_v, pSub_v, pMul_v, pAdd_s, pQuo_v, pRem_v, pBits_v, pShl_v, pShr_v, pLt_v, pLe_v, pGt_v, pGe_v, pEq_0, pNe_0, pEq_1, pNe_1, pEq_2, pNe_2, pEq_3n, pNe_3n, pEq_3s, pNe_3s, pEq_3t, pNe_3t, pEq_5n, pNe_5n, pEq_5s, pNe_5s, pEq_5t, pNe_5t, pEq_4n, pNe_4n, pEq_4s, pNe_4s, pNot_v, pNeg_v, pCom_v, pConv_v, pConvS_v, pMin_v, pMax_v, pFieldAddr_v, pField1_v, pFieldN_v, pExtract_v, pIdxArr_v, pIdxSl_v, pIdxStr_v, pBounds_00, pBounds_10, pBounds_01, pBounds_11, pSlStr_v, pSlSl_v, pSlArr_v, pLenS_v, pLen_v, pCap_v, pBuild_n, pBuild_c, cells_int, cells_str, cells_bool, cells_ptr, cells_slice, cells_map, cells_agg, oneCell_int, oneCell_str, oneCell_bool, oneCell_ptr, oneCell_slice, oneCell_map, putL_cons, putL_nil, pAnd_pure, pOr_pure, pAnd_pureE, pOr_pureE, pAnd_false, pOr_true, pCond_true, pCond_false, add_mk, bys_mk, bys_size, cond_true, cond_false, decide_true, decide_false, decide_not', dec_and, dec_or, dec_eqt, Bool.not_true, Bool.not_false, Option.isNone_none, Option.isNone_some, Option.map_some, Option.map_none, List.getElem?_toArray, List.getElem?_cons_zero, List.getElem?_cons_succ, List.size_toArray, List.length_cons, List.length_nil, List.length_replicate, List.set_cons_zero, List.set_cons_succ, Nat.reduceAdd, Nat.reduceMul, Nat.reduceSub, Nat.reduceLeDiff, Nat.zero_add, Nat.add_zero, Nat.zero_le, true_and, and_true, not_false_eq_true, ne_eq, Int.reduceNeg, Int.reduceEq, Int.reduceNe, Int.reduceLT, Int.reduceLE, le_refl', List.setIfInBounds_toArray, Nat.reduceLT, Array.size_setIfInBounds, if_true, if_false, reduceCtorEq, List.toArray_toList', List.drop_succ_cons, List.drop_zero, List.take_succ_cons, List.take_zero, List.nil_append, List.append_nil, List.cons_append, Bool.and_true, Bool.true_and, Bool.or_false, Bool.false_or, Bool.and_false, Bool.or_true, Bool.true_or, Bool.false_and, eq_self, pLoad_at hb1]
    have hh := hw.held
    rw [w64 (n := (heldL S : Int) + (t.length : Int)) (by omega) (by omega)]
    refine pStore_upd hb1 (by simp) rfl fun H2 s2 u2 => ?_
    rw [slotAt_set hn0 hn1 n0 n1 hp] at m1
    refine hyes hlen hSn H2 ⟨?_, m1.keep (u2.ne r m1.lt (Ne.symm hne)), hne, n0, n1, by simpa using hl, s0, s1, ?_⟩ ?_
    · rw [u2.at_, heldL_set S _ hSn]; simp
    · intro u hu
      rcases List.mem_or_eq_of_mem_set hu with h' | h'
      · exact hsm u h'
      · simp only [Option.some.injEq] at h'; rw [h']; exact hlen
    · exact ⟨by omega, fun i hi hib hir => by rw [u2.ne i (by omega) hib, k1 i hir]⟩
theorem rNext_nil (h : R (.tuple #[str [], .bool false]) H) : CallsH Try.prog 14 #[.pointer none] H R := by
  refine recv_Window_Next.vc _ _ _ ?_
  unfold recv_Window_Next.res
  simp only [pPick_v, pNil_v, pNil_f, pAdd_v, pSub_v, pMul_v, pAdd_s, pQuo_v, pRem_v, pBits_v, pShl_v, pShr_v, pLt_v, pLe_v, pGt_v, pGe_v, pEq_0, pNe_0, pEq_1, pNe_1, pEq_2, pNe_2, pEq_3n, pNe_3n, pEq_3s, pNe_3s, pEq_3t, pNe_3t, pEq_5n, pNe_5n, pEq_5s, pNe_5s, pEq_5t, pNe_5t, pEq_4n, pNe_4n, pEq_4s, pNe_4s, pNot_v, pNeg_v, pCom_v, pConv_v, pConvS_v, pMin_v, pMax_v, pFieldAddr_v, pField1_v, pFieldN_v, pExtract_v, pIdxArr_v, pIdxSl_v, pIdxStr_v, pBounds_00, pBounds_10, pBounds_01, pBounds_11, pSlStr_v, pSlSl_v, pSlArr_v, pLenS_v, pLen_v, pCap_v, pBuild_n, pBuild_c, cells_int, cells_str, cells_bool, cells_ptr, cells_slice, cells_map, cells_agg, oneCell_int, oneCell_str, oneCell_bool, oneCell_ptr, oneCell_slice, oneCell_map, putL_cons, putL_nil, pAnd_pure, pOr_pure, pAnd_pureE, pOr_pureE, pAnd_false, pOr_true, pCond_true, pCond_false, add_mk, bys_mk, bys_size, cond_true, cond_false, decide_true, decide_false, decide_not', dec_and, dec_or, dec_eqt, Bool.not_true, Bool.not_false, Option.isNone_none, Option.isNone_some, Option.map_some, Option.map_none, List.getElem?_toArray, List.getElem?_cons_zero, List.getElem?_cons_succ, List.size_toArray, List.length_cons, List.length_nil, List.length_replicate, List.set_cons_zero, List.set_cons_succ, Nat.reduceAdd, Nat.reduceMul, Nat.reduceSub, Nat.reduceLeDiff, Nat.zero_add, Nat.add_zero, Nat.zero_le, true_and, and_true, not_false_eq_true, ne_eq, Int.reduceNeg, Int.reduceEq, Int.reduceNe, Int.reduceLT, Int.reduceLE, le_refl', List.setIfInBounds_toArray, Nat.reduceLT, Array.size_setIfInBounds, if_true, if_false, reduceCtorEq, List.toArray_toList', List.drop_succ_cons, List.drop_zero, List.take_succ_cons, List.take_zero, List.nil_append, List.append_nil, List.cons_append, Bool.and_true, Bool.true_and, Bool.or_false, Bool.false_or, Bool.and_false, Bool.or_true, Bool.true_or, Bool.false_and, eq_self]
  exact h
theorem place_self (next : Int) : place next next = 0 := by unfold place; omega
theorem slotAt_next {o : Option (List UInt8)} {S : Slots} (hn0 : 0 ≤ next) (hn1 : next ≤ 4294967295) (hS : S.length ≤ 32) : mset (intKeys .u32) (slotAt (o :: S) next) next none = slotAt (S ++ [none]) (IntKind.u32.wrap (next + 1)) := by
  funext a
  rw [wu32_mod]
  by_cases ha : a = next
  · subst ha
    rw [mset_self]
    unfold slotAt
    rw [if_pos ⟨hn0, hn1⟩, List.getElem?_eq_none]
    · rfl
    · unfold place; simp; omega
  · rw [mset_ne _ ha]
    unfold slotAt
    split
    · rename_i hr
      have e : place next a = place ((next + 1) % 4294967296) a + 1 := by unfold place; omega
      rw [e, List.getElem?_cons_succ]
      generalize place ((next + 1) % 4294967296) a = p
      by_cases hp : p < S.length
      · rw [List.getElem?_append_left hp]
      · rw [List.getElem?_append_right (by omega), List.getElem?_eq_none (by omega)]
        by_cases hp2 : p = S.length
        · subst hp2; rw [Nat.sub_self]; rfl
        · rw [List.getElem?_eq_none (by simp; omega)]
    · rfl
theorem rNext_spec (hw : Rcv H b r next size S) (hno : S[0]? = some none → R (.tuple #[str [], .bool false]) H)
    (hyes : ∀ t S' H', S = some t :: S' → Rcv H' b r (IntKind.u32.wrap (next + 1)) size (S' ++ [none]) → Only b r H H' → R (.tuple #[str t, .bool true]) H') : CallsH Try.prog 14 #[sptr b] H R := by
  obtain ⟨_, _, hne, n0, n1, hl, s0, s1, hsm⟩ := id hw
  refine recv_Window_Next.vc _ _ _ ?_
  unfold recv_Window_Next.res
  simp only [pPick_v, pNil_v, pNil_f, pAdd_v, pSub_v, pMul_v, pAdd_s, pQuo_v, pRem_v, pBits_v, pShl_v, pShr_v, pLt_v, pLe_v, pGt_v, pGe_v, pEq_0, pNe_0, pEq_1, pNe_1, pEq_2, pNe_2, pEq_3n, pNe_3n, pEq_3s, pNe_3s, pEq_3t, pNe_3t, pEq_5n, pNe_5n, pEq_5s, pNe_5s, pEq_5t, pNe_5t, pEq_4n, pNe_4n, pEq_4s, pNe_4s, pNot_v, pNeg_v, pCom_v, pConv_v, pConvS_v, pMin_v, pMax_v, pFieldAddr_v, pField1_v, pFieldN_v, pExtract_v, pIdxArr_v, pIdxSl_v, pIdxStr_v, pBounds_00, pBounds_10, pBounds_01, pBounds_11, pSlStr_v, pSlSl_v, pSlArr_v, pLenS_v, pLen_v, pCap_v, pBuild_n, pBuild_c, cells_int, cells_str, cells_bool, cells_ptr, cells_slice, cells_map, cells_agg, oneCell_int, oneCell_str, oneCell_bool, oneCell_ptr, oneCell_slice, oneCell_map, putL_cons, putL_nil, pAnd_pure, pOr_pure, pAnd_pureE, pOr_pureE, pAnd_false, pOr_true, pCond_true, pCond_false, add_mk, bys_mk, bys_size, cond_true, cond_false, decide_true, decide_false, decide_not', dec_and, dec_or, dec_eqt, Bool.not_true, Bool.not_false, Option.isNone_none, Option.isNone_some, Option.map_some, Option.map_none, List.getElem?_toArray, List.getElem?_cons_zero, List.getElem?_cons_succ, List.size_toArray, List.length_cons, List.length_nil, List.length_replicate, List.set_cons_zero, List.set_cons_succ, Nat.reduceAdd, Nat.reduceMul, Nat.reduceSub, Nat.reduceLeDiff, Nat.zero_add, Nat.add_zero, Nat.zero_le, true_and, and_true, not_false_eq_true, ne_eq, Int.reduceNeg, Int.reduceEq, Int.reduceNe, Int.reduceLT, Int.reduceLE, le_refl', List.setIfInBounds_toArray, Nat.reduceLT, Array.size_setIfInBounds, if_true, if_false, reduceCtorEq, List.toArray_toList', List.drop_succ_cons, List.drop_zero, List.take_succ_cons, List.take_zero, List.nil_append, List.append_nil, List.cons_append, Bool.and_true, Bool.true_and, Bool.or_false, Bool.false_or, Bool.and_false, Bool.or_true, Bool.true_or, Bool.false_and, eq_self, pLoad_at hw.blk]
  refine hw.map.lookup (k := next) ?_
  rw [slotAt_at n0 n1, place_self]
  match S, hw, hl, hsm, hno, hyes with
  | [], _, hl, _, _, _ => simp at hl; omega
  | none :: S', hw, hl, hsm, hno, hyes =>
    simp only [List.getElem?_cons_zero, Option.join, Option.bind_some, id, Option.map_none, Option.isSome_none, cond_true, pPick_v, pNil_v, pNil_f, pAdd_v, pSub_v, pMul_v, pAdd_s, pQuo_v, pRem_v, pBits_v, pShl_v, pShr_v, pLt_v, pLe_v, pGt_v, pGe_v, pEq_0, pNe_0, pEq_1, pNe_1, pEq_2, pNe_2, pEq_3n, pNe_3n, pEq_3s, pNe_3s, pEq_3t, pNe_3t, pEq_5n, pNe_5n, pEq_5s, pNe_5s, pEq_5t, pNe_5t, pEq_4n, pNe_4n, pEq_4s, pNe_4s, pNot_v, pNeg_v, pCom_v, pConv_v, pConvS_v, pMin_v, pMax_v, pFieldAddr_v, pField1_v, pFieldN_v, pExtract_v, pIdxArr_v, pIdxSl_v, pIdxStr_v, pBounds_00, pBounds_10, pBounds_01, pBounds_11, pSlStr_v, pSlSl_v, pSlArr_v, pLenS_v, pLen_v, pCap_v, pBuild_n, pBuild_c, cells_int, cells_str, cells_bool, cells_ptr, cells_slice, cells_map, cells_agg, oneCell_int, oneCell_str, oneCell_bool, oneCell_ptr, oneCell_slice, oneCell_map, putL_cons, putL_nil, pAnd_pure, pOr_pure, pAnd_pureE, pOr_pureE, pAnd_false, pOr_true, pCond_true, pCond_false, add_mk, bys_mk, bys_size, cond_true, cond_false, decide_true, decide_false, decide_not', dec_and, dec_or, dec_eqt, Bool.not_true, Bool.not_false, Option.isNone_none, Option.isNone_some, Option.map_some, Option.map_none, List.getElem?_toArray, List.getElem?_cons_zero, List.getElem?_cons_succ, List.size_toArray, List.length_cons, List.length_nil, List.length_replicate, List.set_cons_zero, List.set_cons_succ, Nat.reduceAdd, Nat.reduceMul, Nat.reduceSub, Nat.reduceLeDiff, Nat.zero_add, Nat.add_zero, Nat.zero_le, true_and, and_true, not_false_eq_true, ne_eq, Int.reduceNeg, Int.reduceEq, Int.reduceNe, Int.reduceLT, Int.reduceLE, le_refl', List.setIfInBounds_toArray, Nat.reduceLT, Array.size_setIfInBounds, if_true, if_false, reduceCtorEq, List.toArray_toList', List.drop_succ_cons, List.drop_zero, List.take_succ_cons, List.take_zero, List.nil_append, List.append_nil, List.cons_append, Bool.and_true, Bool.true_and, Bool.or_false, Bool.false_or, Bool.and_false, Bool.or_true, Bool.true_or, Bool.false_and, eq_self, Option.getD_none]
    refine ⟨fun H' => H = H', ?_, rfl⟩
    rintro _ _ rfl
    exact hno rfl
  | some t :: S', hw, hl, hsm, hno, hyes =>
    simp only [List.getElem?_cons_zero, Option.join, Option.bind_some, id, Option.map_some, Option.isSome_some, cond_true, pPick_v, pNil_v, pNil_f, pAdd_v, pSub_v, pMul_v, pAdd_s, pQuo_v, pRem_v, pBits_v, pShl_v, pShr_v, pLt_v, pLe_v, pGt_v, pGe_v, pEq_0, pNe_0, pEq_1, pNe_1, pEq_2, pNe_2, pEq_3n, pNe_3n, pEq_3s, pNe_3s, pEq_3t, pNe_3t, pEq_5n, pNe_5n, pEq_5s, pNe_5s, pEq_5t, pNe_5t, pEq_4n, pNe_4n, pEq_4s, pNe_4s, pNot_v, pNeg_v, pCom_v, pConv_v, pConvS_v, pMin_v, pMax_v, pFieldAddr_v, pField1_v, pFieldN_v, pExtract_v, pIdxArr_v, pIdxSl_v, pIdxStr_v, pBounds_00, pBounds_10, pBounds_01, pBounds_11, pSlStr_v, pSlSl_v, pSlArr_v, pLenS_v, pLen_v, pCap_v, pBuild_n, pBuild_c, cells_int, cells_str, cells_bool, cells_ptr, cells_slice, cells_map, cells_agg, oneCell_int, oneCell_str, oneCell_bool, oneCell_ptr, oneCell_slice, oneCell_map, putL_cons, putL_nil, pAnd_pure, pOr_pure, pAnd_pureE, pOr_pureE, pAnd_false, pOr_true, pCond_true, pCond_false, add_mk, bys_mk, bys_size, cond_true, cond_false, decide_true, decide_false, decide_not', dec_and, dec_or, dec_eqt, Bool.not_true, Bool.not_false, Option.isNone_none, Option.isNone_some, Option.map_some, Option.map_none, List.getElem?_toArray, List.getElem?_cons_zero, List.getElem?_cons_succ, List.size_toArray, List.length_cons, List.length_nil, List.length_replicate, List.set_cons_zero, List.set_cons_succ, Nat.reduceAdd, Nat.reduceMul, Nat.reduceSub, Nat.reduceLeDiff, Nat.zero_add, Nat.add_zero, Nat.zero_le, true_and, and_true, not_false_eq_true, ne_eq, Int.reduceNeg, Int.reduceEq, Int.reduceNe, Int.reduceLT, Int.reduceLE, le_refl', List.setIfInBounds_toArray, Nat.reduceLT, Array.size_setIfInBounds, if_true, if_false, reduceCtorEq, List.toArray_toList', List.drop_succ_cons, List.drop_zero, List.take_succ_cons, List.take_zero, List.nil_append, List.append_nil, List.cons_append, Bool.and_true, Bool.true_and, Bool.or_false, Bool.false_or, Bool.and_false, Bool.or_true, Bool.true_or, Bool.false_and, eq_self, Option.getD_some, pLoad_at hw.blk]
    refine ⟨fun H' => Rcv H' b r (IntKind.u32.wrap (next + 1)) size (S' ++ [none]) ∧ Only b r H H', ?_, ?_⟩
    · rintro _ H' ⟨h1, h2⟩
      exact hyes t S' H' rfl h1 h2
    · refine hw.map.delete (k := next) fun H1 m1 s1' k1 => ?_
      have hb1 := (k1 b hne).trans hw.blk
      simp only [pPick_v, pNil_v, pNil_f, pAdd_v, pSub_v, pMul_v, pAdd_s, pQuo_v, pRem_v, pBits_v, pShl_v, pShr_v, pLt_v, pLe_v, pGt_v, pGe_v, pEq_0, pNe_0, pEq_1, pNe_1, pEq_2, pNe_2, pEq_3n, pNe_3n, pEq_3s, pNe_3s, pEq_3t, pNe_3t, pEq_5n, pNe_5n, pEq_5s, pNe_5s, pEq_5t, pNe_5t, pEq_4n, pNe_4n, pEq_4s, pNe_4s, pNot_v, pNeg_v, pCom_v, pConv_v, pConvS_v, pMin_v, pMax_v, pFieldAddr_v, pField1_v, pFieldN_v, pExtract_v, pIdxArr_v, pIdxSl_v, pIdxStr_v, pBounds_00, pBounds_10, pBounds_01, pBounds_11, pSlStr_v, pSlSl_v, pSlArr_v, pLenS_v, pLen_v, pCap_v, pBuild_n, pBuild_c, cells_int, cells_str, cells_bool, cells_ptr, cells_slice, cells_map, cells_agg, oneCell_int, oneCell_str, oneCell_bool, oneCell_ptr, oneCell_slice, oneCell_map, putL_cons, putL_nil, pAnd_pure, pOr_pure, pAnd_pureE, pOr_pureE, pAnd_false, pOr_true, pCond_true, pCond_false, add_mk, bys_mk, bys_size, cond_true, cond_false, decide_true, decide_false, decide_not', dec_and, dec_or, dec_eqt, Bool.not_true, Bool.not_false, Option.isNone_none, Option.isNone_some, Option.map_some, Option.map_none, List.getElem?_toArray, List.getElem?_cons_zero, List.getElem?_cons_succ, List.size_toArray, List.length_cons, List.length_nil, List.length_replicate, List.set_cons_zero, List.set_cons_succ, Nat.reduceAdd, Nat.reduceMul, Nat.reduceSub, Nat.reduceLeDiff, Nat.zero_add, Nat.add_zero, Nat.zero_le, true_and, and_true, not_false_eq_true, ne_eq, Int.reduceNeg, Int.reduceEq, Int.reduceNe, Int.reduceLT, Int.reduceLE, le_refl', List.setIfInBounds_toArray, Nat.reduceLT, Array.size_setIfInBounds, if_true, if_false, reduceCtorEq, List.toArray_toList', List.drop_succ_cons, List.drop_zero, List.take_succ_cons, List.take_zero, List.nil_append, List.append_nil, List.cons_append, Bool.and_true, Bool.true_and, Bool.or_false, Bool.false_or, Bool.and_false, Bool.or_true, Bool.true_or, Bool.false_and, eq_self, pLoad_at hb1]
      have hh := hw.held
      have hlt : t.length ≤ heldL (some t :: S') := by simp only [heldL]; omega
      rw [w64 (n := (heldL (some t :: S') : Int) - (t.length : Int)) (by omega) (by omega)]
      refine pStore_upd hb1 (by simp) rfl fun H2 s2 u2 => ?_
      have hb2 : H2[b]? = some (robj next size r (heldL S')) := by
        rw [u2.at_]
        simp only [heldL, List.setIfInBounds_toArray, List.set_cons_zero, List.set_cons_succ]
        rw [show ((t.length + heldL S' : Nat) : Int) - (t.length : Int) = (heldL S' : Int) by omega]
      simp only [pPick_v, pNil_v, pNil_f, pAdd_v, pSub_v, pMul_v, pAdd_s, pQuo_v, pRem_v, pBits_v, pShl_v, pShr_v, pLt_v, pLe_v, pGt_v, pGe_v, pEq_0, pNe_0, pEq_1, pNe_1, pEq_2, pNe_2, pEq_3n, pNe_3n, pEq_3s, pNe_3s, pEq_3t, pNe_3t, pEq_5n, pNe_5n, pEq_5s, pNe_5s, pEq_5t, pNe_5t, pEq_4n, pNe_4n, pEq_4s, pNe_4s, pNot_v, pNeg_v, pCom_v, pConv_v, pConvS_v, pMin_v, pMax_v, pFieldAddr_v, pField1_v, pFieldN_v, pExtract_v, pIdxArr_v, pIdxSl_v, pIdxStr_v, pBounds_00, pBounds_10, pBounds_01, pBounds_11, pSlStr_v, pSlSl_v, pSlArr_v, pLenS_v, pLen_v, pCap_v, pBuild_n, pBuild_c, cells_int, cells_str, cells_bool, cells_ptr, cells_slice, cells_map, cells_agg, oneCell_int, oneCell_str, oneCell_bool, oneCell_ptr, oneCell_slice, oneCell_map, putL_cons, putL_nil, pAnd_pure, pOr_pure, pAnd_pureE, pOr_pureE, pAnd_false, pOr_true, pCond_true, pCond_false, add_mk, bys_mk, bys_size, cond_true, cond_false, decide_true, decide_false, decide_not', dec_and, dec_or, dec_eqt, Bool.not_true, Bool.not_false, Option.isNone_none, Option.isNone_some, Option.map_some, Option.map_none, List.getElem?_toArray, List.getElem?_cons_zero, List.getElem?_cons_succ, List.size_toArray, List.length_cons, List.length_nil, List.length_replicate, List.set_cons_zero, List.set_cons_succ, Nat.reduceAdd, Nat.reduceMul, Nat.reduceSub, Nat.reduceLeDiff, Nat.zero_add, Nat.add_zero, Nat.zero_le, true_and, and_true, not_false_eq_true, ne_eq, Int.reduceNeg, Int.reduceEq, Int.reduceNe, Int.reduceLT, Int.reduceLE, le_refl', List.setIfInBounds_toArray, Nat.reduceLT, Array.size_setIfInBounds, if_true, if_false, reduceCtorEq, List.toArray_toList', List.drop_succ_cons, List.drop_zero, List.take_succ_cons, List.take_zero, List.nil_append, List.append_nil, List.cons_append, Bool.and_true, Bool.true_and, Bool.or_false, Bool.false_or, Bool.and_false, Bool.or_true, Bool.true_or, Bool.false_and, eq_self, pLoad_at hb2]
      refine pStore_upd hb2 (by simp) rfl fun H3 s3 u3 => ?_
      rw [slotAt_next n0 n1 (by simp at hl; omega)] at m1
      have hw32 := wu32_range (next + 1)
      refine ⟨⟨?_, (m1.keep (u2.ne r m1.lt (Ne.symm hne))).keep (u3.ne r (by have := m1.lt; omega) (Ne.symm hne)), hne, hw32.1, hw32.2, by simp at hl ⊢; omega, s0, s1, ?_⟩, ?_⟩
      · rw [u3.at_, heldL_append]; simp [heldL]
      · intro u hu
        rcases List.mem_append.1 hu with h' | h'
        · exact hsm u (by simp [h'])
        · simp at h'
      · exact ⟨by omega, fun i hi hib hir => by rw [u3.ne i (by omega) hib, u2.ne i (by omega) hib, k1 i hir]⟩
theorem rAck_nil (h : R (.tuple #[.int .u32 0, .int .u32 0]) H) : CallsH Try.prog 18 #[.pointer none] H R := by
  refine recv_Window_Ack.vc _ _ _ ?_
  unfold recv_Window_Ack.res
  simp only [pPick_v, pNil_v, pNil_f, pAdd_v, pSub_v, pMul_v, pAdd_s, pQuo_v, pRem_v, pBits_v, pShl_v, pShr_v, pLt_v, pLe_v, pGt_v, pGe_v, pEq_0, pNe_0, pEq_1, pNe_1, pEq_2, pNe_2, pEq_3n, pNe_3n, pEq_3s, pNe_3s, pEq_3t, pNe_3t, pEq_5n, pNe_5n, pEq_5s, pNe_5s, pEq_5t, pNe_5t, pEq_4n, pNe_4n, pEq_4s, pNe_4s, pNot_v, pNeg_v, pCom_v, pConv_v, pConvS_v, pMin_v, pMax_v, pFieldAddr_v, pField1_v, pFieldN_v, pExtract_v, pIdxArr_v, pIdxSl_v, pIdxStr_v, pBounds_00, pBounds_10, pBounds_01, pBounds_11, pSlStr_v, pSlSl_v, pSlArr_v, pLenS_v, pLen_v, pCap_v, pBuild_n, pBuild_c, cells_int, cells_str, cells_bool, cells_ptr, cells_slice, cells_map, cells_agg, oneCell_int, oneCell_str, oneCell_bool, oneCell_ptr, oneCell_slice, oneCell_map, putL_cons, putL_nil, pAnd_pure, pOr_pure, pAnd_pureE, pOr_pureE, pAnd_false, pOr_true, pCond_true, pCond_false, add_mk, bys_mk, bys_size, cond_true, cond_false, decide_true, decide_false, decide_not', dec_and, dec_or, dec_eqt, Bool.not_true, Bool.not_false, Option.isNone_none, Option.isNone_some, Option.map_some, Option.map_none, List.getElem?_toArray, List.getElem?_cons_zero, List.getElem?_cons_succ, List.size_toArray, List.length_cons, List.length_nil, List.length_replicate, List.set_cons_zero, List.set_cons_succ, Nat.reduceAdd, Nat.reduceMul, Nat.reduceSub, Nat.reduceLeDiff, Nat.zero_add, Nat.add_zero, Nat.zero_le, true_and, and_true, not_false_eq_true, ne_eq, Int.reduceNeg, Int.reduceEq, Int.reduceNe, Int.reduceLT, Int.reduceLE, le_refl', List.setIfInBounds_toArray, Nat.reduceLT, Array.size_setIfInBounds, if_true, if_false, reduceCtorEq, List.toArray_toList', List.drop_succ_cons, List.drop_zero, List.take_succ_cons, List.take_zero, List.nil_append, List.append_nil, List.cons_append, Bool.and_true, Bool.true_and, Bool.or_false, Bool.false_or, Bool.and_false, Bool.or_true, Bool.true_or, Bool.false_and, eq_self]
  exact h
/-- which of those behind the next one are there -/
def thereS (S : Slots) (j : Nat) : Bool := ((S[j + 1]?).join).isSome
/-- the number of a place -/
def behind (next : Int) (j : Nat) : Int := (next + 1 + j) % 4294967296
theorem rAck_spec (hw : Rcv H b r next size S) (h : ∀ H', Rcv H' b r next size S → Ext H H' → R (.tuple #[.int .u32 next, .int .u32 (bsum (thereS S) 31 : Nat)]) H') : CallsH Try.prog 18 #[sptr b] H R := by
  obtain ⟨_, _, hne, n0, n1, hl, s0, s1, hsm⟩ := id hw
  refine recv_Window_Ack.vc _ _ _ ?_
  unfold recv_Window_Ack.res
  simp only [pPick_v, pNil_v, pNil_f, pAdd_v, pSub_v, pMul_v, pAdd_s, pQuo_v, pRem_v, pBits_v, pShl_v, pShr_v, pLt_v, pLe_v, pGt_v, pGe_v, pEq_0, pNe_0, pEq_1, pNe_1, pEq_2, pNe_2, pEq_3n, pNe_3n, pEq_3s, pNe_3s, pEq_3t, pNe_3t, pEq_5n, pNe_5n, pEq_5s, pNe_5s, pEq_5t, pNe_5t, pEq_4n, pNe_4n, pEq_4s, pNe_4s, pNot_v, pNeg_v, pCom_v, pConv_v, pConvS_v, pMin_v, pMax_v, pFieldAddr_v, pField1_v, pFieldN_v, pExtract_v, pIdxArr_v, pIdxSl_v, pIdxStr_v, pBounds_00, pBounds_10, pBounds_01, pBounds_11, pSlStr_v, pSlSl_v, pSlArr_v, pLenS_v, pLen_v, pCap_v, pBuild_n, pBuild_c, cells_int, cells_str, cells_bool, cells_ptr, cells_slice, cells_map, cells_agg, oneCell_int, oneCell_str, oneCell_bool, oneCell_ptr, oneCell_slice, oneCell_map, putL_cons, putL_nil, pAnd_pure, pOr_pure, pAnd_pureE, pOr_pureE, pAnd_false, pOr_true, pCond_true, pCond_false, add_mk, bys_mk, bys_size, cond_true, cond_false, decide_true, decide_false, decide_not', dec_and, dec_or, dec_eqt, Bool.not_true, Bool.not_false, Option.isNone_none, Option.isNone_some, Option.map_some, Option.map_none, List.getElem?_toArray, List.getElem?_cons_zero, List.getElem?_cons_succ, List.size_toArray, List.length_cons, List.length_nil, List.length_replicate, List.set_cons_zero, List.set_cons_succ, Nat.reduceAdd, Nat.reduceMul, Nat.reduceSub, Nat.reduceLeDiff, Nat.zero_add, Nat.add_zero, Nat.zero_le, true_and, and_true, not_false_eq_true, ne_eq, Int.reduceNeg, Int.reduceEq, Int.reduceNe, Int.reduceLT, Int.reduceLE, le_refl', List.setIfInBounds_toArray, Nat.reduceLT, Array.size_setIfInBounds, if_true, if_false, reduceCtorEq, List.toArray_toList', List.drop_succ_cons, List.drop_zero, List.take_succ_cons, List.take_zero, List.nil_append, List.append_nil, List.cons_append, Bool.and_true, Bool.true_and, Bool.or_false, Bool.false_or, Bool.and_false, Bool.or_true, Bool.true_or, Bool.false_and, eq_self, pLoad_at hw.blk]
  refine hw.map.range (by kernel_rfl) fun H1 x1 sz1 it1 => ?_
  have hb1 : b < H.size := lt_of_blk hw.blk
  have hr1 : r < H.size := hw.map.lt
  refine ⟨fun v H' => ∃ done : List Int, Iter (intKeys .u32) H' H.size r (slotAt S next) done ∧ Ext H H' ∧ v = .int .u32 (bsum (fun j => decide (behind next j ∈ done)) 31 : Nat), fun _ H' => iterLeft H' H.size, ⟨[], it1, x1, ?_⟩, ?_⟩
  · rw [show bsum (fun j => decide (behind next j ∈ ([] : List Int))) 31 = 0 by simp [bsum]]; rfl
  rintro _ _ H2 ⟨done, it2, x2, rfl⟩
  refine it2.next (fun hall => ?_) (fun k v H3 hkd hkm it3 same3 sz3 left3 => ?_)
  · have hw2 := hw.ext x2
    simp only [pPick_v, pNil_v, pNil_f, pAdd_v, pSub_v, pMul_v, pAdd_s, pQuo_v, pRem_v, pBits_v, pShl_v, pShr_v, pLt_v, pLe_v, pGt_v, pGe_v, pEq_0, pNe_0, pEq_1, pNe_1, pEq_2, pNe_2, pEq_3n, pNe_3n, pEq_3s, pNe_3s, pEq_3t, pNe_3t, pEq_5n, pNe_5n, pEq_5s, pNe_5s, pEq_5t, pNe_5t, pEq_4n, pNe_4n, pEq_4s, pNe_4s, pNot_v, pNeg_v, pCom_v, pConv_v, pConvS_v, pMin_v, pMax_v, pFieldAddr_v, pField1_v, pFieldN_v, pExtract_v, pIdxArr_v, pIdxSl_v, pIdxStr_v, pBounds_00, pBounds_10, pBounds_01, pBounds_11, pSlStr_v, pSlSl_v, pSlArr_v, pLenS_v, pLen_v, pCap_v, pBuild_n, pBuild_c, cells_int, cells_str, cells_bool, cells_ptr, cells_slice, cells_map, cells_agg, oneCell_int, oneCell_str, oneCell_bool, oneCell_ptr, oneCell_slice, oneCell_map, putL_cons, putL_nil, pAnd_pure, pOr_pure, pAnd_pureE, pOr_pureE, pAnd_false, pOr_true, pCond_true, pCond_false, add_mk, bys_mk, bys_size, cond_true, cond_false, decide_true, decide_false, decide_not', dec_and, dec_or, dec_eqt, Bool.not_true, Bool.not_false, Option.isNone_none, Option.isNone_some, Option.map_some, Option.map_none, List.getElem?_toArray, List.getElem?_cons_zero, List.getElem?_cons_succ, List.size_toArray, List.length_cons, List.length_nil, List.length_replicate, List.set_cons_zero, List.set_cons_succ, Nat.reduceAdd, Nat.reduceMul, Nat.reduceSub, Nat.reduceLeDiff, Nat.zero_add, Nat.add_zero, Nat.zero_le, true_and, and_true, not_false_eq_true, ne_eq, Int.reduceNeg, Int.reduceEq, Int.reduceNe, Int.reduceLT, Int.reduceLE, le_refl', List.setIfInBounds_toArray, Nat.reduceLT, Array.size_setIfInBounds, if_true, if_false, reduceCtorEq, List.toArray_toList', List.drop_succ_cons, List.drop_zero, List.take_succ_cons, List.take_zero, List.nil_append, List.append_nil, List.cons_append, Bool.and_true, Bool.true_and, Bool.or_false, Bool.false_or, Bool.and_false, Bool.or_true, Bool.true_or, Bool.false_and, eq_self, pLoad_at hw2.blk]
    have e : bsum (fun j => decide (behind next j ∈ done)) 31 = bsum (thereS S) 31 := by
      refine bsum_congr fun j hj => ?_
      have hp : place next (behind next j) = j + 1 := by unfold place behind; omega
      have hat : slotAt S next (behind next j) = ((S[j + 1]?).join).map fun t => str t := by
        rw [slotAt_at (by unfold behind; omega) (by unfold behind; omega), hp]
      unfold thereS
      rw [Bool.eq_iff_iff, decide_eq_true_eq]
      constructor
      · intro hm
        have := it2.dom hm
        rw [hat] at this
        simpa using this
      · intro hs
        refine hall _ ?_
        rw [hat]; simpa using hs
    rw [e]
    exact h H2 hw2 x2
  · have x3 : Ext H H3 := ⟨by have := x2.size; omega, fun i hi => by rw [same3 i (by omega)]; exact x2.get i hi⟩
    have hw3 := hw.ext x3
    simp only [pPick_v, pNil_v, pNil_f, pAdd_v, pSub_v, pMul_v, pAdd_s, pQuo_v, pRem_v, pBits_v, pShl_v, pShr_v, pLt_v, pLe_v, pGt_v, pGe_v, pEq_0, pNe_0, pEq_1, pNe_1, pEq_2, pNe_2, pEq_3n, pNe_3n, pEq_3s, pNe_3s, pEq_3t, pNe_3t, pEq_5n, pNe_5n, pEq_5s, pNe_5s, pEq_5t, pNe_5t, pEq_4n, pNe_4n, pEq_4s, pNe_4s, pNot_v, pNeg_v, pCom_v, pConv_v, pConvS_v, pMin_v, pMax_v, pFieldAddr_v, pField1_v, pFieldN_v, pExtract_v, pIdxArr_v, pIdxSl_v, pIdxStr_v, pBounds_00, pBounds_10, pBounds_01, pBounds_11, pSlStr_v, pSlSl_v, pSlArr_v, pLenS_v, pLen_v, pCap_v, pBuild_n, pBuild_c, cells_int, cells_str, cells_bool, cells_ptr, cells_slice, cells_map, cells_agg, oneCell_int, oneCell_str, oneCell_bool, oneCell_ptr, oneCell_slice, oneCell_map, putL_cons, putL_nil, pAnd_pure, pOr_pure, pAnd_pureE, pOr_pureE, pAnd_false, pOr_true, pCond_true, pCond_false, add_mk, bys_mk, bys_size, cond_true, cond_false, decide_true, decide_false, decide_not', dec_and, dec_or, dec_eqt, Bool.not_true, Bool.not_false, Option.isNone_none, Option.isNone_some, Option.map_some, Option.map_none, List.getElem?_toArray, List.getElem?_cons_zero, List.getElem?_cons_succ, List.size_toArray, List.length_cons, List.length_nil, List.length_replicate, List.set_cons_zero, List.set_cons_succ, Nat.reduceAdd, Nat.reduceMul, Nat.reduceSub, Nat.reduceLeDiff, Nat.zero_add, Nat.add_zero, Nat.zero_le, true_and, and_true, not_false_eq_true, ne_eq, Int.reduceNeg, Int.reduceEq, Int.reduceNe, Int.reduceLT, Int.reduceLE, le_refl', List.setIfInBounds_toArray, Nat.reduceLT, Array.size_setIfInBounds, if_true, if_false, reduceCtorEq, List.toArray_toList', List.drop_succ_cons, List.drop_zero, List.take_succ_cons, List.take_zero, List.nil_append, List.append_nil, List.cons_append, Bool.and_true, Bool.true_and, Bool.or_false, Bool.false_or, Bool.and_false, Bool.or_true, Bool.true_or, Bool.false_and, eq_self]
    refine it3.entry hkm ?_
    have hkr : 0 ≤ k ∧ k ≤ 4294967295 := by
      unfold slotAt at hkm
      split at hkm
      · assumption
      · cases hkm
    rw [slotAt_at hkr.1 hkr.2] at hkm
    have hpl : place next k < S.length := by
      rcases Nat.lt_or_ge (place next k) S.length with h' | h'
      · exact h'
      · rw [List.getElem?_eq_none h'] at hkm; cases hkm
    show pExtract 0 (.tuple #[.int .u32 k, v]) _
    simp only [pPick_v, pNil_v, pNil_f, pAdd_v, pSub_v, pMul_v, pAdd_s, pQuo_v, pRem_v, pBits_v, pShl_v, pShr_v, pLt_v, pLe_v, pGt_v, pGe_v, pEq_0, pNe_0, pEq_1, pNe_1, pEq_2, pNe_2, pEq_3n, pNe_3n, pEq_3s, pNe_3s, pEq_3t, pNe_3t, pEq_5n, pNe_5n, pEq_5s, pNe_5s, pEq_5t, pNe_5t, pEq_4n, pNe_4n, pEq_4s, pNe_4s, pNot_v, pNeg_v, pCom_v, pConv_v, pConvS_v, pMin_v, pMax_v, pFieldAddr_v, pField1_v, pFieldN_v, pExtract_v, pIdxArr_v, pIdxSl_v, pIdxStr_v, pBounds_00, pBounds_10, pBounds_01, pBounds_11, pSlStr_v, pSlSl_v, pSlArr_v, pLenS_v, pLen_v, pCap_v, pBuild_n, pBuild_c, cells_int, cells_str, cells_bool, cells_ptr, cells_slice, cells_map, cells_agg, oneCell_int, oneCell_str, oneCell_bool, oneCell_ptr, oneCell_slice, oneCell_map, putL_cons, putL_nil, pAnd_pure, pOr_pure, pAnd_pureE, pOr_pureE, pAnd_false, pOr_true, pCond_true, pCond_false, add_mk, bys_mk, bys_size, cond_true, cond_false, decide_true, decide_false, decide_not', dec_and, dec_or, dec_eqt, Bool.not_true, Bool.not_false, Option.isNone_none, Option.isNone_some, Option.map_some, Option.map_none, List.getElem?_toArray, List.getElem?_cons_zero, List.getElem?_cons_succ, List.size_toArray, List.length_cons, List.length_nil, List.length_replicate, List.set_cons_zero, List.set_cons_succ, Nat.reduceAdd, Nat.reduceMul, Nat.reduceSub, Nat.reduceLeDiff, Nat.zero_add, Nat.add_zero, Nat.zero_le, true_and, and_true, not_false_eq_true, ne_eq, Int.reduceNeg, Int.reduceEq, Int.reduceNe, Int.reduceLT, Int.reduceLE, le_refl', List.setIfInBounds_toArray, Nat.reduceLT, Array.size_setIfInBounds, if_true, if_false, reduceCtorEq, List.toArray_toList', List.drop_succ_cons, List.drop_zero, List.take_succ_cons, List.take_zero, List.nil_append, List.append_nil, List.cons_append, Bool.and_true, Bool.true_and, Bool.or_false, Bool.false_or, Bool.and_false, Bool.or_true, Bool.true_or, Bool.false_and, eq_self, pLoad_at hw3.blk]
    refine pCond_if (fun hc => ?_) (fun hc => ?_)
    · have hpr := place_range next k
      have hp1 : 1 ≤ place next k := by unfold place; omega
      rw [wu32_mod, wu32_mod, show ((k - next) % 4294967296 - 1) % 4294967296 = ((place next k - 1 : Nat) : Int) by unfold place at *; omega]
      refine ⟨by omega, ?_⟩
      rw [Int.toNat_natCast, show min (place next k - 1) IntKind.u32.bits = place next k - 1 by show min (place next k - 1) 32 = _; omega]
      have hpw : (2 : Nat) ^ (place next k - 1) < 4294967296 := by
        have := Nat.pow_lt_pow_right (a := 2) (by decide) (show place next k - 1 < 32 by omega)
        simpa using this
      have e2 : IntKind.u32.wrap (1 * 2 ^ (place next k - 1)) = ((2 ^ (place next k - 1) : Nat) : Int) := by
        rw [show (1 : Int) * 2 ^ (place next k - 1) = ((2 ^ (place next k - 1) : Nat) : Int) by rw [Int.one_mul, Int.natCast_pow]; rfl]
        clear h
        generalize (2 : Nat) ^ (place next k - 1) = Q at hpw ⊢
        exact wu32 (by omega) (by omega)
      have hbl := bsum_lt (fun j => decide (behind next j ∈ done)) 31
      rw [e2, or_u32 (by omega) hpw, bsum_or (by omega)]
      refine ⟨⟨done ++ [k], it3, x3, ?_⟩, left3⟩
      congr 2
      refine bsum_congr fun j hj => ?_
      rw [Bool.eq_iff_iff]
      simp only [Bool.or_eq_true, decide_eq_true_eq, List.mem_append, List.mem_singleton]
      have : j = place next k - 1 ↔ behind next j = k := by unfold behind place; omega
      rw [this]
      constructor
      · rintro (h' | h')
        · exact .inr h'
        · exact .inl h'
      · rintro (h' | h')
        · exact .inr h'
        · exact .inl h'
    · have hkn : k = next := by simpa using hc
      subst hkn
      refine ⟨⟨done ++ [k], it3, x3, ?_⟩, left3⟩
      congr 2
      refine bsum_congr fun j hj => ?_
      rw [Bool.eq_iff_iff]
      simp only [decide_eq_true_eq, List.mem_append, List.mem_singleton]
      have : behind k j ≠ k := by unfold behind; omega
      constructor
      · exact .inl
      · rintro (h' | h')
        · exact h'
        · exact absurd h' this
end Go.Proofs.Ytmolkhfohpfhaaa
