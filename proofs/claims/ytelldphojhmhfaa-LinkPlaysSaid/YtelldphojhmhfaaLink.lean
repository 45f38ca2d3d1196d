/- Contracts of package link. -/
import Derived.Test.YtelldphojhmhfaaVcChan
import Derived.Test.YtelldphojhmhfaaVcOwns
import Derived.Test.YtelldphojhmhfaaResLink
import Derived.Test.YtelldphojhmhfaaFlip
import Derived.Test.YtelldphojhmhfaaVcRow
namespace Go.Proofs.Ytelldphojhmhfaa
open Go Go.Vc Go.Proofs
set_option linter.unusedVariables false
set_option linter.unusedSimpArgs false
variable {H : Heap} {R : Value → Heap → Prop}
def link_Link_Put.res (l way s : Value) (H0 : Heap) (R : Value → Heap → Prop) : Prop :=
 CallsH Try.prog 16 #[l, way] H0 fun x9 H_1 =>
 pSel H_1 x9 (some s) (str []) fun x11 H_2 =>
 pExtract 0 x11 fun x12 =>
 pEq 0 x12 (.int .i64 0) fun x13 =>
 pCond x13 (R (.bool true) H_2) (R (.bool false) H_2)
set_option maxRecDepth 100000 in
theorem link_Link_Put.vc (l way s : Value) (H0 : Heap) (R : Value → Heap → Prop) (h : link_Link_Put.res l way s H0 R) : CallsH Try.prog 9 #[l, way, s] H0 R :=
  vcSel_sound (args := [l, way, s]) Try.callable Try.mixed (anA := .reg (.op 0 [] .nil)) (anX := .seq (.reg (.op 0 [] (.op 1 [] (.op 2 [] .nil)))) (.reg (.op 0 [] .nil))) (p := .op 1 [] (.op 2 [] .nil))
    (anB := .block (.cond (.seq (.reg (.op 0 [] .nil)) .leaf) (.seq (.reg (.op 0 [] .nil)) .leaf))) Try.func9 rfl (by kernel_rfl) (by kernel_rfl) (by kernel_rfl) (by kernel_rfl) (by kernel_rfl) rfl rfl rfl (fun d hd => by cases hd; decide) (z := str []) (by kernel_rfl) (Eq.mp (by kernel_rfl) h)
def link_Link_Take.res (l way : Value) (H0 : Heap) (R : Value → Heap → Prop) : Prop :=
 CallsH Try.prog 16 #[l, way] H0 fun x9 H_1 =>
 pSel H_1 x9 none (str []) fun x10 H_2 =>
 pExtract 0 x10 fun x11 =>
 pEq 0 x11 (.int .i64 0) fun x12 =>
 pCond x12 (pExtract 2 x10 fun x13 => R (.tuple #[x13, .bool true]) H_2) (R (.tuple #[str [], .bool false]) H_2)
set_option maxRecDepth 100000 in
theorem link_Link_Take.vc (l way : Value) (H0 : Heap) (R : Value → Heap → Prop) (h : link_Link_Take.res l way H0 R) : CallsH Try.prog 11 #[l, way] H0 R :=
  vcSel_sound (args := [l, way]) Try.callable Try.mixed (anA := .reg (.op 0 [] (.op 1 [] .nil))) (anX := .reg (.op 0 [] (.op 1 [] (.op 2 [] .nil)))) (p := .op 1 [] (.op 2 [] .nil))
    (anB := .block (.cond (.seq (.reg (.op 0 [] (.op 1 [] .nil))) (.seq (.reg (.op 0 [] (.op 1 [] (.op 2 [] .nil)))) .leaf)) (.seq (.reg (.op 0 [] (.op 1 [] .nil))) .leaf))) Try.func11 rfl (by kernel_rfl) (by kernel_rfl) (by kernel_rfl) (by kernel_rfl) (by kernel_rfl) rfl rfl rfl (fun d hd => by cases hd; decide) (z := str []) (by kernel_rfl) (Eq.mp (by kernel_rfl) h)
/-! ### what is on the ways -/
abbrev Texts := List (List UInt8)
def Chn (H : Heap) (r : Nat) (q : Texts) : Prop := ∃ s rr, H[r]? = some (.chan 64 (q.map fun t => str t).toArray false s rr false)
theorem Chn.lt {r : Nat} {q : Texts} (h : Chn H r q) : r < H.size := by obtain ⟨_, _, h⟩ := h; exact lt_of_blk h
theorem Chn.keep {H' : Heap} {r : Nat} {q : Texts} (h : Chn H r q) (e : H'[r]? = H[r]?) : Chn H' r q := by obtain ⟨s, rr, h⟩ := h; exact ⟨s, rr, e.trans h⟩
/-- one of two -/
def pick2 {α : Type} (w : Int) (x y : α) : α := if w = 0 then x else y
structure Lk (H : Heap) (b c0 c1 : Nat) (Q : Int → Texts) : Prop where
  blk : H[b]? = some (.cells [.chan (some c0), .chan (some c1)].toArray 44 (0, 0))
  ch0 : Chn H c0 (Q 0)
  ch1 : Chn H c1 (Q 1)
  ne : c0 ≠ c1
  b0 : b ≠ c0
  b1 : b ≠ c1
  len : ∀ w, (Q w).length ≤ 64
def updQ (Q : Int → Texts) (w : Int) (q : Texts) : Int → Texts := fun i => if i = w then q else Q i
theorem updQ_self (Q : Int → Texts) (w : Int) (q : Texts) : updQ Q w q w = q := if_pos rfl
theorem updQ_ne {Q : Int → Texts} {w i : Int} {q : Texts} (h : i ≠ w) : updQ Q w q i = Q i := if_neg h
theorem updQ_upd (Q : Int → Texts) (w : Int) (q q' : Texts) : updQ (updQ Q w q) w q' = updQ Q w q' := by funext i; unfold updQ; split <;> rfl
theorem updQ_same (Q : Int → Texts) (w : Int) : updQ Q w (Q w) = Q := by funext i; unfold updQ; split <;> simp_all
/-- only the two channels turn -/
structure Only2 (c0 c1 : Nat) (H H' : Heap) : Prop where
  size : H.size ≤ H'.size
  same : ∀ i, i < H.size → i ≠ c0 → i ≠ c1 → H'[i]? = H[i]?
theorem Only2.refl {c0 c1 : Nat} : Only2 c0 c1 H H := ⟨Nat.le_refl _, fun _ _ _ _ => rfl⟩
theorem Only2.trans {c0 c1 : Nat} {A B C : Heap} (h : Only2 c0 c1 A B) (k : Only2 c0 c1 B C) : Only2 c0 c1 A C :=
  ⟨Nat.le_trans h.size k.size, fun i hi hb hr => (k.same i (Nat.lt_of_lt_of_le hi h.size) hb hr).trans (h.same i hi hb hr)⟩
theorem Only2.of_ext {c0 c1 : Nat} {A B : Heap} (h : Ext A B) : Only2 c0 c1 A B := ⟨h.size, fun i hi _ _ => h.get i hi⟩
variable {b c0 c1 : Nat} {Q : Int → Texts} {w : Int}
theorem Lk.ext {H' : Heap} (h : Lk H b c0 c1 Q) (hx : Ext H H') : Lk H' b c0 c1 Q :=
  { h with blk := hx.blk h.blk, ch0 := h.ch0.keep (hx.get _ h.ch0.lt), ch1 := h.ch1.keep (hx.get _ h.ch1.lt) }
theorem Lk.chn (h : Lk H b c0 c1 Q) (hw : w = 0 ∨ w = 1) : Chn H (pick2 w c0 c1) (Q w) := by
  rcases hw with rfl | rfl
  · exact h.ch0
  · exact h.ch1
theorem Lk.set {s rr : Nat} {q : Texts} (h : Lk H b c0 c1 Q) (hw : w = 0 ∨ w = 1) (hq : q.length ≤ 64) :
    Lk (H.setIfInBounds (pick2 w c0 c1) (.chan 64 (q.map fun t => str t).toArray false s rr false)) b c0 c1 (updQ Q w q) ∧ Only2 c0 c1 H (H.setIfInBounds (pick2 w c0 c1) (.chan 64 (q.map fun t => str t).toArray false s rr false)) := by
  have hlen : ∀ i, (updQ Q w q i).length ≤ 64 := fun i => by unfold updQ; split; exact hq; exact h.len i
  have hne := h.ne
  have hb0 := h.b0
  have hb1 := h.b1
  rcases hw with rfl | rfl
  · refine ⟨{ h with blk := (get_set_ne (Ne.symm hb0)).trans h.blk, ch0 := ⟨s, rr, get_set_self h.ch0.lt⟩, ch1 := ?_, len := hlen }, by simp, fun i hi h0 h1 => get_set_ne (Ne.symm h0)⟩
    rw [updQ_ne (by decide)]
    exact h.ch1.keep (get_set_ne hne)
  · refine ⟨{ h with blk := (get_set_ne (Ne.symm hb1)).trans h.blk, ch1 := ⟨s, rr, get_set_self h.ch1.lt⟩, ch0 := ?_, len := hlen }, by simp, fun i hi h0 h1 => get_set_ne (Ne.symm h1)⟩
    rw [updQ_ne (by decide)]
    exact h.ch0.keep (get_set_ne (Ne.symm hne))
theorem way_nil (h : R (.chan none) H) : CallsH Try.prog 16 #[.pointer none, .int .i64 w] H R := by
  refine link_Link_way.vc _ _ _ _ ?_
  unfold link_Link_way.res
  simp only [pPick_v, pNil_v, pNil_f, pAdd_v, pSub_v, pMul_v, pAdd_s, pQuo_v, pRem_v, pBits_v, pShl_v, pShr_v, pLt_v, pLe_v, pGt_v, pGe_v, pEq_0, pNe_0, pEq_1, pNe_1, pEq_2, pNe_2, pEq_3n, pNe_3n, pEq_3s, pNe_3s, pEq_3t, pNe_3t, pEq_5n, pNe_5n, pEq_5s, pNe_5s, pEq_5t, pNe_5t, pEq_4n, pNe_4n, pEq_4s, pNe_4s, pNot_v, pNeg_v, pCom_v, pConv_v, pConvS_v, pMin_v, pMax_v, pFieldAddr_v, pField1_v, pFieldN_v, pExtract_v, pIdxArr_v, pIdxSl_v, pIdxStr_v, pBounds_00, pBounds_10, pBounds_01, pBounds_11, pSlStr_v, pSlSl_v, pSlArr_v, pLenS_v, pLen_v, pCap_v, pBuild_n, pBuild_c, cells_int, cells_str, cells_bool, cells_ptr, cells_slice, cells_map, cells_agg, oneCell_int, oneCell_str, oneCell_bool, oneCell_ptr, oneCell_slice, oneCell_map, putL_cons, putL_nil, pAnd_pure, pOr_pure, pAnd_pureE, pOr_pureE, pAnd_false, pOr_true, pCond_true, pCond_false, add_mk, bys_mk, bys_size, cond_true, cond_false, decide_true, decide_false, decide_not', dec_and, dec_or, dec_eqt, Bool.not_true, Bool.not_false, Option.isNone_none, Option.isNone_some, Option.map_some, Option.map_none, List.getElem?_toArray, List.getElem?_cons_zero, List.getElem?_cons_succ, List.size_toArray, List.length_cons, List.length_nil, List.length_replicate, List.set_cons_zero, List.set_cons_succ, Nat.reduceAdd, Nat.reduceMul, Nat.reduceSub, Nat.reduceLeDiff, Nat.zero_add, Nat.add_zero, Nat.zero_le, true_and, and_true, not_false_eq_true, ne_eq, Int.reduceNeg, Int.reduceEq, Int.reduceNe, Int.reduceLT, Int.reduceLE, le_refl', List.setIfInBounds_toArray, Nat.reduceLT, Array.size_setIfInBounds, if_true, if_false, reduceCtorEq, List.toArray_toList', List.drop_succ_cons, List.drop_zero, List.take_succ_cons, List.take_zero, List.nil_append, List.append_nil, List.cons_append, Bool.and_true, Bool.true_and, Bool.or_false, Bool.false_or, Bool.and_false, Bool.or_true, Bool.true_or, Bool.false_and, eq_self]
  exact fun _ _ => h
theorem way_none (hw : ¬ (w = 0 ∨ w = 1)) (h : R (.chan none) H) : CallsH Try.prog 16 #[.pointer (some ⟨b, 0, none⟩), .int .i64 w] H R := by
  refine link_Link_way.vc _ _ _ _ ?_
  unfold link_Link_way.res
  simp only [pPick_v, pNil_v, pNil_f, pAdd_v, pSub_v, pMul_v, pAdd_s, pQuo_v, pRem_v, pBits_v, pShl_v, pShr_v, pLt_v, pLe_v, pGt_v, pGe_v, pEq_0, pNe_0, pEq_1, pNe_1, pEq_2, pNe_2, pEq_3n, pNe_3n, pEq_3s, pNe_3s, pEq_3t, pNe_3t, pEq_5n, pNe_5n, pEq_5s, pNe_5s, pEq_5t, pNe_5t, pEq_4n, pNe_4n, pEq_4s, pNe_4s, pNot_v, pNeg_v, pCom_v, pConv_v, pConvS_v, pMin_v, pMax_v, pFieldAddr_v, pField1_v, pFieldN_v, pExtract_v, pIdxArr_v, pIdxSl_v, pIdxStr_v, pBounds_00, pBounds_10, pBounds_01, pBounds_11, pSlStr_v, pSlSl_v, pSlArr_v, pLenS_v, pLen_v, pCap_v, pBuild_n, pBuild_c, cells_int, cells_str, cells_bool, cells_ptr, cells_slice, cells_map, cells_agg, oneCell_int, oneCell_str, oneCell_bool, oneCell_ptr, oneCell_slice, oneCell_map, putL_cons, putL_nil, pAnd_pure, pOr_pure, pAnd_pureE, pOr_pureE, pAnd_false, pOr_true, pCond_true, pCond_false, add_mk, bys_mk, bys_size, cond_true, cond_false, decide_true, decide_false, decide_not', dec_and, dec_or, dec_eqt, Bool.not_true, Bool.not_false, Option.isNone_none, Option.isNone_some, Option.map_some, Option.map_none, List.getElem?_toArray, List.getElem?_cons_zero, List.getElem?_cons_succ, List.size_toArray, List.length_cons, List.length_nil, List.length_replicate, List.set_cons_zero, List.set_cons_succ, Nat.reduceAdd, Nat.reduceMul, Nat.reduceSub, Nat.reduceLeDiff, Nat.zero_add, Nat.add_zero, Nat.zero_le, true_and, and_true, not_false_eq_true, ne_eq, Int.reduceNeg, Int.reduceEq, Int.reduceNe, Int.reduceLT, Int.reduceLE, le_refl', List.setIfInBounds_toArray, Nat.reduceLT, Array.size_setIfInBounds, if_true, if_false, reduceCtorEq, List.toArray_toList', List.drop_succ_cons, List.drop_zero, List.take_succ_cons, List.take_zero, List.nil_append, List.append_nil, List.cons_append, Bool.and_true, Bool.true_and, Bool.or_false, Bool.false_or, Bool.and_false, Bool.or_true, Bool.true_or, Bool.false_and, eq_self]
  intros
  exact pCond_if (fun hc => h) (fun hc => by omega)
theorem way_spec (hl : Lk H b c0 c1 Q) (hw : w = 0 ∨ w = 1) (h : R (.chan (some (pick2 w c0 c1))) H) : CallsH Try.prog 16 #[.pointer (some ⟨b, 0, none⟩), .int .i64 w] H R := by
  refine link_Link_way.vc _ _ _ _ ?_
  unfold link_Link_way.res
  simp only [pPick_v, pNil_v, pNil_f, pAdd_v, pSub_v, pMul_v, pAdd_s, pQuo_v, pRem_v, pBits_v, pShl_v, pShr_v, pLt_v, pLe_v, pGt_v, pGe_v, pEq_0, pNe_0, pEq_1, pNe_1, pEq_2, pNe_2, pEq_3n, pNe_3n, pEq_3s, pNe_3s, pEq_3t, pNe_3t, pEq_5n, pNe_5n, pEq_5s, pNe_5s, pEq_5t, pNe_5t, pEq_4n, pNe_4n, pEq_4s, pNe_4s, pNot_v, pNeg_v, pCom_v, pConv_v, pConvS_v, pMin_v, pMax_v, pFieldAddr_v, pField1_v, pFieldN_v, pExtract_v, pIdxArr_v, pIdxSl_v, pIdxStr_v, pBounds_00, pBounds_10, pBounds_01, pBounds_11, pSlStr_v, pSlSl_v, pSlArr_v, pLenS_v, pLen_v, pCap_v, pBuild_n, pBuild_c, cells_int, cells_str, cells_bool, cells_ptr, cells_slice, cells_map, cells_agg, oneCell_int, oneCell_str, oneCell_bool, oneCell_ptr, oneCell_slice, oneCell_map, putL_cons, putL_nil, pAnd_pure, pOr_pure, pAnd_pureE, pOr_pureE, pAnd_false, pOr_true, pCond_true, pCond_false, add_mk, bys_mk, bys_size, cond_true, cond_false, decide_true, decide_false, decide_not', dec_and, dec_or, dec_eqt, Bool.not_true, Bool.not_false, Option.isNone_none, Option.isNone_some, Option.map_some, Option.map_none, List.getElem?_toArray, List.getElem?_cons_zero, List.getElem?_cons_succ, List.size_toArray, List.length_cons, List.length_nil, List.length_replicate, List.set_cons_zero, List.set_cons_succ, Nat.reduceAdd, Nat.reduceMul, Nat.reduceSub, Nat.reduceLeDiff, Nat.zero_add, Nat.add_zero, Nat.zero_le, true_and, and_true, not_false_eq_true, ne_eq, Int.reduceNeg, Int.reduceEq, Int.reduceNe, Int.reduceLT, Int.reduceLE, le_refl', List.setIfInBounds_toArray, Nat.reduceLT, Array.size_setIfInBounds, if_true, if_false, reduceCtorEq, List.toArray_toList', List.drop_succ_cons, List.drop_zero, List.take_succ_cons, List.take_zero, List.nil_append, List.append_nil, List.cons_append, Bool.and_true, Bool.true_and, Bool.or_false, Bool.false_or, Bool.and_false, Bool.or_true, Bool.true_or, Bool.false_and, eq_self]
  intros
  refine pCond_if (fun hc => by omega) (fun hc => ?_)
  refine ⟨by omega, by omega, ?_⟩
  rcases hw with rfl | rfl
  · exact pLoad_l hl.blk rfl h
  · exact pLoad_l hl.blk rfl h
/-- no link, or no such way -/
def NoWay (l : Value) (w : Int) : Prop := l = .pointer none ∨ (¬ (w = 0 ∨ w = 1) ∧ ∃ b : Nat, l = .pointer (some ⟨b, 0, none⟩))
theorem way_no {l : Value} (hn : NoWay l w) (h : R (.chan none) H) : CallsH Try.prog 16 #[l, .int .i64 w] H R := by
  rcases hn with rfl | ⟨hw, b, rfl⟩
  · exact way_nil h
  · exact way_none hw h
theorem put_no {l s : Value} (hn : NoWay l w) (h : R (.bool false) H) : CallsH Try.prog 9 #[l, .int .i64 w, s] H R := by
  refine link_Link_Put.vc _ _ _ _ _ ?_
  unfold link_Link_Put.res
  refine way_no hn ?_
  simp only [pSel, pPick_v, pNil_v, pNil_f, pAdd_v, pSub_v, pMul_v, pAdd_s, pQuo_v, pRem_v, pBits_v, pShl_v, pShr_v, pLt_v, pLe_v, pGt_v, pGe_v, pEq_0, pNe_0, pEq_1, pNe_1, pEq_2, pNe_2, pEq_3n, pNe_3n, pEq_3s, pNe_3s, pEq_3t, pNe_3t, pEq_5n, pNe_5n, pEq_5s, pNe_5s, pEq_5t, pNe_5t, pEq_4n, pNe_4n, pEq_4s, pNe_4s, pNot_v, pNeg_v, pCom_v, pConv_v, pConvS_v, pMin_v, pMax_v, pFieldAddr_v, pField1_v, pFieldN_v, pExtract_v, pIdxArr_v, pIdxSl_v, pIdxStr_v, pBounds_00, pBounds_10, pBounds_01, pBounds_11, pSlStr_v, pSlSl_v, pSlArr_v, pLenS_v, pLen_v, pCap_v, pBuild_n, pBuild_c, cells_int, cells_str, cells_bool, cells_ptr, cells_slice, cells_map, cells_agg, oneCell_int, oneCell_str, oneCell_bool, oneCell_ptr, oneCell_slice, oneCell_map, putL_cons, putL_nil, pAnd_pure, pOr_pure, pAnd_pureE, pOr_pureE, pAnd_false, pOr_true, pCond_true, pCond_false, add_mk, bys_mk, bys_size, cond_true, cond_false, decide_true, decide_false, decide_not', dec_and, dec_or, dec_eqt, Bool.not_true, Bool.not_false, Option.isNone_none, Option.isNone_some, Option.map_some, Option.map_none, List.getElem?_toArray, List.getElem?_cons_zero, List.getElem?_cons_succ, List.size_toArray, List.length_cons, List.length_nil, List.length_replicate, List.set_cons_zero, List.set_cons_succ, Nat.reduceAdd, Nat.reduceMul, Nat.reduceSub, Nat.reduceLeDiff, Nat.zero_add, Nat.add_zero, Nat.zero_le, true_and, and_true, not_false_eq_true, ne_eq, Int.reduceNeg, Int.reduceEq, Int.reduceNe, Int.reduceLT, Int.reduceLE, le_refl', List.setIfInBounds_toArray, Nat.reduceLT, Array.size_setIfInBounds, if_true, if_false, reduceCtorEq, List.toArray_toList', List.drop_succ_cons, List.drop_zero, List.take_succ_cons, List.take_zero, List.nil_append, List.append_nil, List.cons_append, Bool.and_true, Bool.true_and, Bool.or_false, Bool.false_or, Bool.and_false, Bool.or_true, Bool.true_or, Bool.false_and, eq_self]
  exact h
theorem take_no {l : Value} (hn : NoWay l w) (h : R (.tuple #[str [], .bool false]) H) : CallsH Try.prog 11 #[l, .int .i64 w] H R := by
  refine link_Link_Take.vc _ _ _ _ ?_
  unfold link_Link_Take.res
  refine way_no hn ?_
  simp only [pSel, pPick_v, pNil_v, pNil_f, pAdd_v, pSub_v, pMul_v, pAdd_s, pQuo_v, pRem_v, pBits_v, pShl_v, pShr_v, pLt_v, pLe_v, pGt_v, pGe_v, pEq_0, pNe_0, pEq_1, pNe_1, pEq_2, pNe_2, pEq_3n, pNe_3n, pEq_3s, pNe_3s, pEq_3t, pNe_3t, pEq_5n, pNe_5n, pEq_5s, pNe_5s, pEq_5t, pNe_5t, pEq_4n, pNe_4n, pEq_4s, pNe_4s, pNot_v, pNeg_v, pCom_v, pConv_v, pConvS_v, pMin_v, pMax_v, pFieldAddr_v, pField1_v, pFieldN_v, pExtract_v, pIdxArr_v, pIdxSl_v, pIdxStr_v, pBounds_00, pBounds_10, pBounds_01, pBounds_11, pSlStr_v, pSlSl_v, pSlArr_v, pLenS_v, pLen_v, pCap_v, pBuild_n, pBuild_c, cells_int, cells_str, cells_bool, cells_ptr, cells_slice, cells_map, cells_agg, oneCell_int, oneCell_str, oneCell_bool, oneCell_ptr, oneCell_slice, oneCell_map, putL_cons, putL_nil, pAnd_pure, pOr_pure, pAnd_pureE, pOr_pureE, pAnd_false, pOr_true, pCond_true, pCond_false, add_mk, bys_mk, bys_size, cond_true, cond_false, decide_true, decide_false, decide_not', dec_and, dec_or, dec_eqt, Bool.not_true, Bool.not_false, Option.isNone_none, Option.isNone_some, Option.map_some, Option.map_none, List.getElem?_toArray, List.getElem?_cons_zero, List.getElem?_cons_succ, List.size_toArray, List.length_cons, List.length_nil, List.length_replicate, List.set_cons_zero, List.set_cons_succ, Nat.reduceAdd, Nat.reduceMul, Nat.reduceSub, Nat.reduceLeDiff, Nat.zero_add, Nat.add_zero, Nat.zero_le, true_and, and_true, not_false_eq_true, ne_eq, Int.reduceNeg, Int.reduceEq, Int.reduceNe, Int.reduceLT, Int.reduceLE, le_refl', List.setIfInBounds_toArray, Nat.reduceLT, Array.size_setIfInBounds, if_true, if_false, reduceCtorEq, List.toArray_toList', List.drop_succ_cons, List.drop_zero, List.take_succ_cons, List.take_zero, List.nil_append, List.append_nil, List.cons_append, Bool.and_true, Bool.true_and, Bool.or_false, Bool.false_or, Bool.and_false, Bool.or_true, Bool.true_or, Bool.false_and, eq_self]
  exact h
theorem len_no {l : Value} (hn : NoWay l w) (h : R (.int .i64 0) H) : CallsH Try.prog 12 #[l, .int .i64 w] H R := by
  refine link_Link_Len.vc _ _ _ _ ?_
  unfold link_Link_Len.res
  refine way_no hn ?_
  simp only [pLenC]
  exact h
theorem turn_no {l : Value} (hn : NoWay l w) (h : R (.bool false) H) : CallsH Try.prog 10 #[l, .int .i64 w] H R := by
  refine link_Link_Turn.vc _ _ _ _ ?_
  unfold link_Link_Turn.res
  refine take_no hn ?_
  simp only [pPick_v, pNil_v, pNil_f, pAdd_v, pSub_v, pMul_v, pAdd_s, pQuo_v, pRem_v, pBits_v, pShl_v, pShr_v, pLt_v, pLe_v, pGt_v, pGe_v, pEq_0, pNe_0, pEq_1, pNe_1, pEq_2, pNe_2, pEq_3n, pNe_3n, pEq_3s, pNe_3s, pEq_3t, pNe_3t, pEq_5n, pNe_5n, pEq_5s, pNe_5s, pEq_5t, pNe_5t, pEq_4n, pNe_4n, pEq_4s, pNe_4s, pNot_v, pNeg_v, pCom_v, pConv_v, pConvS_v, pMin_v, pMax_v, pFieldAddr_v, pField1_v, pFieldN_v, pExtract_v, pIdxArr_v, pIdxSl_v, pIdxStr_v, pBounds_00, pBounds_10, pBounds_01, pBounds_11, pSlStr_v, pSlSl_v, pSlArr_v, pLenS_v, pLen_v, pCap_v, pBuild_n, pBuild_c, cells_int, cells_str, cells_bool, cells_ptr, cells_slice, cells_map, cells_agg, oneCell_int, oneCell_str, oneCell_bool, oneCell_ptr, oneCell_slice, oneCell_map, putL_cons, putL_nil, pAnd_pure, pOr_pure, pAnd_pureE, pOr_pureE, pAnd_false, pOr_true, pCond_true, pCond_false, add_mk, bys_mk, bys_size, cond_true, cond_false, decide_true, decide_false, decide_not', dec_and, dec_or, dec_eqt, Bool.not_true, Bool.not_false, Option.isNone_none, Option.isNone_some, Option.map_some, Option.map_none, List.getElem?_toArray, List.getElem?_cons_zero, List.getElem?_cons_succ, List.size_toArray, List.length_cons, List.length_nil, List.length_replicate, List.set_cons_zero, List.set_cons_succ, Nat.reduceAdd, Nat.reduceMul, Nat.reduceSub, Nat.reduceLeDiff, Nat.zero_add, Nat.add_zero, Nat.zero_le, true_and, and_true, not_false_eq_true, ne_eq, Int.reduceNeg, Int.reduceEq, Int.reduceNe, Int.reduceLT, Int.reduceLE, le_refl', List.setIfInBounds_toArray, Nat.reduceLT, Array.size_setIfInBounds, if_true, if_false, reduceCtorEq, List.toArray_toList', List.drop_succ_cons, List.drop_zero, List.take_succ_cons, List.take_zero, List.nil_append, List.append_nil, List.cons_append, Bool.and_true, Bool.true_and, Bool.or_false, Bool.false_or, Bool.and_false, Bool.or_true, Bool.true_or, Bool.false_and, eq_self]
  exact fun _ => h
theorem change_no {l f : Value} (hn : NoWay l w) (h : R (.bool false) H) : CallsH Try.prog 17 #[l, .int .i64 w, f] H R := by
  refine link_Link_change.vc _ _ _ _ _ ?_
  unfold link_Link_change.res
  refine len_no hn ?_
  refine take_no hn ?_
  simp only [pPick_v, pNil_v, pNil_f, pAdd_v, pSub_v, pMul_v, pAdd_s, pQuo_v, pRem_v, pBits_v, pShl_v, pShr_v, pLt_v, pLe_v, pGt_v, pGe_v, pEq_0, pNe_0, pEq_1, pNe_1, pEq_2, pNe_2, pEq_3n, pNe_3n, pEq_3s, pNe_3s, pEq_3t, pNe_3t, pEq_5n, pNe_5n, pEq_5s, pNe_5s, pEq_5t, pNe_5t, pEq_4n, pNe_4n, pEq_4s, pNe_4s, pNot_v, pNeg_v, pCom_v, pConv_v, pConvS_v, pMin_v, pMax_v, pFieldAddr_v, pField1_v, pFieldN_v, pExtract_v, pIdxArr_v, pIdxSl_v, pIdxStr_v, pBounds_00, pBounds_10, pBounds_01, pBounds_11, pSlStr_v, pSlSl_v, pSlArr_v, pLenS_v, pLen_v, pCap_v, pBuild_n, pBuild_c, cells_int, cells_str, cells_bool, cells_ptr, cells_slice, cells_map, cells_agg, oneCell_int, oneCell_str, oneCell_bool, oneCell_ptr, oneCell_slice, oneCell_map, putL_cons, putL_nil, pAnd_pure, pOr_pure, pAnd_pureE, pOr_pureE, pAnd_false, pOr_true, pCond_true, pCond_false, add_mk, bys_mk, bys_size, cond_true, cond_false, decide_true, decide_false, decide_not', dec_and, dec_or, dec_eqt, Bool.not_true, Bool.not_false, Option.isNone_none, Option.isNone_some, Option.map_some, Option.map_none, List.getElem?_toArray, List.getElem?_cons_zero, List.getElem?_cons_succ, List.size_toArray, List.length_cons, List.length_nil, List.length_replicate, List.set_cons_zero, List.set_cons_succ, Nat.reduceAdd, Nat.reduceMul, Nat.reduceSub, Nat.reduceLeDiff, Nat.zero_add, Nat.add_zero, Nat.zero_le, true_and, and_true, not_false_eq_true, ne_eq, Int.reduceNeg, Int.reduceEq, Int.reduceNe, Int.reduceLT, Int.reduceLE, le_refl', List.setIfInBounds_toArray, Nat.reduceLT, Array.size_setIfInBounds, if_true, if_false, reduceCtorEq, List.toArray_toList', List.drop_succ_cons, List.drop_zero, List.take_succ_cons, List.take_zero, List.nil_append, List.append_nil, List.cons_append, Bool.and_true, Bool.true_and, Bool.or_false, Bool.false_or, Bool.and_false, Bool.or_true, Bool.true_or, Bool.false_and, eq_self]
  exact h
theorem spoil_no {l : Value} {at_ bits : Int} (hn : NoWay l w) (h : ∀ H', Ext H H' → R (.bool false) H') : CallsH Try.prog 13 #[l, .int .i64 w, .int .i64 at_, .int .u32 bits] H R := by
  refine link_Link_Spoil.vc _ _ _ _ _ _ ?_
  unfold link_Link_Spoil.res
  refine pBox_ext fun H1 s1 e1 b1 => ?_
  refine pBox_ext fun H2 s2 e2 b2 => ?_
  exact change_no hn (h _ (e1.trans e2))
theorem twice_no {l : Value} (hn : NoWay l w) (h : ∀ H', Ext H H' → R (.bool false) H') : CallsH Try.prog 14 #[l, .int .i64 w] H R := by
  refine link_Link_Twice.vc _ _ _ _ ?_
  unfold link_Link_Twice.res
  refine len_no hn ?_
  simp only [pPick_v, pNil_v, pNil_f, pAdd_v, pSub_v, pMul_v, pAdd_s, pQuo_v, pRem_v, pBits_v, pShl_v, pShr_v, pLt_v, pLe_v, pGt_v, pGe_v, pEq_0, pNe_0, pEq_1, pNe_1, pEq_2, pNe_2, pEq_3n, pNe_3n, pEq_3s, pNe_3s, pEq_3t, pNe_3t, pEq_5n, pNe_5n, pEq_5s, pNe_5s, pEq_5t, pNe_5t, pEq_4n, pNe_4n, pEq_4s, pNe_4s, pNot_v, pNeg_v, pCom_v, pConv_v, pConvS_v, pMin_v, pMax_v, pFieldAddr_v, pField1_v, pFieldN_v, pExtract_v, pIdxArr_v, pIdxSl_v, pIdxStr_v, pBounds_00, pBounds_10, pBounds_01, pBounds_11, pSlStr_v, pSlSl_v, pSlArr_v, pLenS_v, pLen_v, pCap_v, pBuild_n, pBuild_c, cells_int, cells_str, cells_bool, cells_ptr, cells_slice, cells_map, cells_agg, oneCell_int, oneCell_str, oneCell_bool, oneCell_ptr, oneCell_slice, oneCell_map, putL_cons, putL_nil, pAnd_pure, pOr_pure, pAnd_pureE, pOr_pureE, pAnd_false, pOr_true, pCond_true, pCond_false, add_mk, bys_mk, bys_size, cond_true, cond_false, decide_true, decide_false, decide_not', dec_and, dec_or, dec_eqt, Bool.not_true, Bool.not_false, Option.isNone_none, Option.isNone_some, Option.map_some, Option.map_none, List.getElem?_toArray, List.getElem?_cons_zero, List.getElem?_cons_succ, List.size_toArray, List.length_cons, List.length_nil, List.length_replicate, List.set_cons_zero, List.set_cons_succ, Nat.reduceAdd, Nat.reduceMul, Nat.reduceSub, Nat.reduceLeDiff, Nat.zero_add, Nat.add_zero, Nat.zero_le, true_and, and_true, not_false_eq_true, ne_eq, Int.reduceNeg, Int.reduceEq, Int.reduceNe, Int.reduceLT, Int.reduceLE, le_refl', List.setIfInBounds_toArray, Nat.reduceLT, Array.size_setIfInBounds, if_true, if_false, reduceCtorEq, List.toArray_toList', List.drop_succ_cons, List.drop_zero, List.take_succ_cons, List.take_zero, List.nil_append, List.append_nil, List.cons_append, Bool.and_true, Bool.true_and, Bool.or_false, Bool.false_or, Bool.and_false, Bool.or_true, Bool.true_or, Bool.false_and, eq_self]
  have o := Owns.start (H := H)
  refine o.box fun m H1 o _ => ?_
  change Owns H H1 [.box m [str []] _] at o
  refine o.bstore (by repeat (first | exact List.mem_cons_self | apply List.mem_cons_of_mem)) (by simp) rfl (by repeat (first | exact Rep.here | apply Rep.there)) fun H2 o _ => ?_
  refine change_no hn ?_
  simp only [pPick_v, pNil_v, pNil_f, pAdd_v, pSub_v, pMul_v, pAdd_s, pQuo_v, pRem_v, pBits_v, pShl_v, pShr_v, pLt_v, pLe_v, pGt_v, pGe_v, pEq_0, pNe_0, pEq_1, pNe_1, pEq_2, pNe_2, pEq_3n, pNe_3n, pEq_3s, pNe_3s, pEq_3t, pNe_3t, pEq_5n, pNe_5n, pEq_5s, pNe_5s, pEq_5t, pNe_5t, pEq_4n, pNe_4n, pEq_4s, pNe_4s, pNot_v, pNeg_v, pCom_v, pConv_v, pConvS_v, pMin_v, pMax_v, pFieldAddr_v, pField1_v, pFieldN_v, pExtract_v, pIdxArr_v, pIdxSl_v, pIdxStr_v, pBounds_00, pBounds_10, pBounds_01, pBounds_11, pSlStr_v, pSlSl_v, pSlArr_v, pLenS_v, pLen_v, pCap_v, pBuild_n, pBuild_c, cells_int, cells_str, cells_bool, cells_ptr, cells_slice, cells_map, cells_agg, oneCell_int, oneCell_str, oneCell_bool, oneCell_ptr, oneCell_slice, oneCell_map, putL_cons, putL_nil, pAnd_pure, pOr_pure, pAnd_pureE, pOr_pureE, pAnd_false, pOr_true, pCond_true, pCond_false, add_mk, bys_mk, bys_size, cond_true, cond_false, decide_true, decide_false, decide_not', dec_and, dec_or, dec_eqt, Bool.not_true, Bool.not_false, Option.isNone_none, Option.isNone_some, Option.map_some, Option.map_none, List.getElem?_toArray, List.getElem?_cons_zero, List.getElem?_cons_succ, List.size_toArray, List.length_cons, List.length_nil, List.length_replicate, List.set_cons_zero, List.set_cons_succ, Nat.reduceAdd, Nat.reduceMul, Nat.reduceSub, Nat.reduceLeDiff, Nat.zero_add, Nat.add_zero, Nat.zero_le, true_and, and_true, not_false_eq_true, ne_eq, Int.reduceNeg, Int.reduceEq, Int.reduceNe, Int.reduceLT, Int.reduceLE, le_refl', List.setIfInBounds_toArray, Nat.reduceLT, Array.size_setIfInBounds, if_true, if_false, reduceCtorEq, List.toArray_toList', List.drop_succ_cons, List.drop_zero, List.take_succ_cons, List.take_zero, List.nil_append, List.append_nil, List.cons_append, Bool.and_true, Bool.true_and, Bool.or_false, Bool.false_or, Bool.and_false, Bool.or_true, Bool.true_or, Bool.false_and, eq_self]
  exact h _ o.ext
theorem put_spec {s : List UInt8} (hl : Lk H b c0 c1 Q) (hw : w = 0 ∨ w = 1) (hno : (Q w).length = 64 → R (.bool false) H)
    (hyes : (Q w).length < 64 → ∀ H', Lk H' b c0 c1 (updQ Q w (Q w ++ [s])) → Only2 c0 c1 H H' → R (.bool true) H') : CallsH Try.prog 9 #[.pointer (some ⟨b, 0, none⟩), .int .i64 w, str s] H R := by
  refine link_Link_Put.vc _ _ _ _ _ ?_
  unfold link_Link_Put.res
  refine way_spec hl hw ?_
  obtain ⟨sc, rr, hc⟩ := hl.chn hw
  have hle := hl.len w
  simp only [pSel, hc]
  refine ⟨fun hlt => ?_, fun hge => ?_⟩
  · simp only [List.size_toArray, List.length_map] at hlt
    simp only [pPick_v, pNil_v, pNil_f, pAdd_v, pSub_v, pMul_v, pAdd_s, pQuo_v, pRem_v, pBits_v, pShl_v, pShr_v, pLt_v, pLe_v, pGt_v, pGe_v, pEq_0, pNe_0, pEq_1, pNe_1, pEq_2, pNe_2, pEq_3n, pNe_3n, pEq_3s, pNe_3s, pEq_3t, pNe_3t, pEq_5n, pNe_5n, pEq_5s, pNe_5s, pEq_5t, pNe_5t, pEq_4n, pNe_4n, pEq_4s, pNe_4s, pNot_v, pNeg_v, pCom_v, pConv_v, pConvS_v, pMin_v, pMax_v, pFieldAddr_v, pField1_v, pFieldN_v, pExtract_v, pIdxArr_v, pIdxSl_v, pIdxStr_v, pBounds_00, pBounds_10, pBounds_01, pBounds_11, pSlStr_v, pSlSl_v, pSlArr_v, pLenS_v, pLen_v, pCap_v, pBuild_n, pBuild_c, cells_int, cells_str, cells_bool, cells_ptr, cells_slice, cells_map, cells_agg, oneCell_int, oneCell_str, oneCell_bool, oneCell_ptr, oneCell_slice, oneCell_map, putL_cons, putL_nil, pAnd_pure, pOr_pure, pAnd_pureE, pOr_pureE, pAnd_false, pOr_true, pCond_true, pCond_false, add_mk, bys_mk, bys_size, cond_true, cond_false, decide_true, decide_false, decide_not', dec_and, dec_or, dec_eqt, Bool.not_true, Bool.not_false, Option.isNone_none, Option.isNone_some, Option.map_some, Option.map_none, List.getElem?_toArray, List.getElem?_cons_zero, List.getElem?_cons_succ, List.size_toArray, List.length_cons, List.length_nil, List.length_replicate, List.set_cons_zero, List.set_cons_succ, Nat.reduceAdd, Nat.reduceMul, Nat.reduceSub, Nat.reduceLeDiff, Nat.zero_add, Nat.add_zero, Nat.zero_le, true_and, and_true, not_false_eq_true, ne_eq, Int.reduceNeg, Int.reduceEq, Int.reduceNe, Int.reduceLT, Int.reduceLE, le_refl', List.setIfInBounds_toArray, Nat.reduceLT, Array.size_setIfInBounds, if_true, if_false, reduceCtorEq, List.toArray_toList', List.drop_succ_cons, List.drop_zero, List.take_succ_cons, List.take_zero, List.nil_append, List.append_nil, List.cons_append, Bool.and_true, Bool.true_and, Bool.or_false, Bool.false_or, Bool.and_false, Bool.or_true, Bool.true_or, Bool.false_and, eq_self]
    have e : ((Q w).map fun t => str t).toArray.push (str s) = (((Q w) ++ [s]).map fun t => str t).toArray := by simp
    rw [e]
    obtain ⟨h1, h2⟩ := hl.set (s := sc + 1) (rr := rr) hw (q := Q w ++ [s]) (by simp; omega)
    exact hyes hlt _ h1 h2
  · simp only [List.size_toArray, List.length_map] at hge
    simp only [pPick_v, pNil_v, pNil_f, pAdd_v, pSub_v, pMul_v, pAdd_s, pQuo_v, pRem_v, pBits_v, pShl_v, pShr_v, pLt_v, pLe_v, pGt_v, pGe_v, pEq_0, pNe_0, pEq_1, pNe_1, pEq_2, pNe_2, pEq_3n, pNe_3n, pEq_3s, pNe_3s, pEq_3t, pNe_3t, pEq_5n, pNe_5n, pEq_5s, pNe_5s, pEq_5t, pNe_5t, pEq_4n, pNe_4n, pEq_4s, pNe_4s, pNot_v, pNeg_v, pCom_v, pConv_v, pConvS_v, pMin_v, pMax_v, pFieldAddr_v, pField1_v, pFieldN_v, pExtract_v, pIdxArr_v, pIdxSl_v, pIdxStr_v, pBounds_00, pBounds_10, pBounds_01, pBounds_11, pSlStr_v, pSlSl_v, pSlArr_v, pLenS_v, pLen_v, pCap_v, pBuild_n, pBuild_c, cells_int, cells_str, cells_bool, cells_ptr, cells_slice, cells_map, cells_agg, oneCell_int, oneCell_str, oneCell_bool, oneCell_ptr, oneCell_slice, oneCell_map, putL_cons, putL_nil, pAnd_pure, pOr_pure, pAnd_pureE, pOr_pureE, pAnd_false, pOr_true, pCond_true, pCond_false, add_mk, bys_mk, bys_size, cond_true, cond_false, decide_true, decide_false, decide_not', dec_and, dec_or, dec_eqt, Bool.not_true, Bool.not_false, Option.isNone_none, Option.isNone_some, Option.map_some, Option.map_none, List.getElem?_toArray, List.getElem?_cons_zero, List.getElem?_cons_succ, List.size_toArray, List.length_cons, List.length_nil, List.length_replicate, List.set_cons_zero, List.set_cons_succ, Nat.reduceAdd, Nat.reduceMul, Nat.reduceSub, Nat.reduceLeDiff, Nat.zero_add, Nat.add_zero, Nat.zero_le, true_and, and_true, not_false_eq_true, ne_eq, Int.reduceNeg, Int.reduceEq, Int.reduceNe, Int.reduceLT, Int.reduceLE, le_refl', List.setIfInBounds_toArray, Nat.reduceLT, Array.size_setIfInBounds, if_true, if_false, reduceCtorEq, List.toArray_toList', List.drop_succ_cons, List.drop_zero, List.take_succ_cons, List.take_zero, List.nil_append, List.append_nil, List.cons_append, Bool.and_true, Bool.true_and, Bool.or_false, Bool.false_or, Bool.and_false, Bool.or_true, Bool.true_or, Bool.false_and, eq_self]
    exact hno (by omega)
theorem take_spec (hl : Lk H b c0 c1 Q) (hw : w = 0 ∨ w = 1) (hno : Q w = [] → R (.tuple #[str [], .bool false]) H)
    (hyes : ∀ t q H', Q w = t :: q → Lk H' b c0 c1 (updQ Q w q) → Only2 c0 c1 H H' → R (.tuple #[str t, .bool true]) H') : CallsH Try.prog 11 #[.pointer (some ⟨b, 0, none⟩), .int .i64 w] H R := by
  refine link_Link_Take.vc _ _ _ _ ?_
  unfold link_Link_Take.res
  refine way_spec hl hw ?_
  obtain ⟨sc, rr, hc⟩ := hl.chn hw
  have hle := hl.len w
  simp only [pSel, hc]
  refine ⟨fun h0 => ?_, fun h1 => ?_⟩
  · simp only [pPick_v, pNil_v, pNil_f, pAdd_v, pSub_v, pMul_v, pAdd_s, pQuo_v, pRem_v, pBits_v, pShl_v, pShr_v, pLt_v, pLe_v, pGt_v, pGe_v, pEq_0, pNe_0, pEq_1, pNe_1, pEq_2, pNe_2, pEq_3n, pNe_3n, pEq_3s, pNe_3s, pEq_3t, pNe_3t, pEq_5n, pNe_5n, pEq_5s, pNe_5s, pEq_5t, pNe_5t, pEq_4n, pNe_4n, pEq_4s, pNe_4s, pNot_v, pNeg_v, pCom_v, pConv_v, pConvS_v, pMin_v, pMax_v, pFieldAddr_v, pField1_v, pFieldN_v, pExtract_v, pIdxArr_v, pIdxSl_v, pIdxStr_v, pBounds_00, pBounds_10, pBounds_01, pBounds_11, pSlStr_v, pSlSl_v, pSlArr_v, pLenS_v, pLen_v, pCap_v, pBuild_n, pBuild_c, cells_int, cells_str, cells_bool, cells_ptr, cells_slice, cells_map, cells_agg, oneCell_int, oneCell_str, oneCell_bool, oneCell_ptr, oneCell_slice, oneCell_map, putL_cons, putL_nil, pAnd_pure, pOr_pure, pAnd_pureE, pOr_pureE, pAnd_false, pOr_true, pCond_true, pCond_false, add_mk, bys_mk, bys_size, cond_true, cond_false, decide_true, decide_false, decide_not', dec_and, dec_or, dec_eqt, Bool.not_true, Bool.not_false, Option.isNone_none, Option.isNone_some, Option.map_some, Option.map_none, List.getElem?_toArray, List.getElem?_cons_zero, List.getElem?_cons_succ, List.size_toArray, List.length_cons, List.length_nil, List.length_replicate, List.set_cons_zero, List.set_cons_succ, Nat.reduceAdd, Nat.reduceMul, Nat.reduceSub, Nat.reduceLeDiff, Nat.zero_add, Nat.add_zero, Nat.zero_le, true_and, and_true, not_false_eq_true, ne_eq, Int.reduceNeg, Int.reduceEq, Int.reduceNe, Int.reduceLT, Int.reduceLE, le_refl', List.setIfInBounds_toArray, Nat.reduceLT, Array.size_setIfInBounds, if_true, if_false, reduceCtorEq, List.toArray_toList', List.drop_succ_cons, List.drop_zero, List.take_succ_cons, List.take_zero, List.nil_append, List.append_nil, List.cons_append, Bool.and_true, Bool.true_and, Bool.or_false, Bool.false_or, Bool.and_false, Bool.or_true, Bool.true_or, Bool.false_and, eq_self]
    exact hno (by simpa using h0)
  · cases hq : Q w with
    | nil => rw [hq] at h1; simp at h1
    | cons t q =>
      rw [hq] at hc hle
      have e : (((t :: q).map fun t => str t).toArray.extract 1 ((t :: q).map fun t => str t).toArray.size) = (q.map fun t => str t).toArray := by simp; rw [List.take_of_length_le (by simp)]
      have e0 : (((t :: q).map fun t => str t).toArray.getD 0 undef) = str t := by simp
      rw [e, e0]
      simp only [pPick_v, pNil_v, pNil_f, pAdd_v, pSub_v, pMul_v, pAdd_s, pQuo_v, pRem_v, pBits_v, pShl_v, pShr_v, pLt_v, pLe_v, pGt_v, pGe_v, pEq_0, pNe_0, pEq_1, pNe_1, pEq_2, pNe_2, pEq_3n, pNe_3n, pEq_3s, pNe_3s, pEq_3t, pNe_3t, pEq_5n, pNe_5n, pEq_5s, pNe_5s, pEq_5t, pNe_5t, pEq_4n, pNe_4n, pEq_4s, pNe_4s, pNot_v, pNeg_v, pCom_v, pConv_v, pConvS_v, pMin_v, pMax_v, pFieldAddr_v, pField1_v, pFieldN_v, pExtract_v, pIdxArr_v, pIdxSl_v, pIdxStr_v, pBounds_00, pBounds_10, pBounds_01, pBounds_11, pSlStr_v, pSlSl_v, pSlArr_v, pLenS_v, pLen_v, pCap_v, pBuild_n, pBuild_c, cells_int, cells_str, cells_bool, cells_ptr, cells_slice, cells_map, cells_agg, oneCell_int, oneCell_str, oneCell_bool, oneCell_ptr, oneCell_slice, oneCell_map, putL_cons, putL_nil, pAnd_pure, pOr_pure, pAnd_pureE, pOr_pureE, pAnd_false, pOr_true, pCond_true, pCond_false, add_mk, bys_mk, bys_size, cond_true, cond_false, decide_true, decide_false, decide_not', dec_and, dec_or, dec_eqt, Bool.not_true, Bool.not_false, Option.isNone_none, Option.isNone_some, Option.map_some, Option.map_none, List.getElem?_toArray, List.getElem?_cons_zero, List.getElem?_cons_succ, List.size_toArray, List.length_cons, List.length_nil, List.length_replicate, List.set_cons_zero, List.set_cons_succ, Nat.reduceAdd, Nat.reduceMul, Nat.reduceSub, Nat.reduceLeDiff, Nat.zero_add, Nat.add_zero, Nat.zero_le, true_and, and_true, not_false_eq_true, ne_eq, Int.reduceNeg, Int.reduceEq, Int.reduceNe, Int.reduceLT, Int.reduceLE, le_refl', List.setIfInBounds_toArray, Nat.reduceLT, Array.size_setIfInBounds, if_true, if_false, reduceCtorEq, List.toArray_toList', List.drop_succ_cons, List.drop_zero, List.take_succ_cons, List.take_zero, List.nil_append, List.append_nil, List.cons_append, Bool.and_true, Bool.true_and, Bool.or_false, Bool.false_or, Bool.and_false, Bool.or_true, Bool.true_or, Bool.false_and, eq_self]
      obtain ⟨g1, g2⟩ := hl.set (s := sc) (rr := rr + 1) hw (q := q) (by simp at hle; omega)
      exact hyes t q _ hq g1 g2
theorem len_spec (hl : Lk H b c0 c1 Q) (hw : w = 0 ∨ w = 1) (h : R (.int .i64 ((Q w).length : Int)) H) : CallsH Try.prog 12 #[.pointer (some ⟨b, 0, none⟩), .int .i64 w] H R := by
  refine link_Link_Len.vc _ _ _ _ ?_
  unfold link_Link_Len.res
  refine way_spec hl hw ?_
  obtain ⟨sc, rr, hc⟩ := hl.chn hw
  simp only [pLenC, hc, List.size_toArray, List.length_map]
  exact h
theorem turn_spec (hl : Lk H b c0 c1 Q) (hw : w = 0 ∨ w = 1) (hno : Q w = [] → R (.bool false) H)
    (hyes : ∀ t q H', Q w = t :: q → Lk H' b c0 c1 (updQ Q w (q ++ [t])) → Only2 c0 c1 H H' → R (.bool true) H') : CallsH Try.prog 10 #[.pointer (some ⟨b, 0, none⟩), .int .i64 w] H R := by
  refine link_Link_Turn.vc _ _ _ _ ?_
  unfold link_Link_Turn.res
  refine take_spec hl hw (fun h0 => ?_) (fun t q H1 hq hl1 on1 => ?_)
  · simp only [pPick_v, pNil_v, pNil_f, pAdd_v, pSub_v, pMul_v, pAdd_s, pQuo_v, pRem_v, pBits_v, pShl_v, pShr_v, pLt_v, pLe_v, pGt_v, pGe_v, pEq_0, pNe_0, pEq_1, pNe_1, pEq_2, pNe_2, pEq_3n, pNe_3n, pEq_3s, pNe_3s, pEq_3t, pNe_3t, pEq_5n, pNe_5n, pEq_5s, pNe_5s, pEq_5t, pNe_5t, pEq_4n, pNe_4n, pEq_4s, pNe_4s, pNot_v, pNeg_v, pCom_v, pConv_v, pConvS_v, pMin_v, pMax_v, pFieldAddr_v, pField1_v, pFieldN_v, pExtract_v, pIdxArr_v, pIdxSl_v, pIdxStr_v, pBounds_00, pBounds_10, pBounds_01, pBounds_11, pSlStr_v, pSlSl_v, pSlArr_v, pLenS_v, pLen_v, pCap_v, pBuild_n, pBuild_c, cells_int, cells_str, cells_bool, cells_ptr, cells_slice, cells_map, cells_agg, oneCell_int, oneCell_str, oneCell_bool, oneCell_ptr, oneCell_slice, oneCell_map, putL_cons, putL_nil, pAnd_pure, pOr_pure, pAnd_pureE, pOr_pureE, pAnd_false, pOr_true, pCond_true, pCond_false, add_mk, bys_mk, bys_size, cond_true, cond_false, decide_true, decide_false, decide_not', dec_and, dec_or, dec_eqt, Bool.not_true, Bool.not_false, Option.isNone_none, Option.isNone_some, Option.map_some, Option.map_none, List.getElem?_toArray, List.getElem?_cons_zero, List.getElem?_cons_succ, List.size_toArray, List.length_cons, List.length_nil, List.length_replicate, List.set_cons_zero, List.set_cons_succ, Nat.reduceAdd, Nat.reduceMul, Nat.reduceSub, Nat.reduceLeDiff, Nat.zero_add, Nat.add_zero, Nat.zero_le, true_and, and_true, not_false_eq_true, ne_eq, Int.reduceNeg, Int.reduceEq, Int.reduceNe, Int.reduceLT, Int.reduceLE, le_refl', List.setIfInBounds_toArray, Nat.reduceLT, Array.size_setIfInBounds, if_true, if_false, reduceCtorEq, List.toArray_toList', List.drop_succ_cons, List.drop_zero, List.take_succ_cons, List.take_zero, List.nil_append, List.append_nil, List.cons_append, Bool.and_true, Bool.true_and, Bool.or_false, Bool.false_or, Bool.and_false, Bool.or_true, Bool.true_or, Bool.false_and, eq_self]
    exact fun _ => hno h0
  · refine pExtract_to rfl ?_
    refine pExtract_to rfl ?_
    refine pAnd_true ?_
    have hle := hl.len w
    rw [hq] at hle
    refine put_spec hl1 hw (fun h64 => ?_) (fun _ H2 hl2 on2 => ?_)
    · rw [updQ_self] at h64; simp at hle; omega
    · rw [updQ_self, updQ_upd] at hl2
      exact fun _ => hyes t q H2 hq hl2 (on1.trans on2)
theorem callH_mono {P : Program} {C : List Nat} {f : Value} {args : List Value} {K K' : Value → Heap → Prop} (h : callH P C f args H K) (hk : ∀ v H', K v H' → K' v H') : callH P C f args H K' := by
  unfold callH at *
  split at h
  · rename_i g first cap
    cases hm : memb g C with
    | false => rw [hm] at h; exact h.elim
    | true => rw [hm] at h; exact CallsH.mono h hk
  · exact h.elim
theorem callH_of {P : Program} {C : List Nat} {g : Nat} {first cap : Array Value} {args : List Value} {K : Value → Heap → Prop} (hm : memb g C = true) (h : CallsH P g (first.toList ++ args ++ cap.toList).toArray H K) : callH P C (.func (.func g) first cap) args H K := by
  unfold callH
  simp only [hm, cond_true]
  exact h
/-- what comes first is changed -/
theorem change_spec {f : Value} (hl : Lk H b c0 c1 Q) (hw : w = 0 ∨ w = 1) (hno : Q w = [] → R (.bool false) H)
    (hyes : ∀ t q H1, Q w = t :: q → Lk H1 b c0 c1 (updQ Q w q) → Only2 c0 c1 H H1 → callH Try.prog Try.C f [str t] H1 fun v H2 => ∃ t' : List UInt8, v = str t' ∧ Lk H2 b c0 c1 (updQ Q w q) ∧
      ∀ H3, Lk H3 b c0 c1 (updQ Q w (t' :: q)) → Only2 c0 c1 H2 H3 → R (.bool true) H3) : CallsH Try.prog 17 #[.pointer (some ⟨b, 0, none⟩), .int .i64 w, f] H R := by
  refine link_Link_change.vc _ _ _ _ _ ?_
  unfold link_Link_change.res
  refine len_spec hl hw ?_
  refine take_spec hl hw (fun h0 => ?_) (fun t q H1 hq hl1 on1 => ?_)
  · simp only [pPick_v, pNil_v, pNil_f, pAdd_v, pSub_v, pMul_v, pAdd_s, pQuo_v, pRem_v, pBits_v, pShl_v, pShr_v, pLt_v, pLe_v, pGt_v, pGe_v, pEq_0, pNe_0, pEq_1, pNe_1, pEq_2, pNe_2, pEq_3n, pNe_3n, pEq_3s, pNe_3s, pEq_3t, pNe_3t, pEq_5n, pNe_5n, pEq_5s, pNe_5s, pEq_5t, pNe_5t, pEq_4n, pNe_4n, pEq_4s, pNe_4s, pNot_v, pNeg_v, pCom_v, pConv_v, pConvS_v, pMin_v, pMax_v, pFieldAddr_v, pField1_v, pFieldN_v, pExtract_v, pIdxArr_v, pIdxSl_v, pIdxStr_v, pBounds_00, pBounds_10, pBounds_01, pBounds_11, pSlStr_v, pSlSl_v, pSlArr_v, pLenS_v, pLen_v, pCap_v, pBuild_n, pBuild_c, cells_int, cells_str, cells_bool, cells_ptr, cells_slice, cells_map, cells_agg, oneCell_int, oneCell_str, oneCell_bool, oneCell_ptr, oneCell_slice, oneCell_map, putL_cons, putL_nil, pAnd_pure, pOr_pure, pAnd_pureE, pOr_pureE, pAnd_false, pOr_true, pCond_true, pCond_false, add_mk, bys_mk, bys_size, cond_true, cond_false, decide_true, decide_false, decide_not', dec_and, dec_or, dec_eqt, Bool.not_true, Bool.not_false, Option.isNone_none, Option.isNone_some, Option.map_some, Option.map_none, List.getElem?_toArray, List.getElem?_cons_zero, List.getElem?_cons_succ, List.size_toArray, List.length_cons, List.length_nil, List.length_replicate, List.set_cons_zero, List.set_cons_succ, Nat.reduceAdd, Nat.reduceMul, Nat.reduceSub, Nat.reduceLeDiff, Nat.zero_add, Nat.add_zero, Nat.zero_le, true_and, and_true, not_false_eq_true, ne_eq, Int.reduceNeg, Int.reduceEq, Int.reduceNe, Int.reduceLT, Int.reduceLE, le_refl', List.setIfInBounds_toArray, Nat.reduceLT, Array.size_setIfInBounds, if_true, if_false, reduceCtorEq, List.toArray_toList', List.drop_succ_cons, List.drop_zero, List.take_succ_cons, List.take_zero, List.nil_append, List.append_nil, List.cons_append, Bool.and_true, Bool.true_and, Bool.or_false, Bool.false_or, Bool.and_false, Bool.or_true, Bool.true_or, Bool.false_and, eq_self]
    exact hno h0
  · refine pExtract_to rfl ?_
    refine pExtract_to rfl ?_
    rw [pNot_v, Bool.not_true, pCond_false]
    have hle := hl.len w
    have hcall := hyes t q H1 hq hl1 on1
    rw [hq] at hle ⊢
    simp only [List.length_cons] at hle
    refine callH_mono hcall fun v H2 hv => ?_
    obtain ⟨t', rfl, hl2, hk⟩ := hv
    refine put_spec hl2 hw (fun h64 => ?_) (fun _ H3 hl3 on3 => ?_)
    · rw [updQ_self] at h64; omega
    rw [updQ_self, updQ_upd] at hl3
    rw [pSub_v, List.length_cons, show ((q.length + 1 : Nat) : Int) - 1 = (q.length : Int) by omega, w64 (n := (q.length : Int)) (by omega) (by omega)]
    refine ⟨fun i H' => ∃ k : Nat, i = .int .i64 k ∧ k ≤ q.length ∧ Lk H' b c0 c1 (updQ Q w (q.drop k ++ [t'] ++ q.take k)) ∧ Only2 c0 c1 H2 H', fun i _ => match i with | .int _ x => (1000 - x).toNat | _ => 0, ⟨0, rfl, by omega, by simpa using hl3, on3⟩, ?_⟩
    rintro _ _ H4 ⟨k, rfl, hk', hl4, on4⟩
    rw [pLt_v]
    refine pCond_if (fun hc => ?_) (fun hc => ?_)
    · have hkq : k < q.length := by omega
      have hd : q.drop k = q[k] :: q.drop (k + 1) := List.drop_eq_getElem_cons hkq
      refine turn_spec hl4 hw (fun h0 => by rw [updQ_self] at h0; simp at h0) (fun t2 q2 H5 hq2 hl5 on5 => ?_)
      rw [updQ_self, hd, List.cons_append, List.cons_append, List.cons.injEq] at hq2
      obtain ⟨rfl, rfl⟩ := hq2
      rw [updQ_upd] at hl5
      rw [pAdd_v, w64 (n := (k : Int) + 1) (by omega) (by omega)]
      refine ⟨⟨k + 1, rfl, by omega, ?_, on4.trans on5⟩, by show (_ : Int).toNat < (_ : Int).toNat; omega⟩
      have e : q.take (k + 1) = q.take k ++ [q[k]] := by rw [List.take_add_one, List.getElem?_eq_getElem hkq]; rfl
      rw [e, ← List.append_assoc]
      exact hl5
    · have : k = q.length := by omega
      subst this
      rw [List.drop_length, List.take_length, List.nil_append, List.singleton_append] at hl4
      exact hk H4 hl4 on4
end Go.Proofs.Ytelldphojhmhfaa
