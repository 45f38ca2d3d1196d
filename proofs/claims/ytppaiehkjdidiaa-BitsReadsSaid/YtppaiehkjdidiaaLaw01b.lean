/- The law BitsWrites over heaps. -/
import Derived.Test.YtppaiehkjdidiaaLaw01
namespace Go.Proofs.Ytppaiehkjdidiaa
open Go Go.Vc Go.Proofs
set_option linter.unusedVariables false
set_option linter.unusedSimpArgs false
variable {H : Heap} {R : Value → Heap → Prop}
/-- the writer, and the bits that are wanted -/
structure WS (H0 H : Heap) (b : Nat) (dv want : Value) (B L : List Bool) : Prop where
  wr : Wr H b 0 dv B
  own : Own H want 1 (bitsV L)
  ext : Ext H0 H
  hb : H0.size ≤ b
  hd : ∀ k, blkOf dv = some k → H0.size ≤ k
  hw : ∀ k, blkOf want = some k → H0.size ≤ k
  s1 : blkOf want ≠ some b
  s2 : ∀ k, blkOf want = some k → blkOf dv ≠ some k
variable {H0 : Heap} {b : Nat} {dv want : Value} {B L : List Bool}
theorem WS.more {H' : Heap} (h : WS H0 H b dv want B L) (hx : Ext H H') : WS H0 H' b dv want B L :=
  { h with wr := h.wr.ext hx, own := h.own.ext hx, ext := h.ext.trans hx }
theorem WS.write {H' : Heap} {dv' : Value} {B' : List Bool} (h : WS H0 H b dv want B L) (hw : Wr H' b 0 dv' B') (c : Chg b 0 3 (blkS dv) (blkS dv') H H') : WS H0 H' b dv' want B' L := by
  have hx := c.ext h.ext h.hb h.hd
  refine { h with wr := hw, own := c.own h.own h.s1 h.s2, ext := hx.1, hd := hx.2, s2 := fun k hk hk' => ?_ }
  rcases c.new k hk' with h' | h'
  · exact h.s2 k hk h'
  · have := h.own.lt hk; omega
theorem WS.app {H' : Heap} {want' : Value} {L' : List Bool} (h : WS H0 H b dv want B L) (o : Own H' want' 1 (bitsV L')) (hi : ∀ i, i < H.size → blkOf want ≠ some i → H'[i]? = H[i]?) (hs : H.size ≤ H'.size) (hk : ∀ k, blkOf want' = some k → blkOf want = some k ∨ H.size ≤ k) : WS H0 H' b dv want' B L' := by
  have hbl := h.wr.lt
  have hll := h.wr.live
  refine { h with wr := h.wr.same (hi b hbl h.s1) (fun k hk' => hi k (hll k hk') (fun e => h.s2 k e hk')), own := o, ext := ext_of_own h.ext h.hw hi hs, hw := fun k hk' => ?_, s1 := fun e => ?_, s2 := fun k hk' hk'' => ?_ }
  · rcases hk k hk' with h' | h'
    · exact h.hw k h'
    · have := h.ext.size; omega
  · rcases hk b e with h' | h'
    · exact h.s1 h'
    · omega
  · rcases hk k hk' with h' | h'
    · exact h.s2 k h' hk''
    · have := hll k hk''; omega
/-- bits that are made come behind those that are wanted -/
theorem WS.join {x : Value} {M : List Bool} {K : Value → Heap → Prop} (h : WS H0 H b dv want B L) (hx : Sl H x 1 (bitsV M)) (hsize : 2 * (L.length + M.length) * 8 ≤ 281474976710656)
    (hk : ∀ v H', WS H0 H' b dv v B (L ++ M) → K v H') : pAppend H 3 1 8 [.int .i64 0] want x K := by
  refine h.own.append (n := L.length) (m := M.length) (by decide) rfl (hx.lenV (by rw [bitsV_len]; omega) (by decide)) hx.cellsOf (by rw [bitsV_len]; omega) (by rw [bitsV_len]; omega) (bitsV_one M) hsize fun v H' o i s k => ?_
  refine hk v H' (h.app (by rw [bitsV_append]; exact o) i s fun j hj => ?_)
  rcases k with h' | h'
  · exact .inl (h' ▸ hj)
  · right; rw [h', Option.some.injEq] at hj; omega
theorem WS.join1 {K : Value → Heap → Prop} (h : WS H0 H b dv want B L) (hsize : 2 * (L.length + 1) * 8 ≤ 281474976710656)
    (hk : ∀ v H', WS H0 H' b dv v B (L ++ [false]) → K v H') : pBuildSl H 3 1 [.int .i64 0] [(0, 1, .int .i64 0)] fun y H1 => pAppend H1 3 1 8 [.int .i64 0] want y K := by
  refine h.own.append1 (n := L.length) (by decide) rfl rfl rfl (by rw [bitsV_len]; omega) hsize fun v H' o i s k => ?_
  refine hk v H' (h.app ?_ i s k)
  rw [bitsV_append]; exact o
theorem replicate_end (n : Nat) : List.replicate (n + 1) false = List.replicate n false ++ [false] := List.replicate_succ'
/-- the wanted bits up to the next byte -/
theorem pad_loop {H1 : Heap} {P : Value → Heap → Prop} (h : WS H0 H1 b dv want B L) (hL : L.length ≤ 100000) (hP : ∀ v H', WS H0 H' b dv v B (padB L) → P v H') :
    ∃ (I : Value → Heap → Prop) (m : Value → Heap → Nat), I want H1 ∧ ∀ _ : Env, ∀ w : Value, ∀ H2 : Heap, I w H2 →
      pLen w fun x74 => pRem x74 (.int .i64 8) fun x75 => pGt x75 (.int .i64 0) fun x76 => pCond x76
        (pBuildSl H2 3 1 [(.int .i64 0)] [(0, 1, (.int .i64 0))] fun x78 H_24 => pAppend H_24 3 1 8 [(.int .i64 0)] w x78 fun x79 H_25 => I x79 H_25 ∧ m x79 H_25 < m w H2)
        (P w H2) := by
  refine ⟨fun v H' => ∃ j : Nat, j ≤ (8 - L.length % 8) % 8 ∧ WS H0 H' b dv v B (L ++ List.replicate j false), fun v _ => match v with | .slice _ n _ => 200000 - n | _ => 0, ⟨0, by omega, by simpa using h⟩, ?_⟩
  rintro _ w H2 ⟨j, hj, h2⟩
  have hl2 : (L ++ List.replicate j false).length = L.length + j := by simp
  refine (h2.own.sl (by decide)).len (n := L.length + j) (by rw [bitsV_len, hl2]; omega) (by decide) ?_
  simp only [pRem_v, pGt_v]
  refine ⟨by decide, ?_⟩
  rw [Int.tmod_eq_emod_of_nonneg (by omega)]
  refine pCond_if (fun hc => ?_) (fun hc => ?_)
  · refine h2.join1 (by rw [hl2]; omega) fun v H3 h3 => ⟨⟨j + 1, by omega, ?_⟩, ?_⟩
    · rw [replicate_end, ← List.append_assoc]; exact h3
    · have hlen : ∀ (w : Value) (l : List Value), Own H2 w 1 l ∨ Own H3 w 1 l → ∃ a c, w = .slice a l.length c := by
        intro w l hw
        rcases hw with hw | hw <;> rcases hw with ⟨rfl, rfl⟩ | ⟨_, n, c, _, rfl, _, hl, _⟩
        · exact ⟨_, _, rfl⟩
        · exact ⟨_, _, by rw [show n = l.length by omega]⟩
        · exact ⟨_, _, rfl⟩
        · exact ⟨_, _, by rw [show n = l.length by omega]⟩
      obtain ⟨a1, c1, rfl⟩ := hlen _ _ (.inl h2.own)
      obtain ⟨a2, c2, rfl⟩ := hlen _ _ (.inr h3.own)
      rw [bitsV_len, bitsV_len, List.length_append, hl2]
      show 200000 - (L.length + j + 1) < 200000 - (L.length + j)
      omega
  · refine hP w H2 ?_
    unfold padB
    rw [show (8 - L.length % 8) % 8 = j by omega]
    exact h2
theorem act01 {r : List Value} (hl : r.length = 4) (hf : FitAll [.int .i64, .int .u64, .int .i64, .string] fun j => r[j]?) :
    ∃ (w v n : Int) (t : List UInt8), r = [.int .i64 w, .int .u64 v, .int .i64 n, str t] ∧ t.length ≤ maxLen ∧ (Lit.int .i64 w).wf = true ∧ (Lit.int .u64 v).wf = true ∧ (Lit.int .i64 n).wf = true := by
  match r, hl with
  | [a, b, c, d], _ =>
    obtain ⟨_, h0, x0, rfl, k0⟩ := hf 0 _ rfl
    obtain ⟨_, h1, x1, rfl, k1⟩ := hf 1 _ rfl
    obtain ⟨_, h2, x2, rfl, k2⟩ := hf 2 _ rfl
    obtain ⟨_, h3, x3, rfl, k3⟩ := hf 3 _ rfl
    simp at h0 h1 h2 h3
    exact ⟨x0, x1, x2, x3, by simp [*], k3, k0, k1, k2⟩
theorem BitsWrites_law (a : Option Addr) (len cap : Nat) (w0 : StructRow [.int .i64, .int .u64, .int .i64, .string] H a len cap) :
    CallsH Try.prog 7 #[.slice a len cap] H (LawOk H) := by
  have hmax : maxLen = 9223372036854775807 := rfl
  obtain ⟨T, hTl, hTm, hT1, hT2, hS⟩ := w0.rows (by decide)
  have hSl : T.flatten.length = len * 4 := by rw [flat_len T hT1, hTl]; rfl
  refine lighterlaw01_BitsWrites.vc _ _ _ ?_
  unfold lighterlaw01_BitsWrites.res
  refine speaks01_spec fun H1 x1 => ?_
  simp only [pPick_v, pNil_v, pNil_f, pAdd_v, pSub_v, pMul_v, pAdd_s, pQuo_v, pRem_v, pBits_v, pShl_v, pShr_v, pLt_v, pLe_v, pGt_v, pGe_v, pEq_0, pNe_0, pEq_1, pNe_1, pEq_2, pNe_2, pEq_3n, pNe_3n, pEq_3s, pNe_3s, pEq_3t, pNe_3t, pEq_5n, pNe_5n, pEq_5s, pNe_5s, pEq_5t, pNe_5t, pEq_4n, pNe_4n, pEq_4s, pNe_4s, pNot_v, pNeg_v, pCom_v, pConv_v, pConvS_v, pMin_v, pMax_v, pFieldAddr_v, pField1_v, pFieldN_v, pExtract_v, pIdxArr_v, pIdxSl_v, pIdxStr_v, pBounds_00, pBounds_10, pBounds_01, pBounds_11, pSlStr_v, pSlSl_v, pSlArr_v, pLenS_v, pLen_v, pCap_v, pBuild_n, pBuild_c, cells_int, cells_str, cells_bool, cells_ptr, cells_slice, cells_map, cells_agg, oneCell_int, oneCell_str, oneCell_bool, oneCell_ptr, oneCell_slice, oneCell_map, putL_cons, putL_nil, pAnd_pure, pOr_pure, pAnd_pureE, pOr_pureE, pAnd_false, pOr_true, pCond_true, pCond_false, add_mk, bys_mk, bys_size, cond_true, cond_false, decide_true, decide_false, decide_not', dec_and, dec_or, dec_eqt, Bool.not_true, Bool.not_false, Option.isNone_none, Option.isNone_some, Option.map_some, Option.map_none, List.getElem?_toArray, List.getElem?_cons_zero, List.getElem?_cons_succ, List.size_toArray, List.length_cons, List.length_nil, List.length_replicate, List.set_cons_zero, List.set_cons_succ, Nat.reduceAdd, Nat.reduceMul, Nat.reduceSub, Nat.reduceLeDiff, Nat.zero_add, Nat.add_zero, Nat.zero_le, true_and, and_true, not_false_eq_true, ne_eq, Int.reduceNeg, Int.reduceEq, Int.reduceNe, Int.reduceLT, Int.reduceLE, le_refl', List.setIfInBounds_toArray, Nat.reduceLT, Array.size_setIfInBounds, if_true, if_false, reduceCtorEq, List.toArray_toList', List.drop_succ_cons, List.drop_zero, List.take_succ_cons, List.take_zero, List.nil_append, List.append_nil, List.cons_append, Bool.and_true, Bool.true_and, Bool.or_false, Bool.false_or, Bool.and_false, Bool.or_true, Bool.true_or, Bool.false_and, eq_self]
  refine pBox_ext fun H2 s2 e2 b2 => ?_
  have ws2 : WS H H2 H1.size (.slice none 0 0) (.slice none 0 0) [] [] :=
    ⟨Wr.new (Sub.all (cs := [.slice none 0 0, .int .u64 0, .int .i64 0]) b2), .inl ⟨rfl, rfl⟩, x1.trans e2, x1.size, by simp [blkOf], by simp [blkOf], by simp [blkOf], by simp [blkOf]⟩
  generalize H1.size = b at *
  refine ⟨fun want u H' => ∃ (i : Nat) (dv : Value) (B : List Bool), u = .int .i64 i ∧ i ≤ 60 ∧ WS H H' b dv want B B ∧ B.length ≤ 200 * i, fun _ u _ => match u with | .int _ x => (60 - x).toNat | _ => 0,
    ⟨0, _, [], rfl, by omega, ws2, by simp⟩, ?_⟩
  rintro _ want _ H3 ⟨i, dv, B, rfl, hi, ws3, hB⟩
  simp only [pPick_v, pNil_v, pNil_f, pAdd_v, pSub_v, pMul_v, pAdd_s, pQuo_v, pRem_v, pBits_v, pShl_v, pShr_v, pLt_v, pLe_v, pGt_v, pGe_v, pEq_0, pNe_0, pEq_1, pNe_1, pEq_2, pNe_2, pEq_3n, pNe_3n, pEq_3s, pNe_3s, pEq_3t, pNe_3t, pEq_5n, pNe_5n, pEq_5s, pNe_5s, pEq_5t, pNe_5t, pEq_4n, pNe_4n, pEq_4s, pNe_4s, pNot_v, pNeg_v, pCom_v, pConv_v, pConvS_v, pMin_v, pMax_v, pFieldAddr_v, pField1_v, pFieldN_v, pExtract_v, pIdxArr_v, pIdxSl_v, pIdxStr_v, pBounds_00, pBounds_10, pBounds_01, pBounds_11, pSlStr_v, pSlSl_v, pSlArr_v, pLenS_v, pLen_v, pCap_v, pBuild_n, pBuild_c, cells_int, cells_str, cells_bool, cells_ptr, cells_slice, cells_map, cells_agg, oneCell_int, oneCell_str, oneCell_bool, oneCell_ptr, oneCell_slice, oneCell_map, putL_cons, putL_nil, pAnd_pure, pOr_pure, pAnd_pureE, pOr_pureE, pAnd_false, pOr_true, pCond_true, pCond_false, add_mk, bys_mk, bys_size, cond_true, cond_false, decide_true, decide_false, decide_not', dec_and, dec_or, dec_eqt, Bool.not_true, Bool.not_false, Option.isNone_none, Option.isNone_some, Option.map_some, Option.map_none, List.getElem?_toArray, List.getElem?_cons_zero, List.getElem?_cons_succ, List.size_toArray, List.length_cons, List.length_nil, List.length_replicate, List.set_cons_zero, List.set_cons_succ, Nat.reduceAdd, Nat.reduceMul, Nat.reduceSub, Nat.reduceLeDiff, Nat.zero_add, Nat.add_zero, Nat.zero_le, true_and, and_true, not_false_eq_true, ne_eq, Int.reduceNeg, Int.reduceEq, Int.reduceNe, Int.reduceLT, Int.reduceLE, le_refl', List.setIfInBounds_toArray, Nat.reduceLT, Array.size_setIfInBounds, if_true, if_false, reduceCtorEq, List.toArray_toList', List.drop_succ_cons, List.drop_zero, List.take_succ_cons, List.take_zero, List.nil_append, List.append_nil, List.cons_append, Bool.and_true, Bool.true_and, Bool.or_false, Bool.false_or, Bool.and_false, Bool.or_true, Bool.true_or, Bool.false_and, eq_self]
  refine fun _ => pCond_if (fun hc => ?_) (fun hc => ?_)
  · have hil : i < T.length := by omega
    have hrm := List.getElem_mem hil
    obtain ⟨w, v, n, t, hr, ht, hww, hvw, hnw⟩ := act01 (hT1 _ hrm) (hT2 _ hrm)
    have hat := flat_at T i T[i] hT1 (List.getElem?_eq_getElem hil)
    rw [hr] at hat
    have hv := wfu64 hvw
    have hn := wf64 hnw
    obtain ⟨v, rfl⟩ : ∃ m : Nat, v = m := ⟨v.toNat, by omega⟩
    refine (hS.ext ws3.ext).idx (n := len) hSl (by decide) (by omega) (by omega) fun ad had => ?_
    rw [Int.toNat_natCast] at had
    have had : Reads H3 ad [.int .i64 w, .int .u64 (v : Int), .int .i64 n, str t] := by rw [← hat]; exact had
    refine had.loadN rfl ?_
    refine pBox_ext fun H4 s4 e4 c4 => ?_
    refine pStoreN_upd c4 (by rfl) (by rfl) (by rfl) fun H5 _ u5 => ?_
    have c5 : H5[H3.size]? = some (.cells [.int .i64 w, .int .u64 (v : Int), .int .i64 n, str t].toArray 52 (0, 0)) := u5.at_
    have e35 : Ext H3 H5 := u5.ext e4 (Nat.le_refl _)
    have ws5 := ws3.more e35
    have hx6b : H3.size ≠ b := by have := ws3.wr.lt; omega
    have hx6d : ∀ {H' : Heap} {dv' : Value}, Chg b 0 3 (blkS dv) (blkS dv') H5 H' → H'[H3.size]? = some (.cells [.int .i64 w, .int .u64 (v : Int), .int .i64 n, str t].toArray 52 (0, 0)) := fun c => c.keep c5 hx6b (fun e => by have := ws3.wr.live _ e; omega)
    refine ⟨fun want' H' => ∃ (dv' : Value) (B' : List Bool), WS H H' b dv' want' B' B' ∧ B'.length ≤ 200 * (i + 1), ?_, ?_⟩
    · rintro _ want6 H6 ⟨dv6, B6, ws6, hB6⟩
      refine wLen_spec ws6.wr ?_
      refine (ws6.own.sl (by decide)).len (n := B6.length) (by rw [bitsV_len]; omega) (by decide) ?_
      simp only [pPick_v, pNil_v, pNil_f, pAdd_v, pSub_v, pMul_v, pAdd_s, pQuo_v, pRem_v, pBits_v, pShl_v, pShr_v, pLt_v, pLe_v, pGt_v, pGe_v, pEq_0, pNe_0, pEq_1, pNe_1, pEq_2, pNe_2, pEq_3n, pNe_3n, pEq_3s, pNe_3s, pEq_3t, pNe_3t, pEq_5n, pNe_5n, pEq_5s, pNe_5s, pEq_5t, pNe_5t, pEq_4n, pNe_4n, pEq_4s, pNe_4s, pNot_v, pNeg_v, pCom_v, pConv_v, pConvS_v, pMin_v, pMax_v, pFieldAddr_v, pField1_v, pFieldN_v, pExtract_v, pIdxArr_v, pIdxSl_v, pIdxStr_v, pBounds_00, pBounds_10, pBounds_01, pBounds_11, pSlStr_v, pSlSl_v, pSlArr_v, pLenS_v, pLen_v, pCap_v, pBuild_n, pBuild_c, cells_int, cells_str, cells_bool, cells_ptr, cells_slice, cells_map, cells_agg, oneCell_int, oneCell_str, oneCell_bool, oneCell_ptr, oneCell_slice, oneCell_map, putL_cons, putL_nil, pAnd_pure, pOr_pure, pAnd_pureE, pOr_pureE, pAnd_false, pOr_true, pCond_true, pCond_false, add_mk, bys_mk, bys_size, cond_true, cond_false, decide_true, decide_false, decide_not', dec_and, dec_or, dec_eqt, Bool.not_true, Bool.not_false, Option.isNone_none, Option.isNone_some, Option.map_some, Option.map_none, List.getElem?_toArray, List.getElem?_cons_zero, List.getElem?_cons_succ, List.size_toArray, List.length_cons, List.length_nil, List.length_replicate, List.set_cons_zero, List.set_cons_succ, Nat.reduceAdd, Nat.reduceMul, Nat.reduceSub, Nat.reduceLeDiff, Nat.zero_add, Nat.add_zero, Nat.zero_le, true_and, and_true, not_false_eq_true, ne_eq, Int.reduceNeg, Int.reduceEq, Int.reduceNe, Int.reduceLT, Int.reduceLE, le_refl', List.setIfInBounds_toArray, Nat.reduceLT, Array.size_setIfInBounds, if_true, if_false, reduceCtorEq, List.toArray_toList', List.drop_succ_cons, List.drop_zero, List.take_succ_cons, List.take_zero, List.nil_append, List.append_nil, List.cons_append, Bool.and_true, Bool.true_and, Bool.or_false, Bool.false_or, Bool.and_false, Bool.or_true, Bool.true_or, Bool.false_and, eq_self]
      rw [decide_eq_false (by simp), pCond_false, w64 (by omega) (by omega)]
      exact ⟨⟨i + 1, dv6, B6, rfl, by omega, ws6, hB6⟩, by show (_ : Int).toNat < (_ : Int).toNat; omega⟩
    simp only [pPick_v, pNil_v, pNil_f, pAdd_v, pSub_v, pMul_v, pAdd_s, pQuo_v, pRem_v, pBits_v, pShl_v, pShr_v, pLt_v, pLe_v, pGt_v, pGe_v, pEq_0, pNe_0, pEq_1, pNe_1, pEq_2, pNe_2, pEq_3n, pNe_3n, pEq_3s, pNe_3s, pEq_3t, pNe_3t, pEq_5n, pNe_5n, pEq_5s, pNe_5s, pEq_5t, pNe_5t, pEq_4n, pNe_4n, pEq_4s, pNe_4s, pNot_v, pNeg_v, pCom_v, pConv_v, pConvS_v, pMin_v, pMax_v, pFieldAddr_v, pField1_v, pFieldN_v, pExtract_v, pIdxArr_v, pIdxSl_v, pIdxStr_v, pBounds_00, pBounds_10, pBounds_01, pBounds_11, pSlStr_v, pSlSl_v, pSlArr_v, pLenS_v, pLen_v, pCap_v, pBuild_n, pBuild_c, cells_int, cells_str, cells_bool, cells_ptr, cells_slice, cells_map, cells_agg, oneCell_int, oneCell_str, oneCell_bool, oneCell_ptr, oneCell_slice, oneCell_map, putL_cons, putL_nil, pAnd_pure, pOr_pure, pAnd_pureE, pOr_pureE, pAnd_false, pOr_true, pCond_true, pCond_false, add_mk, bys_mk, bys_size, cond_true, cond_false, decide_true, decide_false, decide_not', dec_and, dec_or, dec_eqt, Bool.not_true, Bool.not_false, Option.isNone_none, Option.isNone_some, Option.map_some, Option.map_none, List.getElem?_toArray, List.getElem?_cons_zero, List.getElem?_cons_succ, List.size_toArray, List.length_cons, List.length_nil, List.length_replicate, List.set_cons_zero, List.set_cons_succ, Nat.reduceAdd, Nat.reduceMul, Nat.reduceSub, Nat.reduceLeDiff, Nat.zero_add, Nat.add_zero, Nat.zero_le, true_and, and_true, not_false_eq_true, ne_eq, Int.reduceNeg, Int.reduceEq, Int.reduceNe, Int.reduceLT, Int.reduceLE, le_refl', List.setIfInBounds_toArray, Nat.reduceLT, Array.size_setIfInBounds, if_true, if_false, reduceCtorEq, List.toArray_toList', List.drop_succ_cons, List.drop_zero, List.take_succ_cons, List.take_zero, List.nil_append, List.append_nil, List.cons_append, Bool.and_true, Bool.true_and, Bool.or_false, Bool.false_or, Bool.and_false, Bool.or_true, Bool.true_or, Bool.false_and, eq_self, pLoad_at c5]
    refine ⟨fun y H' => ∃ c : Bool, y = .bool c ∧ H5 = H', ?_, ?_⟩
    · rintro _ _ _ ⟨c, rfl, rfl⟩
      refine pCond_b (fun hct => ?_) (fun hcf => ?_)
      · -- bits are written
        simp only [pPick_v, pNil_v, pNil_f, pAdd_v, pSub_v, pMul_v, pAdd_s, pQuo_v, pRem_v, pBits_v, pShl_v, pShr_v, pLt_v, pLe_v, pGt_v, pGe_v, pEq_0, pNe_0, pEq_1, pNe_1, pEq_2, pNe_2, pEq_3n, pNe_3n, pEq_3s, pNe_3s, pEq_3t, pNe_3t, pEq_5n, pNe_5n, pEq_5s, pNe_5s, pEq_5t, pNe_5t, pEq_4n, pNe_4n, pEq_4s, pNe_4s, pNot_v, pNeg_v, pCom_v, pConv_v, pConvS_v, pMin_v, pMax_v, pFieldAddr_v, pField1_v, pFieldN_v, pExtract_v, pIdxArr_v, pIdxSl_v, pIdxStr_v, pBounds_00, pBounds_10, pBounds_01, pBounds_11, pSlStr_v, pSlSl_v, pSlArr_v, pLenS_v, pLen_v, pCap_v, pBuild_n, pBuild_c, cells_int, cells_str, cells_bool, cells_ptr, cells_slice, cells_map, cells_agg, oneCell_int, oneCell_str, oneCell_bool, oneCell_ptr, oneCell_slice, oneCell_map, putL_cons, putL_nil, pAnd_pure, pOr_pure, pAnd_pureE, pOr_pureE, pAnd_false, pOr_true, pCond_true, pCond_false, add_mk, bys_mk, bys_size, cond_true, cond_false, decide_true, decide_false, decide_not', dec_and, dec_or, dec_eqt, Bool.not_true, Bool.not_false, Option.isNone_none, Option.isNone_some, Option.map_some, Option.map_none, List.getElem?_toArray, List.getElem?_cons_zero, List.getElem?_cons_succ, List.size_toArray, List.length_cons, List.length_nil, List.length_replicate, List.set_cons_zero, List.set_cons_succ, Nat.reduceAdd, Nat.reduceMul, Nat.reduceSub, Nat.reduceLeDiff, Nat.zero_add, Nat.add_zero, Nat.zero_le, true_and, and_true, not_false_eq_true, ne_eq, Int.reduceNeg, Int.reduceEq, Int.reduceNe, Int.reduceLT, Int.reduceLE, le_refl', List.setIfInBounds_toArray, Nat.reduceLT, Array.size_setIfInBounds, if_true, if_false, reduceCtorEq, List.toArray_toList', List.drop_succ_cons, List.drop_zero, List.take_succ_cons, List.take_zero, List.nil_append, List.append_nil, List.cons_append, Bool.and_true, Bool.true_and, Bool.or_false, Bool.false_or, Bool.and_false, Bool.or_true, Bool.true_or, Bool.false_and, eq_self, pLoad_at c5]
        by_cases hok : 1 ≤ n ∧ n ≤ 32
        · obtain ⟨k, rfl⟩ : ∃ k : Nat, n = k := ⟨n.toNat, by omega⟩
          refine wWrite_spec (by omega) (by omega) (by omega) ws5.wr (by omega) fun H6 dv6 w6 c6 => ?_
          have ws6 := ws5.write w6 c6
          have c6' := hx6d c6
          simp only [pPick_v, pNil_v, pNil_f, pAdd_v, pSub_v, pMul_v, pAdd_s, pQuo_v, pRem_v, pBits_v, pShl_v, pShr_v, pLt_v, pLe_v, pGt_v, pGe_v, pEq_0, pNe_0, pEq_1, pNe_1, pEq_2, pNe_2, pEq_3n, pNe_3n, pEq_3s, pNe_3s, pEq_3t, pNe_3t, pEq_5n, pNe_5n, pEq_5s, pNe_5s, pEq_5t, pNe_5t, pEq_4n, pNe_4n, pEq_4s, pNe_4s, pNot_v, pNeg_v, pCom_v, pConv_v, pConvS_v, pMin_v, pMax_v, pFieldAddr_v, pField1_v, pFieldN_v, pExtract_v, pIdxArr_v, pIdxSl_v, pIdxStr_v, pBounds_00, pBounds_10, pBounds_01, pBounds_11, pSlStr_v, pSlSl_v, pSlArr_v, pLenS_v, pLen_v, pCap_v, pBuild_n, pBuild_c, cells_int, cells_str, cells_bool, cells_ptr, cells_slice, cells_map, cells_agg, oneCell_int, oneCell_str, oneCell_bool, oneCell_ptr, oneCell_slice, oneCell_map, putL_cons, putL_nil, pAnd_pure, pOr_pure, pAnd_pureE, pOr_pureE, pAnd_false, pOr_true, pCond_true, pCond_false, add_mk, bys_mk, bys_size, cond_true, cond_false, decide_true, decide_false, decide_not', dec_and, dec_or, dec_eqt, Bool.not_true, Bool.not_false, Option.isNone_none, Option.isNone_some, Option.map_some, Option.map_none, List.getElem?_toArray, List.getElem?_cons_zero, List.getElem?_cons_succ, List.size_toArray, List.length_cons, List.length_nil, List.length_replicate, List.set_cons_zero, List.set_cons_succ, Nat.reduceAdd, Nat.reduceMul, Nat.reduceSub, Nat.reduceLeDiff, Nat.zero_add, Nat.add_zero, Nat.zero_le, true_and, and_true, not_false_eq_true, ne_eq, Int.reduceNeg, Int.reduceEq, Int.reduceNe, Int.reduceLT, Int.reduceLE, le_refl', List.setIfInBounds_toArray, Nat.reduceLT, Array.size_setIfInBounds, if_true, if_false, reduceCtorEq, List.toArray_toList', List.drop_succ_cons, List.drop_zero, List.take_succ_cons, List.take_zero, List.nil_append, List.append_nil, List.cons_append, Bool.and_true, Bool.true_and, Bool.or_false, Bool.false_or, Bool.and_false, Bool.or_true, Bool.true_or, Bool.false_and, eq_self, pLoad_at c6']
          rw [decide_eq_true (p := 1 ≤ (k : Int) ∧ (k : Int) ≤ 32) (by omega)]
          simp only [pPick_v, pNil_v, pNil_f, pAdd_v, pSub_v, pMul_v, pAdd_s, pQuo_v, pRem_v, pBits_v, pShl_v, pShr_v, pLt_v, pLe_v, pGt_v, pGe_v, pEq_0, pNe_0, pEq_1, pNe_1, pEq_2, pNe_2, pEq_3n, pNe_3n, pEq_3s, pNe_3s, pEq_3t, pNe_3t, pEq_5n, pNe_5n, pEq_5s, pNe_5s, pEq_5t, pNe_5t, pEq_4n, pNe_4n, pEq_4s, pNe_4s, pNot_v, pNeg_v, pCom_v, pConv_v, pConvS_v, pMin_v, pMax_v, pFieldAddr_v, pField1_v, pFieldN_v, pExtract_v, pIdxArr_v, pIdxSl_v, pIdxStr_v, pBounds_00, pBounds_10, pBounds_01, pBounds_11, pSlStr_v, pSlSl_v, pSlArr_v, pLenS_v, pLen_v, pCap_v, pBuild_n, pBuild_c, cells_int, cells_str, cells_bool, cells_ptr, cells_slice, cells_map, cells_agg, oneCell_int, oneCell_str, oneCell_bool, oneCell_ptr, oneCell_slice, oneCell_map, putL_cons, putL_nil, pAnd_pure, pOr_pure, pAnd_pureE, pOr_pureE, pAnd_false, pOr_true, pCond_true, pCond_false, add_mk, bys_mk, bys_size, cond_true, cond_false, decide_true, decide_false, decide_not', dec_and, dec_or, dec_eqt, Bool.not_true, Bool.not_false, Option.isNone_none, Option.isNone_some, Option.map_some, Option.map_none, List.getElem?_toArray, List.getElem?_cons_zero, List.getElem?_cons_succ, List.size_toArray, List.length_cons, List.length_nil, List.length_replicate, List.set_cons_zero, List.set_cons_succ, Nat.reduceAdd, Nat.reduceMul, Nat.reduceSub, Nat.reduceLeDiff, Nat.zero_add, Nat.add_zero, Nat.zero_le, true_and, and_true, not_false_eq_true, ne_eq, Int.reduceNeg, Int.reduceEq, Int.reduceNe, Int.reduceLT, Int.reduceLE, le_refl', List.setIfInBounds_toArray, Nat.reduceLT, Array.size_setIfInBounds, if_true, if_false, reduceCtorEq, List.toArray_toList', List.drop_succ_cons, List.drop_zero, List.take_succ_cons, List.take_zero, List.nil_append, List.append_nil, List.cons_append, Bool.and_true, Bool.true_and, Bool.or_false, Bool.false_or, Bool.and_false, Bool.or_true, Bool.true_or, Bool.false_and, eq_self, pLoad_at c6']
          refine fun _ => refOf_spec (by omega) (by omega) fun H7 y o7 e7 f7 => ?_
          rw [Int.toNat_natCast] at o7
          refine (ws6.more e7).join (o7.sl (by decide)) (by rw [bitsN_len]; omega) fun want8 H8 ws8 => ?_
          exact ⟨dv6, _, ws8, by rw [List.length_append, bitsN_len]; omega⟩
        · refine wWrite_no hok ?_
          simp only [pPick_v, pNil_v, pNil_f, pAdd_v, pSub_v, pMul_v, pAdd_s, pQuo_v, pRem_v, pBits_v, pShl_v, pShr_v, pLt_v, pLe_v, pGt_v, pGe_v, pEq_0, pNe_0, pEq_1, pNe_1, pEq_2, pNe_2, pEq_3n, pNe_3n, pEq_3s, pNe_3s, pEq_3t, pNe_3t, pEq_5n, pNe_5n, pEq_5s, pNe_5s, pEq_5t, pNe_5t, pEq_4n, pNe_4n, pEq_4s, pNe_4s, pNot_v, pNeg_v, pCom_v, pConv_v, pConvS_v, pMin_v, pMax_v, pFieldAddr_v, pField1_v, pFieldN_v, pExtract_v, pIdxArr_v, pIdxSl_v, pIdxStr_v, pBounds_00, pBounds_10, pBounds_01, pBounds_11, pSlStr_v, pSlSl_v, pSlArr_v, pLenS_v, pLen_v, pCap_v, pBuild_n, pBuild_c, cells_int, cells_str, cells_bool, cells_ptr, cells_slice, cells_map, cells_agg, oneCell_int, oneCell_str, oneCell_bool, oneCell_ptr, oneCell_slice, oneCell_map, putL_cons, putL_nil, pAnd_pure, pOr_pure, pAnd_pureE, pOr_pureE, pAnd_false, pOr_true, pCond_true, pCond_false, add_mk, bys_mk, bys_size, cond_true, cond_false, decide_true, decide_false, decide_not', dec_and, dec_or, dec_eqt, Bool.not_true, Bool.not_false, Option.isNone_none, Option.isNone_some, Option.map_some, Option.map_none, List.getElem?_toArray, List.getElem?_cons_zero, List.getElem?_cons_succ, List.size_toArray, List.length_cons, List.length_nil, List.length_replicate, List.set_cons_zero, List.set_cons_succ, Nat.reduceAdd, Nat.reduceMul, Nat.reduceSub, Nat.reduceLeDiff, Nat.zero_add, Nat.add_zero, Nat.zero_le, true_and, and_true, not_false_eq_true, ne_eq, Int.reduceNeg, Int.reduceEq, Int.reduceNe, Int.reduceLT, Int.reduceLE, le_refl', List.setIfInBounds_toArray, Nat.reduceLT, Array.size_setIfInBounds, if_true, if_false, reduceCtorEq, List.toArray_toList', List.drop_succ_cons, List.drop_zero, List.take_succ_cons, List.take_zero, List.nil_append, List.append_nil, List.cons_append, Bool.and_true, Bool.true_and, Bool.or_false, Bool.false_or, Bool.and_false, Bool.or_true, Bool.true_or, Bool.false_and, eq_self, pLoad_at c5]
          rw [decide_eq_false (p := 1 ≤ n ∧ n ≤ 32) hok]
          simp only [pPick_v, pNil_v, pNil_f, pAdd_v, pSub_v, pMul_v, pAdd_s, pQuo_v, pRem_v, pBits_v, pShl_v, pShr_v, pLt_v, pLe_v, pGt_v, pGe_v, pEq_0, pNe_0, pEq_1, pNe_1, pEq_2, pNe_2, pEq_3n, pNe_3n, pEq_3s, pNe_3s, pEq_3t, pNe_3t, pEq_5n, pNe_5n, pEq_5s, pNe_5s, pEq_5t, pNe_5t, pEq_4n, pNe_4n, pEq_4s, pNe_4s, pNot_v, pNeg_v, pCom_v, pConv_v, pConvS_v, pMin_v, pMax_v, pFieldAddr_v, pField1_v, pFieldN_v, pExtract_v, pIdxArr_v, pIdxSl_v, pIdxStr_v, pBounds_00, pBounds_10, pBounds_01, pBounds_11, pSlStr_v, pSlSl_v, pSlArr_v, pLenS_v, pLen_v, pCap_v, pBuild_n, pBuild_c, cells_int, cells_str, cells_bool, cells_ptr, cells_slice, cells_map, cells_agg, oneCell_int, oneCell_str, oneCell_bool, oneCell_ptr, oneCell_slice, oneCell_map, putL_cons, putL_nil, pAnd_pure, pOr_pure, pAnd_pureE, pOr_pureE, pAnd_false, pOr_true, pCond_true, pCond_false, add_mk, bys_mk, bys_size, cond_true, cond_false, decide_true, decide_false, decide_not', dec_and, dec_or, dec_eqt, Bool.not_true, Bool.not_false, Option.isNone_none, Option.isNone_some, Option.map_some, Option.map_none, List.getElem?_toArray, List.getElem?_cons_zero, List.getElem?_cons_succ, List.size_toArray, List.length_cons, List.length_nil, List.length_replicate, List.set_cons_zero, List.set_cons_succ, Nat.reduceAdd, Nat.reduceMul, Nat.reduceSub, Nat.reduceLeDiff, Nat.zero_add, Nat.add_zero, Nat.zero_le, true_and, and_true, not_false_eq_true, ne_eq, Int.reduceNeg, Int.reduceEq, Int.reduceNe, Int.reduceLT, Int.reduceLE, le_refl', List.setIfInBounds_toArray, Nat.reduceLT, Array.size_setIfInBounds, if_true, if_false, reduceCtorEq, List.toArray_toList', List.drop_succ_cons, List.drop_zero, List.take_succ_cons, List.take_zero, List.nil_append, List.append_nil, List.cons_append, Bool.and_true, Bool.true_and, Bool.or_false, Bool.false_or, Bool.and_false, Bool.or_true, Bool.true_or, Bool.false_and, eq_self]
          exact fun _ => ⟨dv, B, ws5, by omega⟩
      · rw [and_low (k := 2) (m := 3) (by decide) rfl]
        refine pCond_if (fun hc2 => ?_) (fun hc2 => ?_)
        · -- bytes are added
          simp only [pPick_v, pNil_v, pNil_f, pAdd_v, pSub_v, pMul_v, pAdd_s, pQuo_v, pRem_v, pBits_v, pShl_v, pShr_v, pLt_v, pLe_v, pGt_v, pGe_v, pEq_0, pNe_0, pEq_1, pNe_1, pEq_2, pNe_2, pEq_3n, pNe_3n, pEq_3s, pNe_3s, pEq_3t, pNe_3t, pEq_5n, pNe_5n, pEq_5s, pNe_5s, pEq_5t, pNe_5t, pEq_4n, pNe_4n, pEq_4s, pNe_4s, pNot_v, pNeg_v, pCom_v, pConv_v, pConvS_v, pMin_v, pMax_v, pFieldAddr_v, pField1_v, pFieldN_v, pExtract_v, pIdxArr_v, pIdxSl_v, pIdxStr_v, pBounds_00, pBounds_10, pBounds_01, pBounds_11, pSlStr_v, pSlSl_v, pSlArr_v, pLenS_v, pLen_v, pCap_v, pBuild_n, pBuild_c, cells_int, cells_str, cells_bool, cells_ptr, cells_slice, cells_map, cells_agg, oneCell_int, oneCell_str, oneCell_bool, oneCell_ptr, oneCell_slice, oneCell_map, putL_cons, putL_nil, pAnd_pure, pOr_pure, pAnd_pureE, pOr_pureE, pAnd_false, pOr_true, pCond_true, pCond_false, add_mk, bys_mk, bys_size, cond_true, cond_false, decide_true, decide_false, decide_not', dec_and, dec_or, dec_eqt, Bool.not_true, Bool.not_false, Option.isNone_none, Option.isNone_some, Option.map_some, Option.map_none, List.getElem?_toArray, List.getElem?_cons_zero, List.getElem?_cons_succ, List.size_toArray, List.length_cons, List.length_nil, List.length_replicate, List.set_cons_zero, List.set_cons_succ, Nat.reduceAdd, Nat.reduceMul, Nat.reduceSub, Nat.reduceLeDiff, Nat.zero_add, Nat.add_zero, Nat.zero_le, true_and, and_true, not_false_eq_true, ne_eq, Int.reduceNeg, Int.reduceEq, Int.reduceNe, Int.reduceLT, Int.reduceLE, le_refl', List.setIfInBounds_toArray, Nat.reduceLT, Array.size_setIfInBounds, if_true, if_false, reduceCtorEq, List.toArray_toList', List.drop_succ_cons, List.drop_zero, List.take_succ_cons, List.take_zero, List.nil_append, List.append_nil, List.cons_append, Bool.and_true, Bool.true_and, Bool.or_false, Bool.false_or, Bool.and_false, Bool.or_true, Bool.true_or, Bool.false_and, eq_self, pLoad_at c5]
          refine ⟨by omega, by omega, ?_⟩
          generalize hX : List.take ((min (t.length : Int) 20).toNat - 0) t = X
          have hXl : X.length ≤ 20 := by rw [← hX, List.length_take]; omega
          refine wAdd_spec ws5.wr (by omega) fun H6 dv6 w6 c6 => ?_
          have ws6 := ws5.write w6 c6
          have hp := padB_len B
          refine pad_loop ws6 (by omega) fun want7 H7 ws7 => ?_
          refine refBits_spec (by omega) fun H8 y o8 e8 f8 => ?_
          refine (ws7.more e8).join (o8.sl (by decide)) (by rw [toBits_len]; omega) fun want9 H9 ws9 => ?_
          exact ⟨dv6, _, ws9, by rw [List.length_append, toBits_len]; omega⟩
        · -- what is whole is drained
          refine wDrain_spec ws5.wr fun H6 dv6 w6 c6 => ?_
          have ws6 := ws5.write w6 c6
          refine refBytes_spec (by omega) (ws6.own.sl (by decide)) fun H7 e7 => ?_
          have ws7 := ws6.more e7
          simp only [pPick_v, pNil_v, pNil_f, pAdd_v, pSub_v, pMul_v, pAdd_s, pQuo_v, pRem_v, pBits_v, pShl_v, pShr_v, pLt_v, pLe_v, pGt_v, pGe_v, pEq_0, pNe_0, pEq_1, pNe_1, pEq_2, pNe_2, pEq_3n, pNe_3n, pEq_3s, pNe_3s, pEq_3t, pNe_3t, pEq_5n, pNe_5n, pEq_5s, pNe_5s, pEq_5t, pNe_5t, pEq_4n, pNe_4n, pEq_4s, pNe_4s, pNot_v, pNeg_v, pCom_v, pConv_v, pConvS_v, pMin_v, pMax_v, pFieldAddr_v, pField1_v, pFieldN_v, pExtract_v, pIdxArr_v, pIdxSl_v, pIdxStr_v, pBounds_00, pBounds_10, pBounds_01, pBounds_11, pSlStr_v, pSlSl_v, pSlArr_v, pLenS_v, pLen_v, pCap_v, pBuild_n, pBuild_c, cells_int, cells_str, cells_bool, cells_ptr, cells_slice, cells_map, cells_agg, oneCell_int, oneCell_str, oneCell_bool, oneCell_ptr, oneCell_slice, oneCell_map, putL_cons, putL_nil, pAnd_pure, pOr_pure, pAnd_pureE, pOr_pureE, pAnd_false, pOr_true, pCond_true, pCond_false, add_mk, bys_mk, bys_size, cond_true, cond_false, decide_true, decide_false, decide_not', dec_and, dec_or, dec_eqt, Bool.not_true, Bool.not_false, Option.isNone_none, Option.isNone_some, Option.map_some, Option.map_none, List.getElem?_toArray, List.getElem?_cons_zero, List.getElem?_cons_succ, List.size_toArray, List.length_cons, List.length_nil, List.length_replicate, List.set_cons_zero, List.set_cons_succ, Nat.reduceAdd, Nat.reduceMul, Nat.reduceSub, Nat.reduceLeDiff, Nat.zero_add, Nat.add_zero, Nat.zero_le, true_and, and_true, not_false_eq_true, ne_eq, Int.reduceNeg, Int.reduceEq, Int.reduceNe, Int.reduceLT, Int.reduceLE, le_refl', List.setIfInBounds_toArray, Nat.reduceLT, Array.size_setIfInBounds, if_true, if_false, reduceCtorEq, List.toArray_toList', List.drop_succ_cons, List.drop_zero, List.take_succ_cons, List.take_zero, List.nil_append, List.append_nil, List.cons_append, Bool.and_true, Bool.true_and, Bool.or_false, Bool.false_or, Bool.and_false, Bool.or_true, Bool.true_or, Bool.false_and, eq_self]
          rw [decide_eq_false (by simp), pCond_false]
          refine own_build0 fun y H8 o8 e8 k8 => ?_
          have ws8 := ws7.more e8
          refine (ws8.own.sl (by decide)).len (n := B.length) (by rw [bitsV_len]; omega) (by decide) ?_
          simp only [pPick_v, pNil_v, pNil_f, pAdd_v, pSub_v, pMul_v, pAdd_s, pQuo_v, pRem_v, pBits_v, pShl_v, pShr_v, pLt_v, pLe_v, pGt_v, pGe_v, pEq_0, pNe_0, pEq_1, pNe_1, pEq_2, pNe_2, pEq_3n, pNe_3n, pEq_3s, pNe_3s, pEq_3t, pNe_3t, pEq_5n, pNe_5n, pEq_5s, pNe_5s, pEq_5t, pNe_5t, pEq_4n, pNe_4n, pEq_4s, pNe_4s, pNot_v, pNeg_v, pCom_v, pConv_v, pConvS_v, pMin_v, pMax_v, pFieldAddr_v, pField1_v, pFieldN_v, pExtract_v, pIdxArr_v, pIdxSl_v, pIdxStr_v, pBounds_00, pBounds_10, pBounds_01, pBounds_11, pSlStr_v, pSlSl_v, pSlArr_v, pLenS_v, pLen_v, pCap_v, pBuild_n, pBuild_c, cells_int, cells_str, cells_bool, cells_ptr, cells_slice, cells_map, cells_agg, oneCell_int, oneCell_str, oneCell_bool, oneCell_ptr, oneCell_slice, oneCell_map, putL_cons, putL_nil, pAnd_pure, pOr_pure, pAnd_pureE, pOr_pureE, pAnd_false, pOr_true, pCond_true, pCond_false, add_mk, bys_mk, bys_size, cond_true, cond_false, decide_true, decide_false, decide_not', dec_and, dec_or, dec_eqt, Bool.not_true, Bool.not_false, Option.isNone_none, Option.isNone_some, Option.map_some, Option.map_none, List.getElem?_toArray, List.getElem?_cons_zero, List.getElem?_cons_succ, List.size_toArray, List.length_cons, List.length_nil, List.length_replicate, List.set_cons_zero, List.set_cons_succ, Nat.reduceAdd, Nat.reduceMul, Nat.reduceSub, Nat.reduceLeDiff, Nat.zero_add, Nat.add_zero, Nat.zero_le, true_and, and_true, not_false_eq_true, ne_eq, Int.reduceNeg, Int.reduceEq, Int.reduceNe, Int.reduceLT, Int.reduceLE, le_refl', List.setIfInBounds_toArray, Nat.reduceLT, Array.size_setIfInBounds, if_true, if_false, reduceCtorEq, List.toArray_toList', List.drop_succ_cons, List.drop_zero, List.take_succ_cons, List.take_zero, List.nil_append, List.append_nil, List.cons_append, Bool.and_true, Bool.true_and, Bool.or_false, Bool.false_or, Bool.and_false, Bool.or_true, Bool.true_or, Bool.false_and, eq_self]
          rw [Int.tdiv_eq_ediv_of_nonneg (by omega), w64 (n := (B.length : Int) / 8) (by omega) (by omega), w64 (n := (B.length : Int) / 8 * 8) (by omega) (by omega), show (B.length : Int) / 8 * 8 = ((8 * (B.length / 8) : Nat) : Int) by omega]
          refine (ws8.own.sl (by decide)).cut (by decide) (n := B.length) (lo := 8 * (B.length / 8)) (hi := B.length) (by rw [bitsV_len]; omega) (by omega) (Nat.le_refl _) (fun z hz => ?_) (.inl rfl) (.inr ⟨rfl, rfl⟩)
          rw [show 8 * (B.length / 8) * 1 = 8 * (B.length / 8) by omega, drop_bitsV, take_bitsV, List.take_of_length_le (by rw [List.length_drop]; omega)] at hz
          refine o8.append (n := 0) (m := (B.drop (8 * (B.length / 8))).length) (by decide) rfl (hz.lenV (by rw [bitsV_len]; omega) (by decide)) hz.cellsOf rfl (by rw [bitsV_len]; omega) (bitsV_one _) (by rw [List.length_drop]; omega) fun v9 H9 o9 i9 s9 k9 => ?_
          refine ⟨dv6, B.drop (8 * (B.length / 8)), ?_, by rw [List.length_drop]; omega⟩
          have hyf : ∀ j, blkOf y = some j → H7.size ≤ j := k8
          have hv9 : ∀ j, blkOf v9 = some j → H7.size ≤ j := fun j hj => by
            rcases k9 with h' | h'
            · exact hyf j (h' ▸ hj)
            · rw [h', Option.some.injEq] at hj; have := e8.size; omega
          have x9 : ∀ j, j < H7.size → H9[j]? = H7[j]? := fun j hj => by
            rw [i9 j (by have := e8.size; omega) (fun e => by have := hyf j e; omega)]; exact e8.get j hj
          have x79 : Ext H7 H9 := ⟨by have := e8.size; omega, x9⟩
          refine { (ws7.more x79) with own := by rw [List.nil_append] at o9; exact o9, hw := fun j hj => ?_, s1 := fun e => ?_, s2 := fun j hj hj' => ?_ }
          · have := hv9 j hj; have := ws7.ext.size; omega
          · have := hv9 b e; have := ws7.wr.lt; omega
          · have := hv9 j hj; have := ws7.wr.live j hj'; omega
    · refine pCond_b (fun _ => ⟨_, rfl, rfl⟩) (fun _ => ⟨_, rfl, rfl⟩)
  · refine wAlign_spec ws3.wr (by omega) fun H4 dv4 w4 c4 => ?_
    have ws4 := ws3.write w4 c4
    refine pad_loop ws4 (by omega) fun want5 H5 ws5 => ?_
    have hp := padB_len B
    refine wDrain_spec ws5.wr fun H6 dv6 w6 c6 => ?_
    have ws6 := ws5.write w6 c6
    refine refBytes_spec (by omega) (ws6.own.sl (by decide)) fun H7 e7 => ?_
    have ws7 := ws6.more e7
    simp only [pPick_v, pNil_v, pNil_f, pAdd_v, pSub_v, pMul_v, pAdd_s, pQuo_v, pRem_v, pBits_v, pShl_v, pShr_v, pLt_v, pLe_v, pGt_v, pGe_v, pEq_0, pNe_0, pEq_1, pNe_1, pEq_2, pNe_2, pEq_3n, pNe_3n, pEq_3s, pNe_3s, pEq_3t, pNe_3t, pEq_5n, pNe_5n, pEq_5s, pNe_5s, pEq_5t, pNe_5t, pEq_4n, pNe_4n, pEq_4s, pNe_4s, pNot_v, pNeg_v, pCom_v, pConv_v, pConvS_v, pMin_v, pMax_v, pFieldAddr_v, pField1_v, pFieldN_v, pExtract_v, pIdxArr_v, pIdxSl_v, pIdxStr_v, pBounds_00, pBounds_10, pBounds_01, pBounds_11, pSlStr_v, pSlSl_v, pSlArr_v, pLenS_v, pLen_v, pCap_v, pBuild_n, pBuild_c, cells_int, cells_str, cells_bool, cells_ptr, cells_slice, cells_map, cells_agg, oneCell_int, oneCell_str, oneCell_bool, oneCell_ptr, oneCell_slice, oneCell_map, putL_cons, putL_nil, pAnd_pure, pOr_pure, pAnd_pureE, pOr_pureE, pAnd_false, pOr_true, pCond_true, pCond_false, add_mk, bys_mk, bys_size, cond_true, cond_false, decide_true, decide_false, decide_not', dec_and, dec_or, dec_eqt, Bool.not_true, Bool.not_false, Option.isNone_none, Option.isNone_some, Option.map_some, Option.map_none, List.getElem?_toArray, List.getElem?_cons_zero, List.getElem?_cons_succ, List.size_toArray, List.length_cons, List.length_nil, List.length_replicate, List.set_cons_zero, List.set_cons_succ, Nat.reduceAdd, Nat.reduceMul, Nat.reduceSub, Nat.reduceLeDiff, Nat.zero_add, Nat.add_zero, Nat.zero_le, true_and, and_true, not_false_eq_true, ne_eq, Int.reduceNeg, Int.reduceEq, Int.reduceNe, Int.reduceLT, Int.reduceLE, le_refl', List.setIfInBounds_toArray, Nat.reduceLT, Array.size_setIfInBounds, if_true, if_false, reduceCtorEq, List.toArray_toList', List.drop_succ_cons, List.drop_zero, List.take_succ_cons, List.take_zero, List.nil_append, List.append_nil, List.cons_append, Bool.and_true, Bool.true_and, Bool.or_false, Bool.false_or, Bool.and_false, Bool.or_true, Bool.true_or, Bool.false_and, eq_self]
    refine pAnd_true ?_
    refine wLen_spec ws7.wr ?_
    rw [List.length_drop, show (padB B).length - 8 * ((padB B).length / 8) = 0 by omega]
    simp only [pPick_v, pNil_v, pNil_f, pAdd_v, pSub_v, pMul_v, pAdd_s, pQuo_v, pRem_v, pBits_v, pShl_v, pShr_v, pLt_v, pLe_v, pGt_v, pGe_v, pEq_0, pNe_0, pEq_1, pNe_1, pEq_2, pNe_2, pEq_3n, pNe_3n, pEq_3s, pNe_3s, pEq_3t, pNe_3t, pEq_5n, pNe_5n, pEq_5s, pNe_5s, pEq_5t, pNe_5t, pEq_4n, pNe_4n, pEq_4s, pNe_4s, pNot_v, pNeg_v, pCom_v, pConv_v, pConvS_v, pMin_v, pMax_v, pFieldAddr_v, pField1_v, pFieldN_v, pExtract_v, pIdxArr_v, pIdxSl_v, pIdxStr_v, pBounds_00, pBounds_10, pBounds_01, pBounds_11, pSlStr_v, pSlSl_v, pSlArr_v, pLenS_v, pLen_v, pCap_v, pBuild_n, pBuild_c, cells_int, cells_str, cells_bool, cells_ptr, cells_slice, cells_map, cells_agg, oneCell_int, oneCell_str, oneCell_bool, oneCell_ptr, oneCell_slice, oneCell_map, putL_cons, putL_nil, pAnd_pure, pOr_pure, pAnd_pureE, pOr_pureE, pAnd_false, pOr_true, pCond_true, pCond_false, add_mk, bys_mk, bys_size, cond_true, cond_false, decide_true, decide_false, decide_not', dec_and, dec_or, dec_eqt, Bool.not_true, Bool.not_false, Option.isNone_none, Option.isNone_some, Option.map_some, Option.map_none, List.getElem?_toArray, List.getElem?_cons_zero, List.getElem?_cons_succ, List.size_toArray, List.length_cons, List.length_nil, List.length_replicate, List.set_cons_zero, List.set_cons_succ, Nat.reduceAdd, Nat.reduceMul, Nat.reduceSub, Nat.reduceLeDiff, Nat.zero_add, Nat.add_zero, Nat.zero_le, true_and, and_true, not_false_eq_true, ne_eq, Int.reduceNeg, Int.reduceEq, Int.reduceNe, Int.reduceLT, Int.reduceLE, le_refl', List.setIfInBounds_toArray, Nat.reduceLT, Array.size_setIfInBounds, if_true, if_false, reduceCtorEq, List.toArray_toList', List.drop_succ_cons, List.drop_zero, List.take_succ_cons, List.take_zero, List.nil_append, List.append_nil, List.cons_append, Bool.and_true, Bool.true_and, Bool.or_false, Bool.false_or, Bool.and_false, Bool.or_true, Bool.true_or, Bool.false_and, eq_self]
    exact fun _ => ⟨rfl, ws7.ext⟩
end Go.Proofs.Ytppaiehkjdidiaa
