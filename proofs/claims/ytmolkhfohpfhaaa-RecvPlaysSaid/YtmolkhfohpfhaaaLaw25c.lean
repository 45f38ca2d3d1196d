/- The law RecvPlays over heaps. -/
import Derived.Test.YtmolkhfohpfhaaaLaw25
import Derived.Test.YtmolkhfohpfhaaaRef25
import Derived.Test.YtmolkhfohpfhaaaVcRows
namespace Go.Proofs.Ytmolkhfohpfhaaa
open Go Go.Vc Go.Proofs
set_option linter.unusedVariables false
set_option linter.unusedSimpArgs false
variable {H : Heap} {R : Value → Heap → Prop} {b r : Nat} {next size : Int} {S : Slots}
/-- the window as an own thing -/
def rcvT (b r : Nat) (next size : Int) (S : Slots) : Thing where
  foot k := k = b ∨ k = r
  holds H := Rcv H b r next size S
  frame h hf := { h with blk := (hf _ (.inl rfl)).trans h.blk, map := h.map.keep (hf _ (.inr rfl)) }
  lt h hk := by
    rcases hk with rfl | rfl
    · exact lt_of_blk h.blk
    · exact h.map.lt
/-- the ref's window as an own thing -/
def refT (w : Value) (next : Int) (S : Slots) : Thing where
  foot := footW w
  holds H := RefW H w next S ∧ S ≠ []
  frame := by
    rintro H H' ⟨⟨tv, bv, rfl, h1, h2⟩, h3⟩ hf
    exact ⟨⟨tv, bv, rfl, h1.frame fun k hk => hf k (footW_mk.2 (.inl hk)), h2.frame fun k hk => hf k (footW_mk.2 (.inr hk))⟩, h3⟩
  lt := by
    rintro H k ⟨⟨tv, bv, rfl, h1, h2⟩, h3⟩ hk
    rcases footW_mk.1 hk with hk | hk
    · exact h1.lt (by simpa [txtV] using h3) hk
    · exact h2.lt (by simpa [thV] using h3) hk
theorem owns_rcv {H0 H' : Heap} {L L' : List It} {next' : Int} {S' : Slots} (o : Owns H0 H L) (on : Only b r H H') (w : Rcv H' b r next' size S') (hr : Rep (.thing (rcvT b r next size S)) (.thing (rcvT b r next' size S')) L L') : Owns H0 H' L' :=
  o.turn hr on.size (fun k hk hn => on.same k hk (fun e => hn (.inl e)) (fun e => hn (.inr e))) w (fun k hk => .inl hk)
theorem owns_ref {H0 H' : Heap} {L L' : List It} {w w' : Value} {next' : Int} {S' : Slots} (o : Owns H0 H L) (hx : Ext H H') (hw : RefW H' w' next' S') (hne : S' ≠ []) (hf : ∀ k, footW w' k → footW w k ∨ H.size ≤ k) (hr : Rep (.thing (refT w next S)) (.thing (refT w' next' S')) L L') : Owns H0 H' L' :=
  o.turn hr hx.size (fun k hk _ => hx.get k hk) ⟨hw, hne⟩ hf
theorem act5 {r : List Value} (hl : r.length = 5) (hf : FitAll [.int .i64, .int .i64, .bool, .int .u32, .string] fun j => r[j]?) :
    ∃ (w n : Int) (raw : Bool) (m : Int) (t : List UInt8), r = [.int .i64 w, .int .i64 n, .bool raw, .int .u32 m, str t] ∧ t.length ≤ maxLen ∧ (Lit.int .u32 m).wf = true := by
  match r, hl with
  | [a, b, c, d, e], _ =>
    obtain ⟨_, h0, x0, rfl, k0⟩ := hf 0 _ rfl
    obtain ⟨_, h1, x1, rfl, k1⟩ := hf 1 _ rfl
    obtain ⟨_, h2, x2, rfl⟩ := hf 2 _ rfl
    obtain ⟨_, h3, x3, rfl, k3⟩ := hf 3 _ rfl
    obtain ⟨_, h4, x4, rfl, k4⟩ := hf 4 _ rfl
    simp at h0 h1 h2 h3 h4
    exact ⟨x0, x1, x2, x3, x4, by simp [*], k4, k3⟩
theorem RefW.agg {w : Value} (h : RefW H w next S) : ∃ tv bv, w = .agg #[.int .u32 next, tv, bv] ∧ oneCell tv = true ∧ oneCell bv = true := by
  obtain ⟨tv, bv, e, h1, h2⟩ := h.ex
  exact ⟨tv, bv, e, h1.one, h2.one⟩
set_option maxHeartbeats 2000000 in
theorem RecvPlays_law (next size : Int) (a : Option Addr) (len cap : Nat) (w0 : (Lit.int .u32 next).wf = true) (w1 : (Lit.int .i64 size).wf = true) (w2 : StructRow [.int .i64, .int .i64, .bool, .int .u32, .string] H a len cap) :
    CallsH Try.prog 3 #[.int .u32 next, .int .i64 size, .slice a len cap] H (LawOk H) := by
  have hmax : maxLen = 9223372036854775807 := rfl
  have hn := wfu32 w0
  obtain ⟨L, hLl, hlm, hL1, hL2, hS⟩ := w2.rows (by decide)
  have hSl : L.flatten.length = len * 5 := by rw [flat_len L hL1, hLl]; rfl
  refine lighterlaw25_RecvPlays.vc _ _ _ _ _ ?_
  unfold lighterlaw25_RecvPlays.res
  refine speaks25_spec fun H1 x1 => ?_
  rw [pNot_v, Bool.not_true, pCond_false]
  have o := (Owns.start (H := H)).more x1
  simp only [pBits_v, and_low (k := 5) (m := 31) (n := size) (by decide) rfl, pAdd_v]
  have hq := Int.emod_lt_of_pos size (show (0 : Int) < 2 ^ 5 by decide)
  have hq0 := Int.emod_nonneg size (show (2 : Int) ^ 5 ≠ 0 by decide)
  generalize size % 2 ^ 5 = q at *
  rw [w64 (n := 1 + q) (by omega) (by omega)]
  obtain ⟨s, hs⟩ : ∃ s : Nat, 1 + q = (s : Int) := ⟨(1 + q).toNat, by omega⟩
  rw [hs]
  have hs1 : 1 ≤ s := by omega
  have hs2 : s ≤ 32 := by omega
  refine rNew_spec hn.1 hn.2 (by omega) fun H2 b r wn2 e2 hb hr => ?_
  refine pExtract_to rfl ?_
  refine pExtract_to rfl ?_
  rw [pNe_0, decide_eq_false (by simp), pCond_false]
  have o := o.add (i := .thing (rcvT b r next s (List.replicate (s : Int).toNat none))) e2 wn2 (fun k hk => by rcases hk with rfl | rfl <;> assumption)
  refine refNew_spec (by omega) (by omega) fun w H3 hw3 wr3 e3 => ?_
  have o := o.add (i := .thing (refT w next (List.replicate (s : Int).toNat none))) e3 ⟨wr3, by simp; omega⟩ hw3
  obtain ⟨tv, bv, rfl, ot, ob⟩ := wr3.agg
  refine o.box fun m9 H4 o _ => ?_
  change Owns H H4 [.box m9 [.int .u32 0, .slice none 0 0, .slice none 0 0] _, _, _] at o
  refine o.bstoreN (vs := [.int .u32 next, tv, bv]) (by repeat (first | exact List.mem_cons_self | apply List.mem_cons_of_mem)) rfl rfl (all_cons rfl (all_cons ot (all_cons ob rfl))) (by repeat (first | exact Rep.here | apply Rep.there)) fun H5 o _ => ?_
  -- the loop
  refine ⟨fun i H' => ∃ (k : Nat) (next : Int) (tv bv : Value) (S : Slots), i = .int .i64 k ∧ Owns H H' [.box m9 [.int .u32 next, tv, bv] 32, .thing (refT (.agg #[.int .u32 next, tv, bv]) next S), .thing (rcvT b r next s S)], fun i _ => match i with | .int _ x => (100 - x).toNat | _ => 0, ⟨0, next, tv, bv, _, rfl, o⟩, ?_⟩
  rintro _ _ H6 ⟨k, next, tv, bv, S, rfl, o⟩
  have hrow := hS.ext o.ext
  rw [pLen_v, pLt_v]
  by_cases hkl : (k : Int) < (len : Int)
  rotate_left
  · rw [decide_eq_false hkl, pAnd_false]
    intro _
    rw [pCond_false]
    exact ⟨rfl, o.ext⟩
  rw [decide_eq_true hkl]
  refine pAnd_true ?_
  rw [pLt_v]
  intro _
  refine pCond_if (fun hc => ?_) (fun hc => ⟨rfl, o.ext⟩)
  have hil : k < L.length := by omega
  have hrm := List.getElem_mem hil
  obtain ⟨what, near, raw, num, t, hr', ht, hnum⟩ := act5 (hL1 _ hrm) (hL2 _ hrm)
  have hat := flat_at L k L[k] hL1 (List.getElem?_eq_getElem hil)
  rw [hr'] at hat
  refine hrow.at_ (n := len) hSl (by decide) (by omega) (by omega) fun p hp => ?_
  refine hp.loadN hrow (ws := [.int .i64 what, .int .i64 near, .bool raw, .int .u32 num, str t]) (by rw [Int.toNat_natCast]; exact hat) rfl ?_
  refine o.box fun c H7 o _ => ?_
  change Owns H H7 [.box c [.int .i64 0, .int .i64 0, .bool false, .int .u32 0, str []] _, _, _, _] at o
  refine o.bstoreN (vs := [_, _, _, _, _]) (by repeat (first | exact List.mem_cons_self | apply List.mem_cons_of_mem)) rfl rfl rfl (by repeat (first | exact Rep.here | apply Rep.there)) fun H8 o _ => ?_
  refine ⟨fun H' => ∃ (next : Int) (tv bv : Value) (S : Slots), Owns H H' [.box m9 [.int .u32 next, tv, bv] 32, .thing (refT (.agg #[.int .u32 next, tv, bv]) next S), .thing (rcvT b r next s S)], ?_, ?_⟩
  · -- the answers are the same
    rintro _ H9 ⟨next, tv, bv, S, o⟩
    have wr : Rcv H9 b r next s S := o.thing (T := rcvT b r next s S) (by repeat (first | exact List.mem_cons_self | apply List.mem_cons_of_mem))
    refine rAck_spec wr fun H10 wr10 x10 => ?_
    have o := o.more x10
    refine pExtract_to rfl ?_
    refine pExtract_to rfl ?_
    rw [pFieldAddr_v, add_mk]
    refine o.bload (by repeat (first | exact List.mem_cons_self | apply List.mem_cons_of_mem)) rfl ?_
    rw [pNe_0, decide_eq_false (by simp)]
    refine pOr_false ?_
    refine o.bloadN (by repeat (first | exact List.mem_cons_self | apply List.mem_cons_of_mem)) rfl ?_
    have hl := wr.len
    have hheld := wr.held
    have hheld2 := heldL_le S wr.small
    refine refBits_spec (o.thing (T := refT _ next S) (by repeat (first | exact List.mem_cons_self | apply List.mem_cons_of_mem))).1 (by omega) (by omega) fun H11 x11 => ?_
    have o := o.more x11
    rw [pNe_0, decide_eq_false (by simp)]
    refine fun _ => pOr_false ?_
    refine o.bloadN (by repeat (first | exact List.mem_cons_self | apply List.mem_cons_of_mem)) rfl ?_
    refine rHeld_spec (o.thing (T := rcvT b r next s S) (by repeat (first | exact List.mem_cons_self | apply List.mem_cons_of_mem))) ?_
    refine ⟨o.bloadN (by repeat (first | exact List.mem_cons_self | apply List.mem_cons_of_mem)) rfl rfl, ?_⟩
    refine refHeld_spec (o.thing (T := refT _ next S) (by repeat (first | exact List.mem_cons_self | apply List.mem_cons_of_mem))).1 (by omega) (by omega) fun H12 x12 => ?_
    have o := o.more x12
    rw [pNe_0, decide_eq_false (by simp)]
    refine fun _ => pOr_false ?_
    rw [pMul_v, w64 (n := 256 * (s : Int)) (by omega) (by omega)]
    refine rHeld_spec (o.thing (T := rcvT b r next s S) (by repeat (first | exact List.mem_cons_self | apply List.mem_cons_of_mem))) ?_
    rw [pGt_v, decide_eq_false (by omega)]
    intro _
    rw [pCond_false, pAdd_v, w64 (n := (k : Int) + 1) (by omega) (by omega)]
    exact ⟨⟨k + 1, next, tv, bv, S, rfl, o⟩, by show (_ : Int).toNat < (_ : Int).toNat; omega⟩
  have wr : Rcv H8 b r next s S := o.thing (T := rcvT b r next s S) (by repeat (first | exact List.mem_cons_self | apply List.mem_cons_of_mem))
  have hl := wr.len
  have hSne : S ≠ [] := by rintro rfl; simp at hl; omega
  rw [pFieldAddr_v, add_mk]
  refine o.bload (by repeat (first | exact List.mem_cons_self | apply List.mem_cons_of_mem)) rfl ?_
  simp only [pPick_v, pNil_v, pNil_f, pAdd_v, pSub_v, pMul_v, pAdd_s, pQuo_v, pRem_v, pBits_v, pShl_v, pShr_v, pLt_v, pLe_v, pGt_v, pGe_v, pEq_0, pNe_0, pEq_1, pNe_1, pEq_2, pNe_2, pEq_3n, pNe_3n, pEq_3s, pNe_3s, pEq_3t, pNe_3t, pEq_5n, pNe_5n, pEq_5s, pNe_5s, pEq_5t, pNe_5t, pEq_4n, pNe_4n, pEq_4s, pNe_4s, pNot_v, pNeg_v, pCom_v, pConv_v, pConvS_v, pMin_v, pMax_v, pFieldAddr_v, pField1_v, pFieldN_v, pExtract_v, pIdxArr_v, pIdxSl_v, pIdxStr_v, pBounds_00, pBounds_10, pBounds_01, pBounds_11, pSlStr_v, pSlSl_v, pSlArr_v, pLenS_v, pLen_v, pCap_v, pBuild_n, pBuild_c, cells_int, cells_str, cells_bool, cells_ptr, cells_slice, cells_map, cells_agg, oneCell_int, oneCell_str, oneCell_bool, oneCell_ptr, oneCell_slice, oneCell_map, putL_cons, putL_nil, pAnd_pure, pOr_pure, pAnd_pureE, pOr_pureE, pAnd_false, pOr_true, pCond_true, pCond_false, add_mk, bys_mk, bys_size, cond_true, cond_false, decide_true, decide_false, decide_not', dec_and, dec_or, dec_eqt, Bool.not_true, Bool.not_false, Option.isNone_none, Option.isNone_some, Option.map_some, Option.map_none, List.getElem?_toArray, List.getElem?_cons_zero, List.getElem?_cons_succ, List.size_toArray, List.length_cons, List.length_nil, List.length_replicate, List.set_cons_zero, List.set_cons_succ, Nat.reduceAdd, Nat.reduceMul, Nat.reduceSub, Nat.reduceLeDiff, Nat.zero_add, Nat.add_zero, Nat.zero_le, true_and, and_true, not_false_eq_true, ne_eq, Int.reduceNeg, Int.reduceEq, Int.reduceNe, Int.reduceLT, Int.reduceLE, le_refl', List.setIfInBounds_toArray, Nat.reduceLT, Array.size_setIfInBounds, if_true, if_false, reduceCtorEq, List.toArray_toList', List.drop_succ_cons, List.drop_zero, List.take_succ_cons, List.take_zero, List.nil_append, List.append_nil, List.cons_append, Bool.and_true, Bool.true_and, Bool.or_false, Bool.false_or, Bool.and_false, Bool.or_true, Bool.true_or, Bool.false_and, eq_self]
  refine pCond_if (fun hc => ?_) (fun hc => ?_)
  · -- the next text
    refine rNext_spec wr (fun h0 => ?_) (fun t' S' H9 hS9 wr9 on9 => ?_)
    · refine pExtract_to rfl ?_
      refine pExtract_to rfl ?_
      refine o.bloadN (by repeat (first | exact List.mem_cons_self | apply List.mem_cons_of_mem)) rfl ?_
      refine refStep_spec (o.thing (T := refT _ next S) (by repeat (first | exact List.mem_cons_self | apply List.mem_cons_of_mem))).1 (by omega) (by omega) wr.n0 wr.n1 (fun _ w' H10 hf hw e10 => ?_) (fun t' S' hS' => by rw [hS'] at h0; simp at h0)
      obtain ⟨tv', bv', rfl, ot, ob⟩ := hw.agg
      have o := owns_ref o e10 hw hSne hf (by repeat (first | exact Rep.here | apply Rep.there))
      refine pExtract_to rfl ?_
      refine pExtract_to rfl ?_
      refine pExtract_to rfl ?_
      refine o.box fun n14 H11 o _ => ?_
      change Owns H H11 [.box n14 [.int .u32 0, .slice none 0 0, .slice none 0 0] _, _, _, _, _] at o
      refine o.bstoreN (vs := [.int .u32 next, tv', bv']) (by repeat (first | exact List.mem_cons_self | apply List.mem_cons_of_mem)) rfl rfl (all_cons rfl (all_cons ot (all_cons ob rfl))) (by repeat (first | exact Rep.here | apply Rep.there)) fun H12 o _ => ?_
      refine pNe1_to ?_
      rw [decide_eq_false (by simp)]
      refine pOr_false ?_
      rw [pNe_2, decide_eq_false (by simp)]
      intro _
      rw [pCond_false]
      refine o.bloadN (by repeat (first | exact List.mem_cons_self | apply List.mem_cons_of_mem)) rfl ?_
      refine o.bstoreN (vs := [.int .u32 next, tv', bv']) (by repeat (first | exact List.mem_cons_self | apply List.mem_cons_of_mem)) rfl rfl (all_cons rfl (all_cons ot (all_cons ob rfl))) (by repeat (first | exact Rep.here | apply Rep.there)) fun H13 o _ => ?_
      exact ⟨next, tv', bv', S, o.arr (by repeat (first | exact Sels.nil | exact Sel.here | apply Sels.cons | apply Sel.there))⟩
    · have o := owns_rcv o on9 wr9 (by repeat (first | exact Rep.here | apply Rep.there))
      refine pExtract_to rfl ?_
      refine pExtract_to rfl ?_
      refine o.bloadN (by repeat (first | exact List.mem_cons_self | apply List.mem_cons_of_mem)) rfl ?_
      refine refStep_spec (o.thing (T := refT _ next S) (by repeat (first | exact List.mem_cons_self | apply List.mem_cons_of_mem))).1 (by omega) (by omega) wr.n0 wr.n1 (fun h0 => by rw [hS9] at h0; simp at h0) (fun t2 S2 hS2 w' H10 hf hw e10 => ?_)
      rw [hS9] at hS2
      simp only [List.cons.injEq, Option.some.injEq] at hS2
      obtain ⟨rfl, rfl⟩ := hS2
      obtain ⟨tv', bv', rfl, ot, ob⟩ := hw.agg
      have o := owns_ref o e10 hw (by simp) hf (by repeat (first | exact Rep.here | apply Rep.there))
      refine pExtract_to rfl ?_
      refine pExtract_to rfl ?_
      refine pExtract_to rfl ?_
      refine o.box fun n14 H11 o _ => ?_
      change Owns H H11 [.box n14 [.int .u32 0, .slice none 0 0, .slice none 0 0] _, _, _, _, _] at o
      refine o.bstoreN (vs := [_, tv', bv']) (by repeat (first | exact List.mem_cons_self | apply List.mem_cons_of_mem)) rfl rfl (all_cons rfl (all_cons ot (all_cons ob rfl))) (by repeat (first | exact Rep.here | apply Rep.there)) fun H12 o _ => ?_
      refine pNe1_to ?_
      rw [decide_eq_false (by simp)]
      refine pOr_false ?_
      rw [pNe_2, decide_eq_false (by simp)]
      intro _
      rw [pCond_false]
      refine o.bloadN (by repeat (first | exact List.mem_cons_self | apply List.mem_cons_of_mem)) rfl ?_
      refine o.bstoreN (vs := [_, tv', bv']) (by repeat (first | exact List.mem_cons_self | apply List.mem_cons_of_mem)) rfl rfl (all_cons rfl (all_cons ot (all_cons ob rfl))) (by repeat (first | exact Rep.here | apply Rep.there)) fun H13 o _ => ?_
      exact ⟨_, tv', bv', _, o.arr (by repeat (first | exact Sels.nil | exact Sel.here | apply Sels.cons | apply Sel.there))⟩
  · -- a text is taken
    refine o.bload (by repeat (first | exact List.mem_cons_self | apply List.mem_cons_of_mem)) rfl ?_
    refine o.bload (by repeat (first | exact List.mem_cons_self | apply List.mem_cons_of_mem)) rfl ?_
    simp only [pPick_v, pNil_v, pNil_f, pAdd_v, pSub_v, pMul_v, pAdd_s, pQuo_v, pRem_v, pBits_v, pShl_v, pShr_v, pLt_v, pLe_v, pGt_v, pGe_v, pEq_0, pNe_0, pEq_1, pNe_1, pEq_2, pNe_2, pEq_3n, pNe_3n, pEq_3s, pNe_3s, pEq_3t, pNe_3t, pEq_5n, pNe_5n, pEq_5s, pNe_5s, pEq_5t, pNe_5t, pEq_4n, pNe_4n, pEq_4s, pNe_4s, pNot_v, pNeg_v, pCom_v, pConv_v, pConvS_v, pMin_v, pMax_v, pFieldAddr_v, pField1_v, pFieldN_v, pExtract_v, pIdxArr_v, pIdxSl_v, pIdxStr_v, pBounds_00, pBounds_10, pBounds_01, pBounds_11, pSlStr_v, pSlSl_v, pSlArr_v, pLenS_v, pLen_v, pCap_v, pBuild_n, pBuild_c, cells_int, cells_str, cells_bool, cells_ptr, cells_slice, cells_map, cells_agg, oneCell_int, oneCell_str, oneCell_bool, oneCell_ptr, oneCell_slice, oneCell_map, putL_cons, putL_nil, pAnd_pure, pOr_pure, pAnd_pureE, pOr_pureE, pAnd_false, pOr_true, pCond_true, pCond_false, add_mk, bys_mk, bys_size, cond_true, cond_false, decide_true, decide_false, decide_not', dec_and, dec_or, dec_eqt, Bool.not_true, Bool.not_false, Option.isNone_none, Option.isNone_some, Option.map_some, Option.map_none, List.getElem?_toArray, List.getElem?_cons_zero, List.getElem?_cons_succ, List.size_toArray, List.length_cons, List.length_nil, List.length_replicate, List.set_cons_zero, List.set_cons_succ, Nat.reduceAdd, Nat.reduceMul, Nat.reduceSub, Nat.reduceLeDiff, Nat.zero_add, Nat.add_zero, Nat.zero_le, true_and, and_true, not_false_eq_true, ne_eq, Int.reduceNeg, Int.reduceEq, Int.reduceNe, Int.reduceLT, Int.reduceLE, le_refl', List.setIfInBounds_toArray, Nat.reduceLT, Array.size_setIfInBounds, if_true, if_false, reduceCtorEq, List.toArray_toList', List.drop_succ_cons, List.drop_zero, List.take_succ_cons, List.take_zero, List.nil_append, List.append_nil, List.cons_append, Bool.and_true, Bool.true_and, Bool.or_false, Bool.false_or, Bool.and_false, Bool.or_true, Bool.true_or, Bool.false_and, eq_self]
    refine ⟨fun v H' => ∃ n : Int, v = .int .u32 n ∧ 0 ≤ n ∧ n ≤ 4294967295 ∧ H8 = H', ?_, ?_⟩
    · rintro _ _ _ ⟨n, rfl, hn0, hn1, rfl⟩
      refine o.bload (by repeat (first | exact List.mem_cons_self | apply List.mem_cons_of_mem)) rfl ?_
      refine o.bload (by repeat (first | exact List.mem_cons_self | apply List.mem_cons_of_mem)) rfl ?_
      simp only [pPick_v, pNil_v, pNil_f, pAdd_v, pSub_v, pMul_v, pAdd_s, pQuo_v, pRem_v, pBits_v, pShl_v, pShr_v, pLt_v, pLe_v, pGt_v, pGe_v, pEq_0, pNe_0, pEq_1, pNe_1, pEq_2, pNe_2, pEq_3n, pNe_3n, pEq_3s, pNe_3s, pEq_3t, pNe_3t, pEq_5n, pNe_5n, pEq_5s, pNe_5s, pEq_5t, pNe_5t, pEq_4n, pNe_4n, pEq_4s, pNe_4s, pNot_v, pNeg_v, pCom_v, pConv_v, pConvS_v, pMin_v, pMax_v, pFieldAddr_v, pField1_v, pFieldN_v, pExtract_v, pIdxArr_v, pIdxSl_v, pIdxStr_v, pBounds_00, pBounds_10, pBounds_01, pBounds_11, pSlStr_v, pSlSl_v, pSlArr_v, pLenS_v, pLen_v, pCap_v, pBuild_n, pBuild_c, cells_int, cells_str, cells_bool, cells_ptr, cells_slice, cells_map, cells_agg, oneCell_int, oneCell_str, oneCell_bool, oneCell_ptr, oneCell_slice, oneCell_map, putL_cons, putL_nil, pAnd_pure, pOr_pure, pAnd_pureE, pOr_pureE, pAnd_false, pOr_true, pCond_true, pCond_false, add_mk, bys_mk, bys_size, cond_true, cond_false, decide_true, decide_false, decide_not', dec_and, dec_or, dec_eqt, Bool.not_true, Bool.not_false, Option.isNone_none, Option.isNone_some, Option.map_some, Option.map_none, List.getElem?_toArray, List.getElem?_cons_zero, List.getElem?_cons_succ, List.size_toArray, List.length_cons, List.length_nil, List.length_replicate, List.set_cons_zero, List.set_cons_succ, Nat.reduceAdd, Nat.reduceMul, Nat.reduceSub, Nat.reduceLeDiff, Nat.zero_add, Nat.add_zero, Nat.zero_le, true_and, and_true, not_false_eq_true, ne_eq, Int.reduceNeg, Int.reduceEq, Int.reduceNe, Int.reduceLT, Int.reduceLE, le_refl', List.setIfInBounds_toArray, Nat.reduceLT, Array.size_setIfInBounds, if_true, if_false, reduceCtorEq, List.toArray_toList', List.drop_succ_cons, List.drop_zero, List.take_succ_cons, List.take_zero, List.nil_append, List.append_nil, List.cons_append, Bool.and_true, Bool.true_and, Bool.or_false, Bool.false_or, Bool.and_false, Bool.or_true, Bool.true_or, Bool.false_and, eq_self]
      refine ⟨by omega, by omega, ?_⟩
      generalize hT : List.take ((min (t.length : Int) 260).toNat - 0) t = T
      have hTl : T.length ≤ 260 := by rw [← hT, List.length_take]; omega
      refine o.bloadN (by repeat (first | exact List.mem_cons_self | apply List.mem_cons_of_mem)) rfl ?_
      have hl2 : S.length ≤ 32 := by omega
      by_cases hyes : T.length ≤ 256 ∧ S[place next n]? = some none
      · refine refTake_spec hn0 hn1 wr.n0 wr.n1 (by omega) (o.thing (T := refT _ next S) (by repeat (first | exact List.mem_cons_self | apply List.mem_cons_of_mem))).1 hl2 (fun h => absurd hyes h) (fun _ _ w' H10 hf hw e10 => ?_)
        obtain ⟨tv', bv', rfl, ot, ob⟩ := hw.agg
        have o := owns_ref o e10 hw (by simpa using hSne) hf (by repeat (first | exact Rep.here | apply Rep.there))
        refine pExtract_to rfl ?_
        refine pExtract_to rfl ?_
        refine o.box fun n19 H11 o _ => ?_
        change Owns H H11 [.box n19 [.int .u32 0, .slice none 0 0, .slice none 0 0] _, _, _, _, _] at o
        refine o.bstoreN (vs := [_, tv', bv']) (by repeat (first | exact List.mem_cons_self | apply List.mem_cons_of_mem)) rfl rfl (all_cons rfl (all_cons ot (all_cons ob rfl))) (by repeat (first | exact Rep.here | apply Rep.there)) fun H12 o _ => ?_
        refine rTake_spec hn0 hn1 (by omega) (o.thing (T := rcvT b r next s S) (by repeat (first | exact List.mem_cons_self | apply List.mem_cons_of_mem))) (fun h => absurd hyes h) (fun _ _ H13 wr13 on13 => ?_)
        have o := owns_rcv o on13 wr13 (by repeat (first | exact Rep.here | apply Rep.there))
        rw [pNe_2, decide_eq_false (by simp)]
        rw [pCond_false]
        refine o.bloadN (by repeat (first | exact List.mem_cons_self | apply List.mem_cons_of_mem)) rfl ?_
        refine o.bstoreN (vs := [_, tv', bv']) (by repeat (first | exact List.mem_cons_self | apply List.mem_cons_of_mem)) rfl rfl (all_cons rfl (all_cons ot (all_cons ob rfl))) (by repeat (first | exact Rep.here | apply Rep.there)) fun H14 o _ => ?_
        exact ⟨next, tv', bv', _, o.arr (by repeat (first | exact Sels.nil | exact Sel.here | apply Sels.cons | apply Sel.there))⟩
      · refine refTake_spec hn0 hn1 wr.n0 wr.n1 (by omega) (o.thing (T := refT _ next S) (by repeat (first | exact List.mem_cons_self | apply List.mem_cons_of_mem))).1 hl2 (fun _ w' H10 hf hw e10 => ?_) (fun h1 h2 => absurd ⟨h1, h2⟩ hyes)
        obtain ⟨tv', bv', rfl, ot, ob⟩ := hw.agg
        have o := owns_ref o e10 hw hSne hf (by repeat (first | exact Rep.here | apply Rep.there))
        refine pExtract_to rfl ?_
        refine pExtract_to rfl ?_
        refine o.box fun n19 H11 o _ => ?_
        change Owns H H11 [.box n19 [.int .u32 0, .slice none 0 0, .slice none 0 0] _, _, _, _, _] at o
        refine o.bstoreN (vs := [_, tv', bv']) (by repeat (first | exact List.mem_cons_self | apply List.mem_cons_of_mem)) rfl rfl (all_cons rfl (all_cons ot (all_cons ob rfl))) (by repeat (first | exact Rep.here | apply Rep.there)) fun H12 o _ => ?_
        refine rTake_spec hn0 hn1 (by omega) (o.thing (T := rcvT b r next s S) (by repeat (first | exact List.mem_cons_self | apply List.mem_cons_of_mem))) (fun h => ?_) (fun h1 h2 => absurd ⟨h1, h2⟩ hyes)
        rw [pNe_2, decide_eq_false (by simp)]
        rw [pCond_false]
        refine o.bloadN (by repeat (first | exact List.mem_cons_self | apply List.mem_cons_of_mem)) rfl ?_
        refine o.bstoreN (vs := [_, tv', bv']) (by repeat (first | exact List.mem_cons_self | apply List.mem_cons_of_mem)) rfl rfl (all_cons rfl (all_cons ot (all_cons ob rfl))) (by repeat (first | exact Rep.here | apply Rep.there)) fun H14 o _ => ?_
        exact ⟨next, tv', bv', _, o.arr (by repeat (first | exact Sels.nil | exact Sel.here | apply Sels.cons | apply Sel.there))⟩
    · refine o.bload (by repeat (first | exact List.mem_cons_self | apply List.mem_cons_of_mem)) rfl ?_
      cases raw with
      | true =>
        rw [pCond_true]
        refine o.bload (by repeat (first | exact List.mem_cons_self | apply List.mem_cons_of_mem)) rfl ?_
        have := wfu32 hnum
        exact ⟨num, rfl, this.1, this.2, rfl⟩
      | false =>
        rw [pCond_false]
        exact ⟨_, rfl, (wu32_range _).1, (wu32_range _).2, rfl⟩
end Go.Proofs.Ytmolkhfohpfhaaa
