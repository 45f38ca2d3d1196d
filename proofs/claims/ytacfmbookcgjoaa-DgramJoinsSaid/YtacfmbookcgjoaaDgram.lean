/- Contracts of package dgram. -/
import Derived.Test.YtacfmbookcgjoaaBitsN
import Derived.Test.YtacfmbookcgjoaaCrc
import Derived.Test.YtacfmbookcgjoaaResDgram
namespace Go.Proofs.Ytacfmbookcgjoaa
open Go Go.Vc Go.Proofs
set_option linter.unusedVariables false
set_option linter.unusedSimpArgs false
variable {H : Heap} {R : Value → Heap → Prop}
/-- a datagram -/
structure Dg where
  kind : Int
  session : Nat
  epoch : Nat
  seq : Nat
  at_ : Nat
  sum : Nat
  map : Nat
  last : Bool
  text : List UInt8
def Dg.cells (d : Dg) : List Value := [.int .i64 d.kind, n32 d.session, n32 d.epoch, n32 d.seq, .int .u64 (d.at_ : Int), n32 d.sum, n32 d.map, .bool d.last, str d.text]
def Dg.zero : Dg := ⟨0, 0, 0, 0, 0, 0, 0, false, []⟩
/-- the numbers fit their kinds -/
structure Dg.Fits (d : Dg) : Prop where
  k0 : -9223372036854775808 ≤ d.kind
  k1 : d.kind ≤ 9223372036854775807
  s : d.session < 4294967296
  e : d.epoch < 4294967296
  q : d.seq < 4294967296
  a : d.at_ < 18446744073709551616
  u : d.sum < 4294967296
  m : d.map < 4294967296
  t : d.text.length ≤ 9223372036854775807
/-- may it be? -/
def Dg.Good (d : Dg) : Prop := (1 ≤ d.kind ∧ d.kind ≤ 5) ∧ d.at_ < 4611686018427387904 ∧ d.text.length ≤ 256 ∧ (d.kind = 4 ∨ d.map = 0) ∧ (d.kind = 3 ∨ d.text = []) ∧ (d.kind = 3 ∨ d.kind = 2 ∨ d.last = false)
instance (d : Dg) : Decidable d.Good := by unfold Dg.Good; infer_instance
theorem good_spec {d : Dg} (hf : d.Fits) (h : ∀ H', Ext H H' → R (.bool (decide d.Good)) H') : CallsH Try.prog 11 #[.agg d.cells.toArray] H R := by
  refine dgram_Datagram_Good.vc _ _ _ ?_
  unfold dgram_Datagram_Good.res
  refine pBox_ext fun H1 s1 e1 b1 => ?_
  have hb : H1[H.size]? = some (.cells d.cells.toArray 32 (0, 0)) := b1
  have h := h H1 e1
  simp only [pPick_v, pNil_v, pNil_f, pAdd_v, pSub_v, pMul_v, pAdd_s, pQuo_v, pRem_v, pBits_v, pShl_v, pShr_v, pLt_v, pLe_v, pGt_v, pGe_v, pEq_0, pNe_0, pEq_1, pNe_1, pEq_2, pNe_2, pEq_3n, pNe_3n, pEq_3s, pNe_3s, pEq_3t, pNe_3t, pEq_5n, pNe_5n, pEq_5s, pNe_5s, pEq_5t, pNe_5t, pEq_4n, pNe_4n, pEq_4s, pNe_4s, pNot_v, pNeg_v, pCom_v, pConv_v, pConvS_v, pMin_v, pMax_v, pFieldAddr_v, pField1_v, pFieldN_v, pExtract_v, pIdxArr_v, pIdxSl_v, pIdxStr_v, pBounds_00, pBounds_10, pBounds_01, pBounds_11, pSlStr_v, pSlSl_v, pSlArr_v, pLenS_v, pLen_v, pCap_v, pBuild_n, pBuild_c, cells_int, cells_str, cells_bool, cells_ptr, cells_slice, cells_map, cells_agg, oneCell_int, oneCell_str, oneCell_bool, oneCell_ptr, oneCell_slice, oneCell_map, putL_cons, putL_nil, pAnd_pure, pOr_pure, pAnd_pureE, pOr_pureE, pAnd_false, pOr_true, pCond_true, pCond_false, add_mk, bys_mk, bys_size, cond_true, cond_false, decide_true, decide_false, decide_not', dec_and, dec_or, dec_eqt, Bool.not_true, Bool.not_false, Option.isNone_none, Option.isNone_some, Option.map_some, Option.map_none, List.getElem?_toArray, List.getElem?_cons_zero, List.getElem?_cons_succ, List.size_toArray, List.length_cons, List.length_nil, List.length_replicate, List.set_cons_zero, List.set_cons_succ, Nat.reduceAdd, Nat.reduceMul, Nat.reduceSub, Nat.reduceLeDiff, Nat.zero_add, Nat.add_zero, Nat.zero_le, true_and, and_true, not_false_eq_true, ne_eq, Int.reduceNeg, Int.reduceEq, Int.reduceNe, Int.reduceLT, Int.reduceLE, le_refl', List.setIfInBounds_toArray, Nat.reduceLT, Array.size_setIfInBounds, if_true, if_false, reduceCtorEq, List.toArray_toList', List.drop_succ_cons, List.drop_zero, List.take_succ_cons, List.take_zero, List.nil_append, List.append_nil, List.cons_append, Bool.and_true, Bool.true_and, Bool.or_false, Bool.false_or, Bool.and_false, Bool.or_true, Bool.true_or, Bool.false_and, eq_self, pLoad_at hb, Dg.cells]
  intros
  by_cases hc : ((d.kind < 1 ∨ 5 < d.kind) ∨ 4611686018427387904 ≤ (d.at_ : Int)) ∨ 256 < (d.text.length : Int)
  · rw [decide_eq_true hc, pCond_true]
    rw [decide_eq_false (show ¬ d.Good from fun g => by unfold Dg.Good at g; omega)] at h
    exact h
  rw [decide_eq_false hc, pCond_false]
  have hl : d.last = false ∨ d.last = true := by cases d.last <;> simp
  refine pCond_if (fun h3 => ?_) (fun h3 => ?_)
  · have e : d.Good ↔ (d.map : Int) = 0 := by
      unfold Dg.Good
      constructor
      · rintro ⟨_, _, _, g | g, _⟩ <;> omega
      · intro g; exact ⟨by omega, by omega, by omega, .inr (by omega), .inl h3, .inl h3⟩
    rw [decide_eq_decide.2 e] at h
    exact h
  refine pCond_if (fun h2 => ?_) (fun h2 => ?_)
  · have e : d.Good ↔ (d.map : Int) = 0 ∧ d.text = [] := by
      unfold Dg.Good
      constructor
      · rintro ⟨_, _, _, g, g2, _⟩
        exact ⟨by omega, by rcases g2 with g2 | g2; omega; exact g2⟩
      · rintro ⟨g, g2⟩; exact ⟨by omega, by omega, by omega, .inr (by omega), .inr g2, .inr (.inl h2)⟩
    rw [decide_eq_decide.2 e] at h
    exact fun _ => h
  refine pCond_if (fun h4 => ?_) (fun h4 => ?_)
  · have e : d.Good ↔ d.text = [] ∧ d.last = false := by
      unfold Dg.Good
      constructor
      · rintro ⟨_, _, _, g, g2, g3⟩
        refine ⟨by rcases g2 with g2 | g2; omega; exact g2, ?_⟩
        rcases g3 with g3 | g3 | g3
        · omega
        · omega
        · exact g3
      · rintro ⟨g, g2⟩; exact ⟨by omega, by omega, by omega, .inl h4, .inr g, .inr (.inr g2)⟩
    rw [decide_eq_decide.2 e] at h
    rw [show (decide (d.text = []) && !d.last) = decide (d.text = [] ∧ d.last = false) by rcases hl with hl | hl <;> simp [hl]]
    exact fun _ => h
  · have e : d.Good ↔ ((d.map : Int) = 0 ∧ d.text = []) ∧ d.last = false := by
      unfold Dg.Good
      constructor
      · rintro ⟨_, _, _, g, g2, g3⟩
        refine ⟨⟨by omega, by rcases g2 with g2 | g2; omega; exact g2⟩, ?_⟩
        rcases g3 with g3 | g3 | g3
        · omega
        · omega
        · exact g3
      · rintro ⟨⟨g, g2⟩, g3⟩; exact ⟨by omega, by omega, by omega, .inr (by omega), .inr g2, .inr (.inr g3)⟩
    rw [decide_eq_decide.2 e] at h
    rw [show (decide ((d.map : Int) = 0 ∧ d.text = []) && !d.last) = decide (((d.map : Int) = 0 ∧ d.text = []) ∧ d.last = false) by rcases hl with hl | hl <;> simp [hl]]
    exact fun _ _ => h
/-- numbers in four bytes each -/
def foursL (l : List Nat) : List UInt8 := l.flatMap fun n => putN n 4
theorem foursL_len (l : List Nat) : (foursL l).length = 4 * l.length := by
  induction l with
  | nil => rfl
  | cons n l ih => unfold foursL at ih ⊢; rw [List.flatMap_cons, List.length_append, ih, putN_len, List.length_cons]; omega
theorem fours_spec {v : Value} {l : List Nat} (hl : l.length ≤ 1000) (hlt : ∀ n ∈ l, n < 4294967296) (hs : Sl H v 1 (l.map n32)) (h : ∀ H', Ext H H' → R (str (foursL l)) H') : CallsH Try.prog 24 #[v] H R := by
  refine dgram_fours.vc _ _ _ ?_
  unfold dgram_fours.res
  refine hs.len (n := l.length) (by simp) (by decide) ?_
  refine ⟨fun s i H' => ∃ j : Nat, i = .int .i64 j ∧ j ≤ l.length ∧ s = str (foursL (l.take j)) ∧ Ext H H', fun _ i _ => match i with | .int _ x => (l.length - x).toNat | _ => 0, ⟨0, rfl, by omega, rfl, Ext.refl _⟩, ?_⟩
  rintro _ _ _ H1 ⟨j, rfl, hj, rfl, e1⟩
  simp only [pPick_v, pNil_v, pNil_f, pAdd_v, pSub_v, pMul_v, pAdd_s, pQuo_v, pRem_v, pBits_v, pShl_v, pShr_v, pLt_v, pLe_v, pGt_v, pGe_v, pEq_0, pNe_0, pEq_1, pNe_1, pEq_2, pNe_2, pEq_3n, pNe_3n, pEq_3s, pNe_3s, pEq_3t, pNe_3t, pEq_5n, pNe_5n, pEq_5s, pNe_5s, pEq_5t, pNe_5t, pEq_4n, pNe_4n, pEq_4s, pNe_4s, pNot_v, pNeg_v, pCom_v, pConv_v, pConvS_v, pMin_v, pMax_v, pFieldAddr_v, pField1_v, pFieldN_v, pExtract_v, pIdxArr_v, pIdxSl_v, pIdxStr_v, pBounds_00, pBounds_10, pBounds_01, pBounds_11, pSlStr_v, pSlSl_v, pSlArr_v, pLenS_v, pLen_v, pCap_v, pBuild_n, pBuild_c, cells_int, cells_str, cells_bool, cells_ptr, cells_slice, cells_map, cells_agg, oneCell_int, oneCell_str, oneCell_bool, oneCell_ptr, oneCell_slice, oneCell_map, putL_cons, putL_nil, pAnd_pure, pOr_pure, pAnd_pureE, pOr_pureE, pAnd_false, pOr_true, pCond_true, pCond_false, add_mk, bys_mk, bys_size, cond_true, cond_false, decide_true, decide_false, decide_not', dec_and, dec_or, dec_eqt, Bool.not_true, Bool.not_false, Option.isNone_none, Option.isNone_some, Option.map_some, Option.map_none, List.getElem?_toArray, List.getElem?_cons_zero, List.getElem?_cons_succ, List.size_toArray, List.length_cons, List.length_nil, List.length_replicate, List.set_cons_zero, List.set_cons_succ, Nat.reduceAdd, Nat.reduceMul, Nat.reduceSub, Nat.reduceLeDiff, Nat.zero_add, Nat.add_zero, Nat.zero_le, true_and, and_true, not_false_eq_true, ne_eq, Int.reduceNeg, Int.reduceEq, Int.reduceNe, Int.reduceLT, Int.reduceLE, le_refl', List.setIfInBounds_toArray, Nat.reduceLT, Array.size_setIfInBounds, if_true, if_false, reduceCtorEq, List.toArray_toList', List.drop_succ_cons, List.drop_zero, List.take_succ_cons, List.take_zero, List.nil_append, List.append_nil, List.cons_append, Bool.and_true, Bool.true_and, Bool.or_false, Bool.false_or, Bool.and_false, Bool.or_true, Bool.true_or, Bool.false_and, eq_self]
  refine pCond_if (fun hc => ?_) (fun hc => ?_)
  · have hjl : j < l.length := by omega
    have hm := hlt _ (List.getElem_mem hjl)
    refine (hs.ext e1).idx (n := l.length) (by simp) (by decide) (by omega) (by omega) fun ad had => ?_
    refine had.load (v := n32 l[j]) ?_ ?_
    · rw [Int.toNat_natCast, Nat.mul_one, List.getElem?_take, if_pos (by decide), List.getElem?_drop, Nat.add_zero, List.getElem?_map, List.getElem?_eq_getElem hjl]; rfl
    simp only [pPick_v, pNil_v, pNil_f, pAdd_v, pSub_v, pMul_v, pAdd_s, pQuo_v, pRem_v, pBits_v, pShl_v, pShr_v, pLt_v, pLe_v, pGt_v, pGe_v, pEq_0, pNe_0, pEq_1, pNe_1, pEq_2, pNe_2, pEq_3n, pNe_3n, pEq_3s, pNe_3s, pEq_3t, pNe_3t, pEq_5n, pNe_5n, pEq_5s, pNe_5s, pEq_5t, pNe_5t, pEq_4n, pNe_4n, pEq_4s, pNe_4s, pNot_v, pNeg_v, pCom_v, pConv_v, pConvS_v, pMin_v, pMax_v, pFieldAddr_v, pField1_v, pFieldN_v, pExtract_v, pIdxArr_v, pIdxSl_v, pIdxStr_v, pBounds_00, pBounds_10, pBounds_01, pBounds_11, pSlStr_v, pSlSl_v, pSlArr_v, pLenS_v, pLen_v, pCap_v, pBuild_n, pBuild_c, cells_int, cells_str, cells_bool, cells_ptr, cells_slice, cells_map, cells_agg, oneCell_int, oneCell_str, oneCell_bool, oneCell_ptr, oneCell_slice, oneCell_map, putL_cons, putL_nil, pAnd_pure, pOr_pure, pAnd_pureE, pOr_pureE, pAnd_false, pOr_true, pCond_true, pCond_false, add_mk, bys_mk, bys_size, cond_true, cond_false, decide_true, decide_false, decide_not', dec_and, dec_or, dec_eqt, Bool.not_true, Bool.not_false, Option.isNone_none, Option.isNone_some, Option.map_some, Option.map_none, List.getElem?_toArray, List.getElem?_cons_zero, List.getElem?_cons_succ, List.size_toArray, List.length_cons, List.length_nil, List.length_replicate, List.set_cons_zero, List.set_cons_succ, Nat.reduceAdd, Nat.reduceMul, Nat.reduceSub, Nat.reduceLeDiff, Nat.zero_add, Nat.add_zero, Nat.zero_le, true_and, and_true, not_false_eq_true, ne_eq, Int.reduceNeg, Int.reduceEq, Int.reduceNe, Int.reduceLT, Int.reduceLE, le_refl', List.setIfInBounds_toArray, Nat.reduceLT, Array.size_setIfInBounds, if_true, if_false, reduceCtorEq, List.toArray_toList', List.drop_succ_cons, List.drop_zero, List.take_succ_cons, List.take_zero, List.nil_append, List.append_nil, List.cons_append, Bool.and_true, Bool.true_and, Bool.or_false, Bool.false_or, Bool.and_false, Bool.or_true, Bool.true_or, Bool.false_and, eq_self]
    rw [wu64 (n := (l[j] : Int)) (by omega) (by omega)]
    refine put_spec (k := 4) (by omega) (by decide) (by decide) fun H2 e2 => ?_
    refine pAdd_str (by rw [foursL_len, putN_len, List.length_take]; omega) ?_
    rw [w64 (by omega) (by omega)]
    refine ⟨⟨j + 1, rfl, by omega, ?_, e1.trans e2⟩, by show (_ : Int).toNat < (_ : Int).toNat; omega⟩
    unfold foursL
    rw [List.take_add_one, List.getElem?_eq_getElem hjl, List.flatMap_append]
    simp
  · have : j = l.length := by omega
    subst this
    rw [List.take_length]
    exact h H1 e1
theorem fours3 {v : Value} {a b c : Nat} (h0 : a < 4294967296) (h1 : b < 4294967296) (h2 : c < 4294967296) (hs : Sl H v 1 [n32 a, n32 b, n32 c]) (h : ∀ H', Ext H H' → R (str (foursL [a, b, c])) H') : CallsH Try.prog 24 #[v] H R :=
  fours_spec (l := [a, b, c]) (by simp) (by simp; omega) hs h
theorem fours2 {v : Value} {a b : Nat} (h0 : a < 4294967296) (h1 : b < 4294967296) (hs : Sl H v 1 [n32 a, n32 b]) (h : ∀ H', Ext H H' → R (str (foursL [a, b])) H') : CallsH Try.prog 24 #[v] H R :=
  fours_spec (l := [a, b]) (by simp) (by simp; omega) hs h
/-- its bytes, without the sum -/
def Dg.bytes (d : Dg) : List UInt8 := [76, 71] ++ putN d.kind.toNat 1 ++ putN d.last.toNat 1 ++ foursL [d.session, d.epoch, d.seq] ++ putN d.at_ 8 ++ foursL [d.sum, d.map] ++ putN d.text.length 2 ++ d.text
set_option maxHeartbeats 8000000 in
theorem bytes_spec {d : Dg} (hf : d.Fits) (hg : d.Good) (h : ∀ H', Ext H H' → R (str d.bytes) H') : CallsH Try.prog 18 #[.agg d.cells.toArray] H R := by
  have hk := hg.1
  have ht := hg.2.2.1
  obtain ⟨_, _, f1, f2, f3, f4, f5, f6, _⟩ := id hf
  refine dgram_Datagram_bytes.vc _ _ _ ?_
  unfold dgram_Datagram_bytes.res
  refine pBox_ext fun H1 s1 e1 b1 => ?_
  have hb : H1[H.size]? = some (.cells d.cells.toArray 32 (0, 0)) := b1
  refine ⟨fun v H' => v = .int .u64 ((d.last.toNat : Nat) : Int) ∧ H1 = H', ?_, ?_⟩
  · rintro _ _ _ ⟨rfl, rfl⟩
    obtain ⟨k, hkk⟩ : ∃ k : Nat, d.kind = k := ⟨d.kind.toNat, by omega⟩
    have hl : d.last.toNat ≤ 1 := by cases d.last <;> simp
    have hb0 : H1[H.size]? = some (.cells [.int .i64 (k : Int), n32 d.session, n32 d.epoch, n32 d.seq, .int .u64 (d.at_ : Int), n32 d.sum, n32 d.map, .bool d.last, str d.text].toArray 32 (0, 0)) := by rw [hb]; unfold Dg.cells; rw [hkk]
    have hfin : ∀ H', Ext H1 H' → R (str ([76, 71] ++ putN k 1 ++ putN d.last.toNat 1 ++ foursL [d.session, d.epoch, d.seq] ++ putN d.at_ 8 ++ foursL [d.sum, d.map] ++ putN d.text.length 2 ++ d.text)) H' := by
      intro H' hx
      have := h H' (e1.trans hx)
      unfold Dg.bytes at this
      rw [hkk, Int.toNat_natCast] at this
      exact this
    clear h
    have wk : IntKind.u64.wrap (k : Int) = (k : Int) := wu64 (by omega) (by omega)
    have wt : IntKind.u64.wrap (d.text.length : Int) = (d.text.length : Int) := wu64 (by omega) (by omega)
    repeat (first | with_reducible refine pFieldAddr_to ?_ | ((with_reducible apply pLoad_l hb0); exact rfl) | ((with_reducible refine pConv_to ?_); first | rw [wk] | rw [wt]) | with_reducible refine pLenS_to ?_)
    have hx : Ext H1 H1 := Ext.refl _
    repeat' (first
      | exact pLoad_l (hx.blk hb0) rfl rfl
      | exact hfin _ hx
      | with_reducible refine pAdd_str (by simp only [List.length_append, List.length_cons, List.length_nil, putN_len, foursL_len]; omega) ?_
      | (with_reducible refine put_at (kn := 1) (by omega) (by omega) (by decide) (by decide) fun H' he => ?_
         have hx := hx.trans he
         try have hs3 := hs3.ext he
         try have hs2 := hs2.ext he)
      | (with_reducible refine put_at (kn := 2) (by omega) (by omega) (by decide) (by decide) fun H' he => ?_
         have hx := hx.trans he
         try have hs3 := hs3.ext he
         try have hs2 := hs2.ext he)
      | (with_reducible refine put_at (kn := 8) (by omega) (by omega) (by decide) (by decide) fun H' he => ?_
         have hx := hx.trans he
         try have hs3 := hs3.ext he
         try have hs2 := hs2.ext he)
      | (with_reducible refine build_vals (vs := [n32 d.session, n32 d.epoch, n32 d.seq]) (fun K' hK => by simpa only [pPick_v, pNil_v, pNil_f, pAdd_v, pSub_v, pMul_v, pAdd_s, pQuo_v, pRem_v, pBits_v, pShl_v, pShr_v, pLt_v, pLe_v, pGt_v, pGe_v, pEq_0, pNe_0, pEq_1, pNe_1, pEq_2, pNe_2, pEq_3n, pNe_3n, pEq_3s, pNe_3s, pEq_3t, pNe_3t, pEq_5n, pNe_5n, pEq_5s, pNe_5s, pEq_5t, pNe_5t, pEq_4n, pNe_4n, pEq_4s, pNe_4s, pNot_v, pNeg_v, pCom_v, pConv_v, pConvS_v, pMin_v, pMax_v, pFieldAddr_v, pField1_v, pFieldN_v, pExtract_v, pIdxArr_v, pIdxSl_v, pIdxStr_v, pBounds_00, pBounds_10, pBounds_01, pBounds_11, pSlStr_v, pSlSl_v, pSlArr_v, pLenS_v, pLen_v, pCap_v, pBuild_n, pBuild_c, cells_int, cells_str, cells_bool, cells_ptr, cells_slice, cells_map, cells_agg, oneCell_int, oneCell_str, oneCell_bool, oneCell_ptr, oneCell_slice, oneCell_map, putL_cons, putL_nil, pAnd_pure, pOr_pure, pAnd_pureE, pOr_pureE, pAnd_false, pOr_true, pCond_true, pCond_false, add_mk, bys_mk, bys_size, cond_true, cond_false, decide_true, decide_false, decide_not', dec_and, dec_or, dec_eqt, Bool.not_true, Bool.not_false, Option.isNone_none, Option.isNone_some, Option.map_some, Option.map_none, List.getElem?_toArray, List.getElem?_cons_zero, List.getElem?_cons_succ, List.size_toArray, List.length_cons, List.length_nil, List.length_replicate, List.set_cons_zero, List.set_cons_succ, Nat.reduceAdd, Nat.reduceMul, Nat.reduceSub, Nat.reduceLeDiff, Nat.zero_add, Nat.add_zero, Nat.zero_le, true_and, and_true, not_false_eq_true, ne_eq, Int.reduceNeg, Int.reduceEq, Int.reduceNe, Int.reduceLT, Int.reduceLE, le_refl', List.setIfInBounds_toArray, Nat.reduceLT, Array.size_setIfInBounds, if_true, if_false, reduceCtorEq, List.toArray_toList', List.drop_succ_cons, List.drop_zero, List.take_succ_cons, List.take_zero, List.nil_append, List.append_nil, List.cons_append, Bool.and_true, Bool.true_and, Bool.or_false, Bool.false_or, Bool.and_false, Bool.or_true, Bool.true_or, Bool.false_and, eq_self] using hK) rfl fun y H' he hs3 _ => ?_
         have hx := hx.trans he
         try have hs2 := hs2.ext he)
      | (with_reducible refine build_vals (vs := [n32 d.sum, n32 d.map]) (fun K' hK => by simpa only [pPick_v, pNil_v, pNil_f, pAdd_v, pSub_v, pMul_v, pAdd_s, pQuo_v, pRem_v, pBits_v, pShl_v, pShr_v, pLt_v, pLe_v, pGt_v, pGe_v, pEq_0, pNe_0, pEq_1, pNe_1, pEq_2, pNe_2, pEq_3n, pNe_3n, pEq_3s, pNe_3s, pEq_3t, pNe_3t, pEq_5n, pNe_5n, pEq_5s, pNe_5s, pEq_5t, pNe_5t, pEq_4n, pNe_4n, pEq_4s, pNe_4s, pNot_v, pNeg_v, pCom_v, pConv_v, pConvS_v, pMin_v, pMax_v, pFieldAddr_v, pField1_v, pFieldN_v, pExtract_v, pIdxArr_v, pIdxSl_v, pIdxStr_v, pBounds_00, pBounds_10, pBounds_01, pBounds_11, pSlStr_v, pSlSl_v, pSlArr_v, pLenS_v, pLen_v, pCap_v, pBuild_n, pBuild_c, cells_int, cells_str, cells_bool, cells_ptr, cells_slice, cells_map, cells_agg, oneCell_int, oneCell_str, oneCell_bool, oneCell_ptr, oneCell_slice, oneCell_map, putL_cons, putL_nil, pAnd_pure, pOr_pure, pAnd_pureE, pOr_pureE, pAnd_false, pOr_true, pCond_true, pCond_false, add_mk, bys_mk, bys_size, cond_true, cond_false, decide_true, decide_false, decide_not', dec_and, dec_or, dec_eqt, Bool.not_true, Bool.not_false, Option.isNone_none, Option.isNone_some, Option.map_some, Option.map_none, List.getElem?_toArray, List.getElem?_cons_zero, List.getElem?_cons_succ, List.size_toArray, List.length_cons, List.length_nil, List.length_replicate, List.set_cons_zero, List.set_cons_succ, Nat.reduceAdd, Nat.reduceMul, Nat.reduceSub, Nat.reduceLeDiff, Nat.zero_add, Nat.add_zero, Nat.zero_le, true_and, and_true, not_false_eq_true, ne_eq, Int.reduceNeg, Int.reduceEq, Int.reduceNe, Int.reduceLT, Int.reduceLE, le_refl', List.setIfInBounds_toArray, Nat.reduceLT, Array.size_setIfInBounds, if_true, if_false, reduceCtorEq, List.toArray_toList', List.drop_succ_cons, List.drop_zero, List.take_succ_cons, List.take_zero, List.nil_append, List.append_nil, List.cons_append, Bool.and_true, Bool.true_and, Bool.or_false, Bool.false_or, Bool.and_false, Bool.or_true, Bool.true_or, Bool.false_and, eq_self] using hK) rfl fun y H' he hs2 _ => ?_
         have hx := hx.trans he
         try have hs3 := hs3.ext he)
      | (with_reducible refine fours3 f1 f2 f3 hs3 fun H' he => ?_
         have hx := hx.trans he
         try have hs2 := hs2.ext he)
      | (with_reducible refine fours2 f5 f6 hs2 fun H' he => ?_
         have hx := hx.trans he
         try have hs3 := hs3.ext he)
      | with_reducible refine And.intro ?_ ?_)
  · simp only [pPick_v, pNil_v, pNil_f, pAdd_v, pSub_v, pMul_v, pAdd_s, pQuo_v, pRem_v, pBits_v, pShl_v, pShr_v, pLt_v, pLe_v, pGt_v, pGe_v, pEq_0, pNe_0, pEq_1, pNe_1, pEq_2, pNe_2, pEq_3n, pNe_3n, pEq_3s, pNe_3s, pEq_3t, pNe_3t, pEq_5n, pNe_5n, pEq_5s, pNe_5s, pEq_5t, pNe_5t, pEq_4n, pNe_4n, pEq_4s, pNe_4s, pNot_v, pNeg_v, pCom_v, pConv_v, pConvS_v, pMin_v, pMax_v, pFieldAddr_v, pField1_v, pFieldN_v, pExtract_v, pIdxArr_v, pIdxSl_v, pIdxStr_v, pBounds_00, pBounds_10, pBounds_01, pBounds_11, pSlStr_v, pSlSl_v, pSlArr_v, pLenS_v, pLen_v, pCap_v, pBuild_n, pBuild_c, cells_int, cells_str, cells_bool, cells_ptr, cells_slice, cells_map, cells_agg, oneCell_int, oneCell_str, oneCell_bool, oneCell_ptr, oneCell_slice, oneCell_map, putL_cons, putL_nil, pAnd_pure, pOr_pure, pAnd_pureE, pOr_pureE, pAnd_false, pOr_true, pCond_true, pCond_false, add_mk, bys_mk, bys_size, cond_true, cond_false, decide_true, decide_false, decide_not', dec_and, dec_or, dec_eqt, Bool.not_true, Bool.not_false, Option.isNone_none, Option.isNone_some, Option.map_some, Option.map_none, List.getElem?_toArray, List.getElem?_cons_zero, List.getElem?_cons_succ, List.size_toArray, List.length_cons, List.length_nil, List.length_replicate, List.set_cons_zero, List.set_cons_succ, Nat.reduceAdd, Nat.reduceMul, Nat.reduceSub, Nat.reduceLeDiff, Nat.zero_add, Nat.add_zero, Nat.zero_le, true_and, and_true, not_false_eq_true, ne_eq, Int.reduceNeg, Int.reduceEq, Int.reduceNe, Int.reduceLT, Int.reduceLE, le_refl', List.setIfInBounds_toArray, Nat.reduceLT, Array.size_setIfInBounds, if_true, if_false, reduceCtorEq, List.toArray_toList', List.drop_succ_cons, List.drop_zero, List.take_succ_cons, List.take_zero, List.nil_append, List.append_nil, List.cons_append, Bool.and_true, Bool.true_and, Bool.or_false, Bool.false_or, Bool.and_false, Bool.or_true, Bool.true_or, Bool.false_and, eq_self, pLoad_at hb, Dg.cells]
    cases d.last with
    | true => simp only [pCond_true]; trivial
    | false => simp only [pCond_false]; trivial
end Go.Proofs.Ytacfmbookcgjoaa
