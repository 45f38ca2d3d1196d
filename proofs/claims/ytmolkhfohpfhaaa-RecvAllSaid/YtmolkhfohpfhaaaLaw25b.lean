/- The law RecvAll over heaps. -/
import Derived.Test.YtmolkhfohpfhaaaLaw25
import Derived.Test.YtmolkhfohpfhaaaLaw24c
namespace Go.Proofs.Ytmolkhfohpfhaaa
open Go Go.Vc Go.Proofs
set_option linter.unusedVariables false
set_option linter.unusedSimpArgs false
variable {H : Heap} {R : Value → Heap → Prop}
/-- both windows -/
structure Both (H0 H : Heap) (a ra b rb : Nat) (first count size base next got : Int) (A : Int → Bool) (S : Slots) : Prop where
  snd : Snd H a ra first count size base next A
  rcv : Rcv H b rb ((first + got) % 4294967296) size S
  ext : Ext H0 H
  ha : H0.size ≤ a
  hra : H0.size ≤ ra
  hb : H0.size ≤ b
  hrb : H0.size ≤ rb
  ab : a ≠ b
  arb : a ≠ rb
  rab : ra ≠ b
  rarb : ra ≠ rb
  wide : next ≤ base + size
  told : ∀ k, A k = true → base < k ∧ k < next
  g0 : base ≤ got
  g1 : got ≤ next
  /-- what waits is what was sent -/
  txt : ∀ (j : Nat) (t : List UInt8), S[j]? = some (some t) → t = [b8 (got + j)] ∧ got + (j : Int) < next
  /-- what is told as there is there -/
  here : ∀ k, A k = true → k < got ∨ ∃ t, S[(k - got).toNat]? = some (some t)
theorem Only.snd {a ra b rb : Nat} {H H' : Heap} {first count size base next : Int} {A : Int → Bool} (h : Only b rb H H') (w : Snd H a ra first count size base next A) (h1 : a ≠ b) (h2 : a ≠ rb) (h3 : ra ≠ b) (h4 : ra ≠ rb) : Snd H' a ra first count size base next A :=
  { w with blk := (h.same a (lt_of_blk w.blk) h1 h2).trans w.blk, map := w.map.keep (h.same ra w.map.lt h3 h4) }
theorem Only.rcv {a ra b rb : Nat} {H H' : Heap} {next size : Int} {S : Slots} (h : Only a ra H H') (w : Rcv H b rb next size S) (h1 : b ≠ a) (h2 : b ≠ ra) (h3 : rb ≠ a) (h4 : rb ≠ ra) : Rcv H' b rb next size S :=
  { w with blk := (h.same b (lt_of_blk w.blk) h1 h2).trans w.blk, map := w.map.keep (h.same rb w.map.lt h3 h4) }
theorem Both.more {H0 H H' : Heap} {a ra b rb : Nat} {first count size base next got : Int} {A : Int → Bool} {S : Slots} (h : Both H0 H a ra b rb first count size base next got A S) (hx : Ext H H') : Both H0 H' a ra b rb first count size base next got A S :=
  { h with snd := h.snd.ext hx, rcv := h.rcv.ext hx, ext := h.ext.trans hx }
theorem place_numb {first got j : Int} (h0 : got ≤ j) (h1 : j ≤ got + 1000) : place ((first + got) % 4294967296) (numb first j) = (j - got).toNat := by
  rw [numb_eq (j := 0)]; unfold place; omega
theorem place_old {first got j : Int} (h0 : j < got) (h1 : got ≤ j + 1000) : 4294960000 ≤ place ((first + got) % 4294967296) (numb first j) := by
  rw [numb_eq (j := 0)]; unfold place; omega
/-- what the reading of texts in order is at: the last text, or that there is none -/
def Inner (H0 : Heap) (a ra b rb : Nat) (first count size base next : Int) (A : Int → Bool) (i : Nat) (got : Int) (s ok : Value) (H : Heap) : Prop :=
  ∃ S : Slots, (ok = .bool false ∧ S[0]? = some none ∧ Both H0 H a ra b rb first count size base next got A S ∧ (150 ≤ i → base < got)) ∨
    (ok = .bool true ∧ s = str [b8 got] ∧ got < next ∧ Both H0 H a ra b rb first count size base next (got + 1) A S)
theorem next_inner {H0 : Heap} {a ra b rb i : Nat} {first count size base next got : Int} {A : Int → Bool} {S : Slots} (B : Both H0 H a ra b rb first count size base next got A S) (hp : base < got ∨ (150 ≤ i → ∃ t, S[0]? = some (some t)))
    (h : ∀ s ok H', Inner H0 a ra b rb first count size base next A i got s ok H' → R (.tuple #[s, ok]) H') : CallsH Try.prog 14 #[sptr b] H R := by
  refine rNext_spec B.rcv (fun h0 => h _ _ _ ⟨S, .inl ⟨rfl, h0, B, fun h150 => ?_⟩⟩) fun t S' H'' hSS rn on => ?_
  · rcases hp with h' | h'
    · exact h'
    · obtain ⟨t, ht⟩ := h' h150
      rw [h0] at ht; simp at ht
  have ht := B.txt 0 t (by rw [hSS]; rfl)
  have ht1 := ht.1
  have ht2 := ht.2
  rw [show got + ((0 : Nat) : Int) = got by omega] at ht1 ht2
  subst ht1
  have hg0 := B.g0
  refine h _ _ _ ⟨S' ++ [none], .inr ⟨rfl, rfl, ht2, { B with rcv := ?_, snd := on.snd B.snd B.ab B.arb B.rab B.rarb, ext := on.ext B.ext B.hb B.hrb, g0 := by omega, g1 := by omega, txt := fun m u hm => ?_, here := fun m hm => ?_ }⟩⟩
  · rw [wu32_mod, show ((first + got) % 4294967296 + 1) % 4294967296 = (first + (got + 1)) % 4294967296 by omega] at rn
    exact rn
  · by_cases hml : m < S'.length
    · rw [List.getElem?_append_left hml] at hm
      have := B.txt (m + 1) u (by rw [hSS]; exact hm)
      rw [show got + ((m + 1 : Nat) : Int) = got + 1 + (m : Int) by omega] at this
      exact this
    · rw [List.getElem?_append_right (by omega)] at hm
      by_cases hm0 : m - S'.length = 0
      · rw [hm0] at hm; simp at hm
      · rw [List.getElem?_eq_none (by simp; omega)] at hm; cases hm
  · rcases B.here m hm with h' | ⟨u, hu⟩
    · left; omega
    · rw [hSS] at hu
      by_cases hmg : m ≤ got
      · left; omega
      · right
        rw [show (m - got).toNat = (m - (got + 1)).toNat + 1 by omega, List.getElem?_cons_succ] at hu
        exact ⟨u, by rw [List.getElem?_append_left (List.getElem?_eq_some_iff.1 hu).1]; exact hu⟩
theorem bitAt_nat {n k : Nat} : bitAt (n : Int) k = n.testBit k := by
  rw [Nat.testBit_eq_decide_div_mod_eq]
  unfold bitAt
  have e : ((n : Int) / 2 ^ k % 2) = ((n / 2 ^ k % 2 : Nat) : Int) := by
    rw [Int.natCast_emod, Int.natCast_ediv, Int.natCast_pow]; rfl
  rw [e, Bool.eq_iff_iff, decide_eq_true_eq, decide_eq_true_eq]
  omega
/-- a text is taken, or it is not new -/
theorem take_both {H0 : Heap} {a ra b rb i k : Nat} {first count size base next got j : Int} {A : Int → Bool} {S : Slots} (hf0 : 0 ≤ first) (hf1 : first ≤ 4294967295) (B : Both H0 H a ra b rb first count size base next got A S) (hS0 : S[0]? = some none)
    (hj0 : base ≤ j) (hj1 : j < next) (hbig : next ≤ 1000) (hb0 : 0 ≤ base) (hk0 : 150 ≤ i → j = base) (h : ∀ v S' H', Both H0 H' a ra b rb first count size base next got A S' → (base < got ∨ (150 ≤ i → ∃ t, S'[0]? = some (some t))) → R v H') :
    CallsH Try.prog 17 #[sptr b, .int .u32 (numb first j), str [b8 j]] H R := by
  have hg0 := B.g0
  have hg1 := B.g1
  have hn32 := wu32_range (first + IntKind.u32.wrap j)
  refine rTake_spec hn32.1 hn32.2 (by simp) B.rcv (fun hno => ?_) (fun hl hn H9 rn9 on9 => ?_)
  · refine h _ S H B ?_
    rcases Int.lt_or_eq_of_le hg0 with h' | h'
    · exact .inl h'
    · right
      intro h150
      have hk := hk0 h150
      subst hk
      exfalso
      refine hno ⟨by simp, ?_⟩
      rw [place_numb (by omega) (by omega), h', Int.sub_self]
      exact hS0
  · have hjg : got ≤ j := by
      rcases Int.lt_or_le j got with h' | h'
      · have h1 := place_old (first := first) h' (by omega)
        have h2 := (List.getElem?_eq_some_iff.1 hn).1
        have := B.rcv.len
        have := B.rcv.s1
        omega
      · exact h'
    have hpl := place_numb (first := first) hjg (by omega)
    rw [hpl] at hn rn9
    have hnl := (List.getElem?_eq_some_iff.1 hn).1
    refine h _ _ H9 { B with rcv := rn9, snd := on9.snd B.snd B.ab B.arb B.rab B.rarb, ext := on9.ext B.ext B.hb B.hrb, txt := fun m t hm => ?_, here := fun m hm => ?_ } ?_
    · by_cases hmj : m = (j - got).toNat
      · subst hmj
        rw [List.getElem?_set_self hnl, Option.some.injEq, Option.some.injEq] at hm
        rw [← hm, show got + (((j - got).toNat : Nat) : Int) = j by omega]
        exact ⟨rfl, by omega⟩
      · rw [List.getElem?_set_ne (fun e => hmj e.symm)] at hm
        exact B.txt m t hm
    · rcases B.here m hm with h' | ⟨t, ht⟩
      · exact .inl h'
      · right
        by_cases hmj : (m - got).toNat = (j - got).toNat
        · rw [hmj, List.getElem?_set_self hnl]; exact ⟨_, rfl⟩
        · rw [List.getElem?_set_ne (fun e => hmj e.symm)]; exact ⟨t, ht⟩
    · rcases Int.lt_or_eq_of_le hg0 with h' | h'
      · exact .inl h'
      · right
        intro h150
        have hk := hk0 h150
        subst hk
        have e0 : (j - got).toNat = 0 := by omega
        rw [e0] at hnl ⊢
        rw [List.getElem?_set_self hnl]
        exact ⟨_, rfl⟩
set_option maxHeartbeats 4000000 in
theorem RecvAll_law (first : Int) (l : List Value) (a : Option Addr) (len cap : Nat) (zs : List Int) (w0 : (Lit.int .u32 first).wf = true) (n1 : l.length = 2) (w1 : FitAll (List.replicate 2 (.int .i64)) fun j => l[j]?) (w2 : IntRow .i64 H a len cap zs) :
    CallsH Try.prog 10 #[.int .u32 first, .agg l.toArray, .slice a len cap] H (LawOk H) := by
  have hf := wfu32 w0
  have hmax : maxLen = 9223372036854775807 := rfl
  have hlen := w2.len_max
  obtain ⟨p, q, rfl⟩ := fit2 n1 w1
  refine lighterlaw25_RecvAll.vc _ _ _ _ _ ?_
  unfold lighterlaw25_RecvAll.res
  refine pBox_ext fun H1 s1 e1 b1 => ?_
  refine speaks25_spec fun H2 x2 => ?_
  have b2 := x2.blk b1
  simp only [pPick_v, pNil_v, pNil_f, pAdd_v, pSub_v, pMul_v, pAdd_s, pQuo_v, pRem_v, pBits_v, pShl_v, pShr_v, pLt_v, pLe_v, pGt_v, pGe_v, pEq_0, pNe_0, pEq_1, pNe_1, pEq_2, pNe_2, pEq_3n, pNe_3n, pEq_3s, pNe_3s, pEq_3t, pNe_3t, pEq_5n, pNe_5n, pEq_5s, pNe_5s, pEq_5t, pNe_5t, pEq_4n, pNe_4n, pEq_4s, pNe_4s, pNot_v, pNeg_v, pCom_v, pConv_v, pConvS_v, pMin_v, pMax_v, pFieldAddr_v, pField1_v, pFieldN_v, pExtract_v, pIdxArr_v, pIdxSl_v, pIdxStr_v, pBounds_00, pBounds_10, pBounds_01, pBounds_11, pSlStr_v, pSlSl_v, pSlArr_v, pLenS_v, pLen_v, pCap_v, pBuild_n, pBuild_c, cells_int, cells_str, cells_bool, cells_ptr, cells_slice, cells_map, cells_agg, oneCell_int, oneCell_str, oneCell_bool, oneCell_ptr, oneCell_slice, oneCell_map, putL_cons, putL_nil, pAnd_pure, pOr_pure, pAnd_pureE, pOr_pureE, pAnd_false, pOr_true, pCond_true, pCond_false, add_mk, bys_mk, bys_size, cond_true, cond_false, decide_true, decide_false, decide_not', dec_and, dec_or, dec_eqt, Bool.not_true, Bool.not_false, Option.isNone_none, Option.isNone_some, Option.map_some, Option.map_none, List.getElem?_toArray, List.getElem?_cons_zero, List.getElem?_cons_succ, List.size_toArray, List.length_cons, List.length_nil, List.length_replicate, List.set_cons_zero, List.set_cons_succ, Nat.reduceAdd, Nat.reduceMul, Nat.reduceSub, Nat.reduceLeDiff, Nat.zero_add, Nat.add_zero, Nat.zero_le, true_and, and_true, not_false_eq_true, ne_eq, Int.reduceNeg, Int.reduceEq, Int.reduceNe, Int.reduceLT, Int.reduceLE, le_refl', List.setIfInBounds_toArray, Nat.reduceLT, Array.size_setIfInBounds, if_true, if_false, reduceCtorEq, List.toArray_toList', List.drop_succ_cons, List.drop_zero, List.take_succ_cons, List.take_zero, List.nil_append, List.append_nil, List.cons_append, Bool.and_true, Bool.true_and, Bool.or_false, Bool.false_or, Bool.and_false, Bool.or_true, Bool.true_or, Bool.false_and, eq_self, pLoad_at b2, Int.reduceToNat, Int.cast_ofNat_Int]
  rw [and_low (k := 5) (m := 31) (n := p) (by decide) rfl, and_low (k := 5) (m := 31) (n := q) (by decide) rfl]
  have hp0 := Int.emod_nonneg p (show (2 : Int) ^ 5 ≠ 0 by decide)
  have hp1 := Int.emod_lt_of_pos p (show (0 : Int) < 2 ^ 5 by decide)
  have hq0 := Int.emod_nonneg q (show (2 : Int) ^ 5 ≠ 0 by decide)
  have hq1 := Int.emod_lt_of_pos q (show (0 : Int) < 2 ^ 5 by decide)
  generalize p % 2 ^ 5 = count at *
  rw [w64 (n := 1 + q % 2 ^ 5) (by omega) (by omega)]
  generalize hsz : 1 + q % 2 ^ 5 = size at *
  have hs0 : 1 ≤ size := by omega
  have hs1 : size ≤ 32 := by omega
  refine sNew_spec hf.1 hf.2 ⟨by omega, by omega, by omega, by omega⟩ fun H3 sa ra wn3 e3 hsa hra => ?_
  simp only [pPick_v, pNil_v, pNil_f, pAdd_v, pSub_v, pMul_v, pAdd_s, pQuo_v, pRem_v, pBits_v, pShl_v, pShr_v, pLt_v, pLe_v, pGt_v, pGe_v, pEq_0, pNe_0, pEq_1, pNe_1, pEq_2, pNe_2, pEq_3n, pNe_3n, pEq_3s, pNe_3s, pEq_3t, pNe_3t, pEq_5n, pNe_5n, pEq_5s, pNe_5s, pEq_5t, pNe_5t, pEq_4n, pNe_4n, pEq_4s, pNe_4s, pNot_v, pNeg_v, pCom_v, pConv_v, pConvS_v, pMin_v, pMax_v, pFieldAddr_v, pField1_v, pFieldN_v, pExtract_v, pIdxArr_v, pIdxSl_v, pIdxStr_v, pBounds_00, pBounds_10, pBounds_01, pBounds_11, pSlStr_v, pSlSl_v, pSlArr_v, pLenS_v, pLen_v, pCap_v, pBuild_n, pBuild_c, cells_int, cells_str, cells_bool, cells_ptr, cells_slice, cells_map, cells_agg, oneCell_int, oneCell_str, oneCell_bool, oneCell_ptr, oneCell_slice, oneCell_map, putL_cons, putL_nil, pAnd_pure, pOr_pure, pAnd_pureE, pOr_pureE, pAnd_false, pOr_true, pCond_true, pCond_false, add_mk, bys_mk, bys_size, cond_true, cond_false, decide_true, decide_false, decide_not', dec_and, dec_or, dec_eqt, Bool.not_true, Bool.not_false, Option.isNone_none, Option.isNone_some, Option.map_some, Option.map_none, List.getElem?_toArray, List.getElem?_cons_zero, List.getElem?_cons_succ, List.size_toArray, List.length_cons, List.length_nil, List.length_replicate, List.set_cons_zero, List.set_cons_succ, Nat.reduceAdd, Nat.reduceMul, Nat.reduceSub, Nat.reduceLeDiff, Nat.zero_add, Nat.add_zero, Nat.zero_le, true_and, and_true, not_false_eq_true, ne_eq, Int.reduceNeg, Int.reduceEq, Int.reduceNe, Int.reduceLT, Int.reduceLE, le_refl', List.setIfInBounds_toArray, Nat.reduceLT, Array.size_setIfInBounds, if_true, if_false, reduceCtorEq, List.toArray_toList', List.drop_succ_cons, List.drop_zero, List.take_succ_cons, List.take_zero, List.nil_append, List.append_nil, List.cons_append, Bool.and_true, Bool.true_and, Bool.or_false, Bool.false_or, Bool.and_false, Bool.or_true, Bool.true_or, Bool.false_and, eq_self]
  refine rNew_spec hf.1 hf.2 ⟨hs0, hs1⟩ fun H4 rb rr rn4 e4 hrb hrr => ?_
  simp only [pPick_v, pNil_v, pNil_f, pAdd_v, pSub_v, pMul_v, pAdd_s, pQuo_v, pRem_v, pBits_v, pShl_v, pShr_v, pLt_v, pLe_v, pGt_v, pGe_v, pEq_0, pNe_0, pEq_1, pNe_1, pEq_2, pNe_2, pEq_3n, pNe_3n, pEq_3s, pNe_3s, pEq_3t, pNe_3t, pEq_5n, pNe_5n, pEq_5s, pNe_5s, pEq_5t, pNe_5t, pEq_4n, pNe_4n, pEq_4s, pNe_4s, pNot_v, pNeg_v, pCom_v, pConv_v, pConvS_v, pMin_v, pMax_v, pFieldAddr_v, pField1_v, pFieldN_v, pExtract_v, pIdxArr_v, pIdxSl_v, pIdxStr_v, pBounds_00, pBounds_10, pBounds_01, pBounds_11, pSlStr_v, pSlSl_v, pSlArr_v, pLenS_v, pLen_v, pCap_v, pBuild_n, pBuild_c, cells_int, cells_str, cells_bool, cells_ptr, cells_slice, cells_map, cells_agg, oneCell_int, oneCell_str, oneCell_bool, oneCell_ptr, oneCell_slice, oneCell_map, putL_cons, putL_nil, pAnd_pure, pOr_pure, pAnd_pureE, pOr_pureE, pAnd_false, pOr_true, pCond_true, pCond_false, add_mk, bys_mk, bys_size, cond_true, cond_false, decide_true, decide_false, decide_not', dec_and, dec_or, dec_eqt, Bool.not_true, Bool.not_false, Option.isNone_none, Option.isNone_some, Option.map_some, Option.map_none, List.getElem?_toArray, List.getElem?_cons_zero, List.getElem?_cons_succ, List.size_toArray, List.length_cons, List.length_nil, List.length_replicate, List.set_cons_zero, List.set_cons_succ, Nat.reduceAdd, Nat.reduceMul, Nat.reduceSub, Nat.reduceLeDiff, Nat.zero_add, Nat.add_zero, Nat.zero_le, true_and, and_true, not_false_eq_true, ne_eq, Int.reduceNeg, Int.reduceEq, Int.reduceNe, Int.reduceLT, Int.reduceLE, le_refl', List.setIfInBounds_toArray, Nat.reduceLT, Array.size_setIfInBounds, if_true, if_false, reduceCtorEq, List.toArray_toList', List.drop_succ_cons, List.drop_zero, List.take_succ_cons, List.take_zero, List.nil_append, List.append_nil, List.cons_append, Bool.and_true, Bool.true_and, Bool.or_false, Bool.false_or, Bool.and_false, Bool.or_true, Bool.true_or, Bool.false_and, eq_self]
  have hsal := lt_of_blk wn3.blk
  have hral := wn3.map.lt
  have hH2 : H.size ≤ H2.size := (e1.trans x2).size
  refine ⟨fun g u H' => ∃ (i : Nat) (base next got : Int) (A : Int → Bool) (S : Slots), g = .int .i64 got ∧ u = .int .i64 i ∧ i ≤ 400 ∧ Both H H' sa ra rb rr first count size base next got A S ∧ S[0]? = some none ∧ (i : Int) ≤ 150 + base,
    fun _ u _ => match u with | .int _ i => (400 - i).toNat | _ => 0, ⟨0, 0, 0, 0, fun _ => false, List.replicate size.toNat none, rfl, rfl, by omega, ?_, ?_, by omega⟩, ?_⟩
  · refine ⟨wn3.ext e4, ?_, ((e1.trans x2).trans e3).trans e4, by omega, by omega, by have := e3.size; omega, by have := e3.size; omega, by omega, by omega, by omega, by omega, by omega, fun k hk => (by cases hk), by omega, by omega, ?_, fun k hk => (by cases hk)⟩
    · rw [show (first + 0) % 4294967296 = first by omega]; exact rn4
    · intro j t hj
      rw [List.getElem?_replicate] at hj
      split at hj <;> simp at hj
  · rw [List.getElem?_replicate, if_pos (by omega)]
  rintro _ _ _ H5 ⟨i, base, next, got, A, S, rfl, rfl, hi, B5, hS0, hib⟩
  obtain ⟨_, _, _, f0, f1, c0, c1, s0, s1', bs0, bs1, nx1⟩ := id B5.snd
  simp only [pPick_v, pNil_v, pNil_f, pAdd_v, pSub_v, pMul_v, pAdd_s, pQuo_v, pRem_v, pBits_v, pShl_v, pShr_v, pLt_v, pLe_v, pGt_v, pGe_v, pEq_0, pNe_0, pEq_1, pNe_1, pEq_2, pNe_2, pEq_3n, pNe_3n, pEq_3s, pNe_3s, pEq_3t, pNe_3t, pEq_5n, pNe_5n, pEq_5s, pNe_5s, pEq_5t, pNe_5t, pEq_4n, pNe_4n, pEq_4s, pNe_4s, pNot_v, pNeg_v, pCom_v, pConv_v, pConvS_v, pMin_v, pMax_v, pFieldAddr_v, pField1_v, pFieldN_v, pExtract_v, pIdxArr_v, pIdxSl_v, pIdxStr_v, pBounds_00, pBounds_10, pBounds_01, pBounds_11, pSlStr_v, pSlSl_v, pSlArr_v, pLenS_v, pLen_v, pCap_v, pBuild_n, pBuild_c, cells_int, cells_str, cells_bool, cells_ptr, cells_slice, cells_map, cells_agg, oneCell_int, oneCell_str, oneCell_bool, oneCell_ptr, oneCell_slice, oneCell_map, putL_cons, putL_nil, pAnd_pure, pOr_pure, pAnd_pureE, pOr_pureE, pAnd_false, pOr_true, pCond_true, pCond_false, add_mk, bys_mk, bys_size, cond_true, cond_false, decide_true, decide_false, decide_not', dec_and, dec_or, dec_eqt, Bool.not_true, Bool.not_false, Option.isNone_none, Option.isNone_some, Option.map_some, Option.map_none, List.getElem?_toArray, List.getElem?_cons_zero, List.getElem?_cons_succ, List.size_toArray, List.length_cons, List.length_nil, List.length_replicate, List.set_cons_zero, List.set_cons_succ, Nat.reduceAdd, Nat.reduceMul, Nat.reduceSub, Nat.reduceLeDiff, Nat.zero_add, Nat.add_zero, Nat.zero_le, true_and, and_true, not_false_eq_true, ne_eq, Int.reduceNeg, Int.reduceEq, Int.reduceNe, Int.reduceLT, Int.reduceLE, le_refl', List.setIfInBounds_toArray, Nat.reduceLT, Array.size_setIfInBounds, if_true, if_false, reduceCtorEq, List.toArray_toList', List.drop_succ_cons, List.drop_zero, List.take_succ_cons, List.take_zero, List.nil_append, List.append_nil, List.cons_append, Bool.and_true, Bool.true_and, Bool.or_false, Bool.false_or, Bool.and_false, Bool.or_true, Bool.true_or, Bool.false_and, eq_self]
  refine pAnd_if (d := decide (¬ base = count)) (fun _ => ?_) ?_
  · refine sDone_spec B5.snd ?_
    simp only [pPick_v, pNil_v, pNil_f, pAdd_v, pSub_v, pMul_v, pAdd_s, pQuo_v, pRem_v, pBits_v, pShl_v, pShr_v, pLt_v, pLe_v, pGt_v, pGe_v, pEq_0, pNe_0, pEq_1, pNe_1, pEq_2, pNe_2, pEq_3n, pNe_3n, pEq_3s, pNe_3s, pEq_3t, pNe_3t, pEq_5n, pNe_5n, pEq_5s, pNe_5s, pEq_5t, pNe_5t, pEq_4n, pNe_4n, pEq_4s, pNe_4s, pNot_v, pNeg_v, pCom_v, pConv_v, pConvS_v, pMin_v, pMax_v, pFieldAddr_v, pField1_v, pFieldN_v, pExtract_v, pIdxArr_v, pIdxSl_v, pIdxStr_v, pBounds_00, pBounds_10, pBounds_01, pBounds_11, pSlStr_v, pSlSl_v, pSlArr_v, pLenS_v, pLen_v, pCap_v, pBuild_n, pBuild_c, cells_int, cells_str, cells_bool, cells_ptr, cells_slice, cells_map, cells_agg, oneCell_int, oneCell_str, oneCell_bool, oneCell_ptr, oneCell_slice, oneCell_map, putL_cons, putL_nil, pAnd_pure, pOr_pure, pAnd_pureE, pOr_pureE, pAnd_false, pOr_true, pCond_true, pCond_false, add_mk, bys_mk, bys_size, cond_true, cond_false, decide_true, decide_false, decide_not', dec_and, dec_or, dec_eqt, Bool.not_true, Bool.not_false, Option.isNone_none, Option.isNone_some, Option.map_some, Option.map_none, List.getElem?_toArray, List.getElem?_cons_zero, List.getElem?_cons_succ, List.size_toArray, List.length_cons, List.length_nil, List.length_replicate, List.set_cons_zero, List.set_cons_succ, Nat.reduceAdd, Nat.reduceMul, Nat.reduceSub, Nat.reduceLeDiff, Nat.zero_add, Nat.add_zero, Nat.zero_le, true_and, and_true, not_false_eq_true, ne_eq, Int.reduceNeg, Int.reduceEq, Int.reduceNe, Int.reduceLT, Int.reduceLE, le_refl', List.setIfInBounds_toArray, Nat.reduceLT, Array.size_setIfInBounds, if_true, if_false, reduceCtorEq, List.toArray_toList', List.drop_succ_cons, List.drop_zero, List.take_succ_cons, List.take_zero, List.nil_append, List.append_nil, List.cons_append, Bool.and_true, Bool.true_and, Bool.or_false, Bool.false_or, Bool.and_false, Bool.or_true, Bool.true_or, Bool.false_and, eq_self]
  have hg0 := B5.g0
  have hg1 := B5.g1
  refine fun _ => pCond_b (fun hc => ?_) (fun hc => ?_)
  · simp only [Bool.and_eq_true, decide_eq_true_eq] at hc
    obtain ⟨hc1, hc2⟩ := hc
    have hbc : base < count := by omega
    refine ⟨fun g H' => ∃ (base' next' got' : Int) (A' : Int → Bool) (S' : Slots), g = .int .i64 got' ∧ Both H H' sa ra rb rr first count size base' next' got' A' S' ∧ S'[0]? = some none ∧ ((i + 1 : Nat) : Int) ≤ 150 + base', ?_, ?_⟩
    · rintro _ _ H6 ⟨base', next', got', A', S', rfl, B6, h60, h6i⟩
      rw [w64 (by omega) (by omega)]
      exact ⟨⟨i + 1, base', next', got', A', S', rfl, rfl, by omega, B6, h60, h6i⟩, by show (_ : Int).toNat < (_ : Int).toNat; omega⟩
    refine sFresh_spec B5.snd fun H6 vf wn6 on6 o6 k6 => ?_
    generalize hnx : max next (min (base + size) count) = next' at *
    have hnx1 : next ≤ next' := by omega
    have hnx2 : base < next' := by omega
    have hnx3 : next' ≤ base + size := by have := B5.wide; omega
    have hnx4 : next' ≤ count := by omega
    have B6 : Both H H6 sa ra rb rr first count size base next' got A S :=
      { B5 with snd := wn6, rcv := on6.rcv B5.rcv (Ne.symm B5.ab) (Ne.symm B5.rab) (Ne.symm B5.arb) (Ne.symm B5.rarb), ext := on6.ext B5.ext B5.ha B5.hra, wide := hnx3, told := fun k hk => (by have := B5.told k hk; omega), g1 := by omega, txt := fun j t hj => (by have := B5.txt j t hj; exact ⟨this.1, by omega⟩) }
    refine sOpen_spec wn6 fun H7 vo e7 o7 k7 => ?_
    have B7 := B6.more e7
    have hAb : A base = false := by
      cases hA : A base with
      | false => rfl
      | true => have := B5.told base hA; omega
    have hop := openP_left (A := A) hnx2
    rw [hAb] at hop
    simp only [cond_false, List.singleton_append] at hop
    have hol2 : (numsL first (openP A base next')).length = (openP A base next').length := by simp [numsL]
    have hop1 : 1 ≤ (openP A base next').length := by rw [hop]; simp
    have hop2 := openP_len A base next'
    have hop0 : (openP A base next')[0]? = some base := by rw [hop]; rfl
    refine (o7.sl (by decide)).len (n := (openP A base next').length) (by rw [hol2]; omega) (by decide) ?_
    simp only [pPick_v, pNil_v, pNil_f, pAdd_v, pSub_v, pMul_v, pAdd_s, pQuo_v, pRem_v, pBits_v, pShl_v, pShr_v, pLt_v, pLe_v, pGt_v, pGe_v, pEq_0, pNe_0, pEq_1, pNe_1, pEq_2, pNe_2, pEq_3n, pNe_3n, pEq_3s, pNe_3s, pEq_3t, pNe_3t, pEq_5n, pNe_5n, pEq_5s, pNe_5s, pEq_5t, pNe_5t, pEq_4n, pNe_4n, pEq_4s, pNe_4s, pNot_v, pNeg_v, pCom_v, pConv_v, pConvS_v, pMin_v, pMax_v, pFieldAddr_v, pField1_v, pFieldN_v, pExtract_v, pIdxArr_v, pIdxSl_v, pIdxStr_v, pBounds_00, pBounds_10, pBounds_01, pBounds_11, pSlStr_v, pSlSl_v, pSlArr_v, pLenS_v, pLen_v, pCap_v, pBuild_n, pBuild_c, cells_int, cells_str, cells_bool, cells_ptr, cells_slice, cells_map, cells_agg, oneCell_int, oneCell_str, oneCell_bool, oneCell_ptr, oneCell_slice, oneCell_map, putL_cons, putL_nil, pAnd_pure, pOr_pure, pAnd_pureE, pOr_pureE, pAnd_false, pOr_true, pCond_true, pCond_false, add_mk, bys_mk, bys_size, cond_true, cond_false, decide_true, decide_false, decide_not', dec_and, dec_or, dec_eqt, Bool.not_true, Bool.not_false, Option.isNone_none, Option.isNone_some, Option.map_some, Option.map_none, List.getElem?_toArray, List.getElem?_cons_zero, List.getElem?_cons_succ, List.size_toArray, List.length_cons, List.length_nil, List.length_replicate, List.set_cons_zero, List.set_cons_succ, Nat.reduceAdd, Nat.reduceMul, Nat.reduceSub, Nat.reduceLeDiff, Nat.zero_add, Nat.add_zero, Nat.zero_le, true_and, and_true, not_false_eq_true, ne_eq, Int.reduceNeg, Int.reduceEq, Int.reduceNe, Int.reduceLT, Int.reduceLE, le_refl', List.setIfInBounds_toArray, Nat.reduceLT, Array.size_setIfInBounds, if_true, if_false, reduceCtorEq, List.toArray_toList', List.drop_succ_cons, List.drop_zero, List.take_succ_cons, List.take_zero, List.nil_append, List.append_nil, List.cons_append, Bool.and_true, Bool.true_and, Bool.or_false, Bool.false_or, Bool.and_false, Bool.or_true, Bool.true_or, Bool.false_and, eq_self]
    rw [decide_eq_false (by omega), pCond_false]
    refine ⟨fun v H' => ∃ k : Nat, v = .int .i64 k ∧ k < (openP A base next').length ∧ H7 = H' ∧ (150 ≤ i → k = 0), ?_, ?_⟩
    · rintro _ _ _ ⟨k, rfl, hk1, rfl, hk0⟩
      obtain ⟨j, hj⟩ : ∃ j, (openP A base next')[k]? = some j := ⟨_, List.getElem?_eq_getElem hk1⟩
      have hjm := mem_openP.1 (List.mem_of_getElem? hj)
      have hread : ∀ (H' : Heap) (K : Value → Prop), Ext H7 H' → K (.int .u32 (numb first j)) → pIdxSl 1 vo (.int .i64 k) fun x => pLoad H' x K := by
        intro H' K hx hK
        refine ((o7.ext hx).sl (by decide)).idx (n := (openP A base next').length) (by rw [hol2]; omega) (by decide) (by omega) (by omega) fun ad had => ?_
        refine had.load (v := .int .u32 (numb first j)) ?_ hK
        rw [Int.toNat_natCast, Nat.mul_one, List.getElem?_take, if_pos (by decide), List.getElem?_drop, Nat.add_zero]
        exact numsL_at hj
      -- one address for all reads
      refine (o7.sl (by decide)).idx (n := (openP A base next').length) (by rw [hol2]; omega) (by decide) (by omega) (by omega) fun ad had => ?_
      have hcell : ([Value.int .u32 (numb first j)] : List Value)[0]? = some (.int .u32 (numb first j)) := rfl
      have had0 : ((List.drop ((k : Int).toNat * 1) (numsL first (openP A base next'))).take 1)[0]? = some (.int .u32 (numb first j)) := by
        rw [Int.toNat_natCast, Nat.mul_one, List.getElem?_take, if_pos (by decide), List.getElem?_drop, Nat.add_zero]
        exact numsL_at hj
      refine had.load had0 ?_
      refine hread H7 _ (Ext.refl _) ?_
      simp only [pPick_v, pNil_v, pNil_f, pAdd_v, pSub_v, pMul_v, pAdd_s, pQuo_v, pRem_v, pBits_v, pShl_v, pShr_v, pLt_v, pLe_v, pGt_v, pGe_v, pEq_0, pNe_0, pEq_1, pNe_1, pEq_2, pNe_2, pEq_3n, pNe_3n, pEq_3s, pNe_3s, pEq_3t, pNe_3t, pEq_5n, pNe_5n, pEq_5s, pNe_5s, pEq_5t, pNe_5t, pEq_4n, pNe_4n, pEq_4s, pNe_4s, pNot_v, pNeg_v, pCom_v, pConv_v, pConvS_v, pMin_v, pMax_v, pFieldAddr_v, pField1_v, pFieldN_v, pExtract_v, pIdxArr_v, pIdxSl_v, pIdxStr_v, pBounds_00, pBounds_10, pBounds_01, pBounds_11, pSlStr_v, pSlSl_v, pSlArr_v, pLenS_v, pLen_v, pCap_v, pBuild_n, pBuild_c, cells_int, cells_str, cells_bool, cells_ptr, cells_slice, cells_map, cells_agg, oneCell_int, oneCell_str, oneCell_bool, oneCell_ptr, oneCell_slice, oneCell_map, putL_cons, putL_nil, pAnd_pure, pOr_pure, pAnd_pureE, pOr_pureE, pAnd_false, pOr_true, pCond_true, pCond_false, add_mk, bys_mk, bys_size, cond_true, cond_false, decide_true, decide_false, decide_not', dec_and, dec_or, dec_eqt, Bool.not_true, Bool.not_false, Option.isNone_none, Option.isNone_some, Option.map_some, Option.map_none, List.getElem?_toArray, List.getElem?_cons_zero, List.getElem?_cons_succ, List.size_toArray, List.length_cons, List.length_nil, List.length_replicate, List.set_cons_zero, List.set_cons_succ, Nat.reduceAdd, Nat.reduceMul, Nat.reduceSub, Nat.reduceLeDiff, Nat.zero_add, Nat.add_zero, Nat.zero_le, true_and, and_true, not_false_eq_true, ne_eq, Int.reduceNeg, Int.reduceEq, Int.reduceNe, Int.reduceLT, Int.reduceLE, le_refl', List.setIfInBounds_toArray, Nat.reduceLT, Array.size_setIfInBounds, if_true, if_false, reduceCtorEq, List.toArray_toList', List.drop_succ_cons, List.drop_zero, List.take_succ_cons, List.take_zero, List.nil_append, List.append_nil, List.cons_append, Bool.and_true, Bool.true_and, Bool.or_false, Bool.false_or, Bool.and_false, Bool.or_true, Bool.true_or, Bool.false_and, eq_self]
      have hdiff : IntKind.u8.wrap (IntKind.u32.wrap (numb first j - first)) = IntKind.u8.wrap j := by
        rw [wu32_mod, wu8_mod, wu8_mod, numb_eq (j := 0)]; omega
      rw [hdiff, b8_val]
      refine own_build1 rfl rfl fun y H8 sy e8 _ => ?_
      refine ⟨(had.ext e8).load had0 rfl, ?_⟩
      refine Sl.str (l := [b8 j]) sy ?_
      have B8 := B7.more e8
      have hn32 := wu32_range (first + IntKind.u32.wrap j)
      have hlenS := B8.rcv.len
      refine take_both (i := i) (k := k) f0 f1 B8 hS0 hjm.1.1 hjm.1.2 (by omega) bs0 (fun h150 => by
        have hk := hk0 h150
        subst hk
        rw [hop0, Option.some.injEq] at hj
        exact hj.symm) fun v9 S9 H9 B9 hpr => ?_
      refine next_inner B9 hpr fun s10 ok10 H10 in10 => ?_
      simp only [pPick_v, pNil_v, pNil_f, pAdd_v, pSub_v, pMul_v, pAdd_s, pQuo_v, pRem_v, pBits_v, pShl_v, pShr_v, pLt_v, pLe_v, pGt_v, pGe_v, pEq_0, pNe_0, pEq_1, pNe_1, pEq_2, pNe_2, pEq_3n, pNe_3n, pEq_3s, pNe_3s, pEq_3t, pNe_3t, pEq_5n, pNe_5n, pEq_5s, pNe_5s, pEq_5t, pNe_5t, pEq_4n, pNe_4n, pEq_4s, pNe_4s, pNot_v, pNeg_v, pCom_v, pConv_v, pConvS_v, pMin_v, pMax_v, pFieldAddr_v, pField1_v, pFieldN_v, pExtract_v, pIdxArr_v, pIdxSl_v, pIdxStr_v, pBounds_00, pBounds_10, pBounds_01, pBounds_11, pSlStr_v, pSlSl_v, pSlArr_v, pLenS_v, pLen_v, pCap_v, pBuild_n, pBuild_c, cells_int, cells_str, cells_bool, cells_ptr, cells_slice, cells_map, cells_agg, oneCell_int, oneCell_str, oneCell_bool, oneCell_ptr, oneCell_slice, oneCell_map, putL_cons, putL_nil, pAnd_pure, pOr_pure, pAnd_pureE, pOr_pureE, pAnd_false, pOr_true, pCond_true, pCond_false, add_mk, bys_mk, bys_size, cond_true, cond_false, decide_true, decide_false, decide_not', dec_and, dec_or, dec_eqt, Bool.not_true, Bool.not_false, Option.isNone_none, Option.isNone_some, Option.map_some, Option.map_none, List.getElem?_toArray, List.getElem?_cons_zero, List.getElem?_cons_succ, List.size_toArray, List.length_cons, List.length_nil, List.length_replicate, List.set_cons_zero, List.set_cons_succ, Nat.reduceAdd, Nat.reduceMul, Nat.reduceSub, Nat.reduceLeDiff, Nat.zero_add, Nat.add_zero, Nat.zero_le, true_and, and_true, not_false_eq_true, ne_eq, Int.reduceNeg, Int.reduceEq, Int.reduceNe, Int.reduceLT, Int.reduceLE, le_refl', List.setIfInBounds_toArray, Nat.reduceLT, Array.size_setIfInBounds, if_true, if_false, reduceCtorEq, List.toArray_toList', List.drop_succ_cons, List.drop_zero, List.take_succ_cons, List.take_zero, List.nil_append, List.append_nil, List.cons_append, Bool.and_true, Bool.true_and, Bool.or_false, Bool.false_or, Bool.and_false, Bool.or_true, Bool.true_or, Bool.false_and, eq_self]
      refine ⟨fun g s ok H' => ∃ got1 : Int, g = .int .i64 got1 ∧ got ≤ got1 ∧ Inner H sa ra rb rr first count size base next' A i got1 s ok H',
        fun g _ ok _ => match g, ok with | .int _ x, .bool o => 2 * (100 - x).toNat + (bif o then 1 else 0) | _, _ => 0, ⟨got, rfl, Int.le_refl _, in10⟩, ?_⟩
      rintro _ _ s ok H11 ⟨got1, rfl, hgg, S1, hcase⟩
      rcases hcase with ⟨rfl, h10, B11, hpr1⟩ | ⟨rfl, rfl, hlt1, B11⟩
      · simp only [pPick_v, pNil_v, pNil_f, pAdd_v, pSub_v, pMul_v, pAdd_s, pQuo_v, pRem_v, pBits_v, pShl_v, pShr_v, pLt_v, pLe_v, pGt_v, pGe_v, pEq_0, pNe_0, pEq_1, pNe_1, pEq_2, pNe_2, pEq_3n, pNe_3n, pEq_3s, pNe_3s, pEq_3t, pNe_3t, pEq_5n, pNe_5n, pEq_5s, pNe_5s, pEq_5t, pNe_5t, pEq_4n, pNe_4n, pEq_4s, pNe_4s, pNot_v, pNeg_v, pCom_v, pConv_v, pConvS_v, pMin_v, pMax_v, pFieldAddr_v, pField1_v, pFieldN_v, pExtract_v, pIdxArr_v, pIdxSl_v, pIdxStr_v, pBounds_00, pBounds_10, pBounds_01, pBounds_11, pSlStr_v, pSlSl_v, pSlArr_v, pLenS_v, pLen_v, pCap_v, pBuild_n, pBuild_c, cells_int, cells_str, cells_bool, cells_ptr, cells_slice, cells_map, cells_agg, oneCell_int, oneCell_str, oneCell_bool, oneCell_ptr, oneCell_slice, oneCell_map, putL_cons, putL_nil, pAnd_pure, pOr_pure, pAnd_pureE, pOr_pureE, pAnd_false, pOr_true, pCond_true, pCond_false, add_mk, bys_mk, bys_size, cond_true, cond_false, decide_true, decide_false, decide_not', dec_and, dec_or, dec_eqt, Bool.not_true, Bool.not_false, Option.isNone_none, Option.isNone_some, Option.map_some, Option.map_none, List.getElem?_toArray, List.getElem?_cons_zero, List.getElem?_cons_succ, List.size_toArray, List.length_cons, List.length_nil, List.length_replicate, List.set_cons_zero, List.set_cons_succ, Nat.reduceAdd, Nat.reduceMul, Nat.reduceSub, Nat.reduceLeDiff, Nat.zero_add, Nat.add_zero, Nat.zero_le, true_and, and_true, not_false_eq_true, ne_eq, Int.reduceNeg, Int.reduceEq, Int.reduceNe, Int.reduceLT, Int.reduceLE, le_refl', List.setIfInBounds_toArray, Nat.reduceLT, Array.size_setIfInBounds, if_true, if_false, reduceCtorEq, List.toArray_toList', List.drop_succ_cons, List.drop_zero, List.take_succ_cons, List.take_zero, List.nil_append, List.append_nil, List.cons_append, Bool.and_true, Bool.true_and, Bool.or_false, Bool.false_or, Bool.and_false, Bool.or_true, Bool.true_or, Bool.false_and, eq_self]
        have hgb := B11.g0
        have hgn := B11.g1
        have hok : ∀ x : Bool, (x = true → i < 150) → pCond (.bool x) (∃ (base' next_1 got' : Int) (A' : Int → Bool) (S' : Slots), Value.int .i64 got1 = .int .i64 got' ∧ Both H H11 sa ra rb rr first count size base' next_1 got' A' S' ∧ S'[0]? = some none ∧ ((i + 1 : Nat) : Int) ≤ 150 + base')
            (CallsH Try.prog 18 #[sptr rb] H11 fun x130 H_29 => pExtract 0 x130 fun x131 => pExtract 1 x130 fun x132 => CallsH Try.prog 28 #[sptr sa, x131, x132] H_29 fun x133 H_30 =>
              ∃ (base' next_1 got' : Int) (A' : Int → Bool) (S' : Slots), Value.int .i64 got1 = .int .i64 got' ∧ Both H H_30 sa ra rb rr first count size base' next_1 got' A' S' ∧ S'[0]? = some none ∧ ((i + 1 : Nat) : Int) ≤ 150 + base') := by
          intro x hx
          refine pCond_b (fun hxt => ?_) (fun hxf => ?_)
          · have := hx hxt
            exact ⟨base, next', got1, A, S1, rfl, B11, h10, by omega⟩
          refine rAck_spec B11.rcv fun H12 rn12 x12 => ?_
          simp only [pPick_v, pNil_v, pNil_f, pAdd_v, pSub_v, pMul_v, pAdd_s, pQuo_v, pRem_v, pBits_v, pShl_v, pShr_v, pLt_v, pLe_v, pGt_v, pGe_v, pEq_0, pNe_0, pEq_1, pNe_1, pEq_2, pNe_2, pEq_3n, pNe_3n, pEq_3s, pNe_3s, pEq_3t, pNe_3t, pEq_5n, pNe_5n, pEq_5s, pNe_5s, pEq_5t, pNe_5t, pEq_4n, pNe_4n, pEq_4s, pNe_4s, pNot_v, pNeg_v, pCom_v, pConv_v, pConvS_v, pMin_v, pMax_v, pFieldAddr_v, pField1_v, pFieldN_v, pExtract_v, pIdxArr_v, pIdxSl_v, pIdxStr_v, pBounds_00, pBounds_10, pBounds_01, pBounds_11, pSlStr_v, pSlSl_v, pSlArr_v, pLenS_v, pLen_v, pCap_v, pBuild_n, pBuild_c, cells_int, cells_str, cells_bool, cells_ptr, cells_slice, cells_map, cells_agg, oneCell_int, oneCell_str, oneCell_bool, oneCell_ptr, oneCell_slice, oneCell_map, putL_cons, putL_nil, pAnd_pure, pOr_pure, pAnd_pureE, pOr_pureE, pAnd_false, pOr_true, pCond_true, pCond_false, add_mk, bys_mk, bys_size, cond_true, cond_false, decide_true, decide_false, decide_not', dec_and, dec_or, dec_eqt, Bool.not_true, Bool.not_false, Option.isNone_none, Option.isNone_some, Option.map_some, Option.map_none, List.getElem?_toArray, List.getElem?_cons_zero, List.getElem?_cons_succ, List.size_toArray, List.length_cons, List.length_nil, List.length_replicate, List.set_cons_zero, List.set_cons_succ, Nat.reduceAdd, Nat.reduceMul, Nat.reduceSub, Nat.reduceLeDiff, Nat.zero_add, Nat.add_zero, Nat.zero_le, true_and, and_true, not_false_eq_true, ne_eq, Int.reduceNeg, Int.reduceEq, Int.reduceNe, Int.reduceLT, Int.reduceLE, le_refl', List.setIfInBounds_toArray, Nat.reduceLT, Array.size_setIfInBounds, if_true, if_false, reduceCtorEq, List.toArray_toList', List.drop_succ_cons, List.drop_zero, List.take_succ_cons, List.take_zero, List.nil_append, List.append_nil, List.cons_append, Bool.and_true, Bool.true_and, Bool.or_false, Bool.false_or, Bool.and_false, Bool.or_true, Bool.true_or, Bool.false_and, eq_self]
          have hnum : (first + got1) % 4294967296 = numb first got1 := by rw [numb_eq (j := 0)]
          have hah : ahead first base ((first + got1) % 4294967296) = got1 - base := by
            unfold ahead; rw [wu32_mod, numb_eq (j := 0)]; omega
          have hbl := bsum_lt (thereS S1) 31
          have B12 := B11.more x12
          refine sAck_spec (by omega) (by omega) B12.snd (by rw [hah]; omega) fun H13 wn13 on13 => ?_
          rw [hah, show base + (got1 - base) = got1 by omega] at wn13
          have hA : ∀ k, (without (ackF ((bsum (thereS S1) 31 : Nat) : Int) base next' got1 A).1 base (got1 + 1)) k = true → got1 < k ∧ k < next' ∧ (A k = true ∨ ∃ t, S1[(k - got1).toNat]? = some (some t)) := by
            intro k hk
            unfold without ackF at hk
            rw [marks_at, marks_at] at hk
            simp only [Bool.and_eq_true, Bool.or_eq_true, decide_eq_true_eq, Bool.not_eq_true', decide_eq_false_iff_not, mem_places] at hk
            obtain ⟨hk1, hk2⟩ := hk
            rcases hk1 with (h' | h') | h'
            · have := B12.told k h'
              exact ⟨by omega, this.2, .inl h'⟩
            · omega
            · obtain ⟨m, hm1, hm2, hm3⟩ := mem_bitL.1 h'.2.2
              rw [bitAt_nat, bsum_test, Bool.and_eq_true] at hm2
              have hm4 := hm2.2
              unfold thereS at hm4
              refine ⟨by omega, h'.2.1, .inr ?_⟩
              rw [hm3, show (got1 + 1 + (m : Int) - got1).toNat = m + 1 by omega]
              cases hS : S1[m + 1]? with
              | none => rw [hS] at hm4; simp at hm4
              | some o =>
                cases o with
                | none => rw [hS] at hm4; simp at hm4
                | some t => exact ⟨t, rfl⟩
          refine ⟨got1, next', got1, _, S1, rfl, { B12 with snd := wn13, rcv := on13.rcv B12.rcv (Ne.symm B12.ab) (Ne.symm B12.rab) (Ne.symm B12.arb) (Ne.symm B12.rarb), ext := on13.ext B12.ext B12.ha B12.hra, wide := by have := B12.wide; omega, told := fun k hk => (by have := hA k hk; omega), g0 := Int.le_refl _, here := fun k hk => ?_ }, h10, ?_⟩
          · obtain ⟨h1, h2, h3⟩ := hA k hk
            rcases h3 with h3 | h3
            · exact B12.here k h3
            · exact .inr h3
          · by_cases h150 : 150 ≤ i
            · have := hpr1 h150; omega
            · omega
        by_cases hil : i < len
        · rw [decide_eq_true (by omega)]
          refine pAnd_true ?_
          refine w2.read B11.ext (by omega) (by omega) ?_
          simp only [pPick_v, pNil_v, pNil_f, pAdd_v, pSub_v, pMul_v, pAdd_s, pQuo_v, pRem_v, pBits_v, pShl_v, pShr_v, pLt_v, pLe_v, pGt_v, pGe_v, pEq_0, pNe_0, pEq_1, pNe_1, pEq_2, pNe_2, pEq_3n, pNe_3n, pEq_3s, pNe_3s, pEq_3t, pNe_3t, pEq_5n, pNe_5n, pEq_5s, pNe_5s, pEq_5t, pNe_5t, pEq_4n, pNe_4n, pEq_4s, pNe_4s, pNot_v, pNeg_v, pCom_v, pConv_v, pConvS_v, pMin_v, pMax_v, pFieldAddr_v, pField1_v, pFieldN_v, pExtract_v, pIdxArr_v, pIdxSl_v, pIdxStr_v, pBounds_00, pBounds_10, pBounds_01, pBounds_11, pSlStr_v, pSlSl_v, pSlArr_v, pLenS_v, pLen_v, pCap_v, pBuild_n, pBuild_c, cells_int, cells_str, cells_bool, cells_ptr, cells_slice, cells_map, cells_agg, oneCell_int, oneCell_str, oneCell_bool, oneCell_ptr, oneCell_slice, oneCell_map, putL_cons, putL_nil, pAnd_pure, pOr_pure, pAnd_pureE, pOr_pureE, pAnd_false, pOr_true, pCond_true, pCond_false, add_mk, bys_mk, bys_size, cond_true, cond_false, decide_true, decide_false, decide_not', dec_and, dec_or, dec_eqt, Bool.not_true, Bool.not_false, Option.isNone_none, Option.isNone_some, Option.map_some, Option.map_none, List.getElem?_toArray, List.getElem?_cons_zero, List.getElem?_cons_succ, List.size_toArray, List.length_cons, List.length_nil, List.length_replicate, List.set_cons_zero, List.set_cons_succ, Nat.reduceAdd, Nat.reduceMul, Nat.reduceSub, Nat.reduceLeDiff, Nat.zero_add, Nat.add_zero, Nat.zero_le, true_and, and_true, not_false_eq_true, ne_eq, Int.reduceNeg, Int.reduceEq, Int.reduceNe, Int.reduceLT, Int.reduceLE, le_refl', List.setIfInBounds_toArray, Nat.reduceLT, Array.size_setIfInBounds, if_true, if_false, reduceCtorEq, List.toArray_toList', List.drop_succ_cons, List.drop_zero, List.take_succ_cons, List.take_zero, List.nil_append, List.append_nil, List.cons_append, Bool.and_true, Bool.true_and, Bool.or_false, Bool.false_or, Bool.and_false, Bool.or_true, Bool.true_or, Bool.false_and, eq_self]
          refine fun _ _ => hok _ (fun h => ?_)
          rw [decide_eq_true_eq] at h
          omega
        · rw [decide_eq_false (by omega)]
          simp only [pPick_v, pNil_v, pNil_f, pAdd_v, pSub_v, pMul_v, pAdd_s, pQuo_v, pRem_v, pBits_v, pShl_v, pShr_v, pLt_v, pLe_v, pGt_v, pGe_v, pEq_0, pNe_0, pEq_1, pNe_1, pEq_2, pNe_2, pEq_3n, pNe_3n, pEq_3s, pNe_3s, pEq_3t, pNe_3t, pEq_5n, pNe_5n, pEq_5s, pNe_5s, pEq_5t, pNe_5t, pEq_4n, pNe_4n, pEq_4s, pNe_4s, pNot_v, pNeg_v, pCom_v, pConv_v, pConvS_v, pMin_v, pMax_v, pFieldAddr_v, pField1_v, pFieldN_v, pExtract_v, pIdxArr_v, pIdxSl_v, pIdxStr_v, pBounds_00, pBounds_10, pBounds_01, pBounds_11, pSlStr_v, pSlSl_v, pSlArr_v, pLenS_v, pLen_v, pCap_v, pBuild_n, pBuild_c, cells_int, cells_str, cells_bool, cells_ptr, cells_slice, cells_map, cells_agg, oneCell_int, oneCell_str, oneCell_bool, oneCell_ptr, oneCell_slice, oneCell_map, putL_cons, putL_nil, pAnd_pure, pOr_pure, pAnd_pureE, pOr_pureE, pAnd_false, pOr_true, pCond_true, pCond_false, add_mk, bys_mk, bys_size, cond_true, cond_false, decide_true, decide_false, decide_not', dec_and, dec_or, dec_eqt, Bool.not_true, Bool.not_false, Option.isNone_none, Option.isNone_some, Option.map_some, Option.map_none, List.getElem?_toArray, List.getElem?_cons_zero, List.getElem?_cons_succ, List.size_toArray, List.length_cons, List.length_nil, List.length_replicate, List.set_cons_zero, List.set_cons_succ, Nat.reduceAdd, Nat.reduceMul, Nat.reduceSub, Nat.reduceLeDiff, Nat.zero_add, Nat.add_zero, Nat.zero_le, true_and, and_true, not_false_eq_true, ne_eq, Int.reduceNeg, Int.reduceEq, Int.reduceNe, Int.reduceLT, Int.reduceLE, le_refl', List.setIfInBounds_toArray, Nat.reduceLT, Array.size_setIfInBounds, if_true, if_false, reduceCtorEq, List.toArray_toList', List.drop_succ_cons, List.drop_zero, List.take_succ_cons, List.take_zero, List.nil_append, List.append_nil, List.cons_append, Bool.and_true, Bool.true_and, Bool.or_false, Bool.false_or, Bool.and_false, Bool.or_true, Bool.true_or, Bool.false_and, eq_self]
          have hf := hok false (fun h => by cases h)
          rw [pCond_false] at hf
          exact fun _ _ => hf
      · simp only [pPick_v, pNil_v, pNil_f, pAdd_v, pSub_v, pMul_v, pAdd_s, pQuo_v, pRem_v, pBits_v, pShl_v, pShr_v, pLt_v, pLe_v, pGt_v, pGe_v, pEq_0, pNe_0, pEq_1, pNe_1, pEq_2, pNe_2, pEq_3n, pNe_3n, pEq_3s, pNe_3s, pEq_3t, pNe_3t, pEq_5n, pNe_5n, pEq_5s, pNe_5s, pEq_5t, pNe_5t, pEq_4n, pNe_4n, pEq_4s, pNe_4s, pNot_v, pNeg_v, pCom_v, pConv_v, pConvS_v, pMin_v, pMax_v, pFieldAddr_v, pField1_v, pFieldN_v, pExtract_v, pIdxArr_v, pIdxSl_v, pIdxStr_v, pBounds_00, pBounds_10, pBounds_01, pBounds_11, pSlStr_v, pSlSl_v, pSlArr_v, pLenS_v, pLen_v, pCap_v, pBuild_n, pBuild_c, cells_int, cells_str, cells_bool, cells_ptr, cells_slice, cells_map, cells_agg, oneCell_int, oneCell_str, oneCell_bool, oneCell_ptr, oneCell_slice, oneCell_map, putL_cons, putL_nil, pAnd_pure, pOr_pure, pAnd_pureE, pOr_pureE, pAnd_false, pOr_true, pCond_true, pCond_false, add_mk, bys_mk, bys_size, cond_true, cond_false, decide_true, decide_false, decide_not', dec_and, dec_or, dec_eqt, Bool.not_true, Bool.not_false, Option.isNone_none, Option.isNone_some, Option.map_some, Option.map_none, List.getElem?_toArray, List.getElem?_cons_zero, List.getElem?_cons_succ, List.size_toArray, List.length_cons, List.length_nil, List.length_replicate, List.set_cons_zero, List.set_cons_succ, Nat.reduceAdd, Nat.reduceMul, Nat.reduceSub, Nat.reduceLeDiff, Nat.zero_add, Nat.add_zero, Nat.zero_le, true_and, and_true, not_false_eq_true, ne_eq, Int.reduceNeg, Int.reduceEq, Int.reduceNe, Int.reduceLT, Int.reduceLE, le_refl', List.setIfInBounds_toArray, Nat.reduceLT, Array.size_setIfInBounds, if_true, if_false, reduceCtorEq, List.toArray_toList', List.drop_succ_cons, List.drop_zero, List.take_succ_cons, List.take_zero, List.nil_append, List.append_nil, List.cons_append, Bool.and_true, Bool.true_and, Bool.or_false, Bool.false_or, Bool.and_false, Bool.or_true, Bool.true_or, Bool.false_and, eq_self]
        rw [b8_val]
        refine byte_str rfl fun H12 e12 => ?_
        simp only [pPick_v, pNil_v, pNil_f, pAdd_v, pSub_v, pMul_v, pAdd_s, pQuo_v, pRem_v, pBits_v, pShl_v, pShr_v, pLt_v, pLe_v, pGt_v, pGe_v, pEq_0, pNe_0, pEq_1, pNe_1, pEq_2, pNe_2, pEq_3n, pNe_3n, pEq_3s, pNe_3s, pEq_3t, pNe_3t, pEq_5n, pNe_5n, pEq_5s, pNe_5s, pEq_5t, pNe_5t, pEq_4n, pNe_4n, pEq_4s, pNe_4s, pNot_v, pNeg_v, pCom_v, pConv_v, pConvS_v, pMin_v, pMax_v, pFieldAddr_v, pField1_v, pFieldN_v, pExtract_v, pIdxArr_v, pIdxSl_v, pIdxStr_v, pBounds_00, pBounds_10, pBounds_01, pBounds_11, pSlStr_v, pSlSl_v, pSlArr_v, pLenS_v, pLen_v, pCap_v, pBuild_n, pBuild_c, cells_int, cells_str, cells_bool, cells_ptr, cells_slice, cells_map, cells_agg, oneCell_int, oneCell_str, oneCell_bool, oneCell_ptr, oneCell_slice, oneCell_map, putL_cons, putL_nil, pAnd_pure, pOr_pure, pAnd_pureE, pOr_pureE, pAnd_false, pOr_true, pCond_true, pCond_false, add_mk, bys_mk, bys_size, cond_true, cond_false, decide_true, decide_false, decide_not', dec_and, dec_or, dec_eqt, Bool.not_true, Bool.not_false, Option.isNone_none, Option.isNone_some, Option.map_some, Option.map_none, List.getElem?_toArray, List.getElem?_cons_zero, List.getElem?_cons_succ, List.size_toArray, List.length_cons, List.length_nil, List.length_replicate, List.set_cons_zero, List.set_cons_succ, Nat.reduceAdd, Nat.reduceMul, Nat.reduceSub, Nat.reduceLeDiff, Nat.zero_add, Nat.add_zero, Nat.zero_le, true_and, and_true, not_false_eq_true, ne_eq, Int.reduceNeg, Int.reduceEq, Int.reduceNe, Int.reduceLT, Int.reduceLE, le_refl', List.setIfInBounds_toArray, Nat.reduceLT, Array.size_setIfInBounds, if_true, if_false, reduceCtorEq, List.toArray_toList', List.drop_succ_cons, List.drop_zero, List.take_succ_cons, List.take_zero, List.nil_append, List.append_nil, List.cons_append, Bool.and_true, Bool.true_and, Bool.or_false, Bool.false_or, Bool.and_false, Bool.or_true, Bool.true_or, Bool.false_and, eq_self]
        rw [decide_eq_false (by simp), pCond_false]
        have hgb := B11.g0
        have hgn := B11.g1
        refine next_inner (B11.more e12) (i := i) (.inl (by omega)) fun s13 ok13 H13 in13 => ?_
        simp only [pPick_v, pNil_v, pNil_f, pAdd_v, pSub_v, pMul_v, pAdd_s, pQuo_v, pRem_v, pBits_v, pShl_v, pShr_v, pLt_v, pLe_v, pGt_v, pGe_v, pEq_0, pNe_0, pEq_1, pNe_1, pEq_2, pNe_2, pEq_3n, pNe_3n, pEq_3s, pNe_3s, pEq_3t, pNe_3t, pEq_5n, pNe_5n, pEq_5s, pNe_5s, pEq_5t, pNe_5t, pEq_4n, pNe_4n, pEq_4s, pNe_4s, pNot_v, pNeg_v, pCom_v, pConv_v, pConvS_v, pMin_v, pMax_v, pFieldAddr_v, pField1_v, pFieldN_v, pExtract_v, pIdxArr_v, pIdxSl_v, pIdxStr_v, pBounds_00, pBounds_10, pBounds_01, pBounds_11, pSlStr_v, pSlSl_v, pSlArr_v, pLenS_v, pLen_v, pCap_v, pBuild_n, pBuild_c, cells_int, cells_str, cells_bool, cells_ptr, cells_slice, cells_map, cells_agg, oneCell_int, oneCell_str, oneCell_bool, oneCell_ptr, oneCell_slice, oneCell_map, putL_cons, putL_nil, pAnd_pure, pOr_pure, pAnd_pureE, pOr_pureE, pAnd_false, pOr_true, pCond_true, pCond_false, add_mk, bys_mk, bys_size, cond_true, cond_false, decide_true, decide_false, decide_not', dec_and, dec_or, dec_eqt, Bool.not_true, Bool.not_false, Option.isNone_none, Option.isNone_some, Option.map_some, Option.map_none, List.getElem?_toArray, List.getElem?_cons_zero, List.getElem?_cons_succ, List.size_toArray, List.length_cons, List.length_nil, List.length_replicate, List.set_cons_zero, List.set_cons_succ, Nat.reduceAdd, Nat.reduceMul, Nat.reduceSub, Nat.reduceLeDiff, Nat.zero_add, Nat.add_zero, Nat.zero_le, true_and, and_true, not_false_eq_true, ne_eq, Int.reduceNeg, Int.reduceEq, Int.reduceNe, Int.reduceLT, Int.reduceLE, le_refl', List.setIfInBounds_toArray, Nat.reduceLT, Array.size_setIfInBounds, if_true, if_false, reduceCtorEq, List.toArray_toList', List.drop_succ_cons, List.drop_zero, List.take_succ_cons, List.take_zero, List.nil_append, List.append_nil, List.cons_append, Bool.and_true, Bool.true_and, Bool.or_false, Bool.false_or, Bool.and_false, Bool.or_true, Bool.true_or, Bool.false_and, eq_self]
        rw [w64 (by omega) (by omega)]
        refine ⟨⟨got1 + 1, rfl, by omega, in13⟩, ?_⟩
        obtain ⟨S13, hc13⟩ := in13
        rcases hc13 with ⟨rfl, _⟩ | ⟨rfl, _⟩
        · show 2 * (100 - (got1 + 1)).toNat + 0 < 2 * (100 - got1).toNat + 1; omega
        · show 2 * (100 - (got1 + 1)).toNat + 1 < 2 * (100 - got1).toNat + 1; omega
    · refine fun _ => pCond_if (fun hc4 => ?_) (fun hc4 => ?_)
      · refine w2.read B7.ext (by omega) (by omega) ?_
        generalize zs.getD (i : Int).toNat 0 = z
        refine (o7.sl (by decide)).len (n := (openP A base next').length) (by rw [hol2]; omega) (by decide) ?_
        have hn0 : (0 : Int) < (openP A base next').length := by omega
        have ht := tmod_range (z := z) hn0
        have hmp := mod_pick (z := z) hn0
        rw [pRem_v]
        refine ⟨by omega, ?_⟩
        refine (o7.sl (by decide)).len (n := (openP A base next').length) (by rw [hol2]; omega) (by decide) ?_
        rw [pAdd_v, w64 (by omega) (by omega)]
        refine (o7.sl (by decide)).len (n := (openP A base next').length) (by rw [hol2]; omega) (by decide) ?_
        rw [pRem_v]
        refine ⟨by omega, ((z.tmod (openP A base next').length + (openP A base next').length).tmod (openP A base next').length).toNat, ?_, by omega, rfl, fun h => by omega⟩
        rw [Int.toNat_of_nonneg hmp.1]
      · exact ⟨0, rfl, by omega, rfl, fun _ => rfl⟩
  · have hbc : base = count := by
      simp only [Bool.and_eq_false_iff, decide_eq_false_iff_not] at hc
      rcases hc with h' | h'
      · omega
      · exact Classical.not_not.1 h'
    refine sDone_spec B5.snd ?_
    rw [decide_eq_true hbc]
    have hnone : ∀ j : Nat, j < S.length → S[j]? = some none := by
      intro j hj
      cases hS : S[j] with
      | none => rw [List.getElem?_eq_getElem hj, hS]
      | some t =>
        have := B5.txt j t (by rw [List.getElem?_eq_getElem hj, hS])
        omega
    have hheld : heldL S = 0 := by
      have : S = List.replicate S.length none := by
        apply List.ext_getElem?
        intro j
        by_cases hj : j < S.length
        · rw [hnone j hj, List.getElem?_replicate, if_pos hj]
        · rw [List.getElem?_eq_none (by omega), List.getElem?_eq_none (by simp; omega)]
      rw [this, heldL_none]
    refine pAnd_true ?_
    simp only [pPick_v, pNil_v, pNil_f, pAdd_v, pSub_v, pMul_v, pAdd_s, pQuo_v, pRem_v, pBits_v, pShl_v, pShr_v, pLt_v, pLe_v, pGt_v, pGe_v, pEq_0, pNe_0, pEq_1, pNe_1, pEq_2, pNe_2, pEq_3n, pNe_3n, pEq_3s, pNe_3s, pEq_3t, pNe_3t, pEq_5n, pNe_5n, pEq_5s, pNe_5s, pEq_5t, pNe_5t, pEq_4n, pNe_4n, pEq_4s, pNe_4s, pNot_v, pNeg_v, pCom_v, pConv_v, pConvS_v, pMin_v, pMax_v, pFieldAddr_v, pField1_v, pFieldN_v, pExtract_v, pIdxArr_v, pIdxSl_v, pIdxStr_v, pBounds_00, pBounds_10, pBounds_01, pBounds_11, pSlStr_v, pSlSl_v, pSlArr_v, pLenS_v, pLen_v, pCap_v, pBuild_n, pBuild_c, cells_int, cells_str, cells_bool, cells_ptr, cells_slice, cells_map, cells_agg, oneCell_int, oneCell_str, oneCell_bool, oneCell_ptr, oneCell_slice, oneCell_map, putL_cons, putL_nil, pAnd_pure, pOr_pure, pAnd_pureE, pOr_pureE, pAnd_false, pOr_true, pCond_true, pCond_false, add_mk, bys_mk, bys_size, cond_true, cond_false, decide_true, decide_false, decide_not', dec_and, dec_or, dec_eqt, Bool.not_true, Bool.not_false, Option.isNone_none, Option.isNone_some, Option.map_some, Option.map_none, List.getElem?_toArray, List.getElem?_cons_zero, List.getElem?_cons_succ, List.size_toArray, List.length_cons, List.length_nil, List.length_replicate, List.set_cons_zero, List.set_cons_succ, Nat.reduceAdd, Nat.reduceMul, Nat.reduceSub, Nat.reduceLeDiff, Nat.zero_add, Nat.add_zero, Nat.zero_le, true_and, and_true, not_false_eq_true, ne_eq, Int.reduceNeg, Int.reduceEq, Int.reduceNe, Int.reduceLT, Int.reduceLE, le_refl', List.setIfInBounds_toArray, Nat.reduceLT, Array.size_setIfInBounds, if_true, if_false, reduceCtorEq, List.toArray_toList', List.drop_succ_cons, List.drop_zero, List.take_succ_cons, List.take_zero, List.nil_append, List.append_nil, List.cons_append, Bool.and_true, Bool.true_and, Bool.or_false, Bool.false_or, Bool.and_false, Bool.or_true, Bool.true_or, Bool.false_and, eq_self]
    rw [decide_eq_true (p := got = count) (by omega)]
    refine fun _ => pAnd_true ?_
    refine rHeld_spec B5.rcv ?_
    rw [hheld]
    simp only [pPick_v, pNil_v, pNil_f, pAdd_v, pSub_v, pMul_v, pAdd_s, pQuo_v, pRem_v, pBits_v, pShl_v, pShr_v, pLt_v, pLe_v, pGt_v, pGe_v, pEq_0, pNe_0, pEq_1, pNe_1, pEq_2, pNe_2, pEq_3n, pNe_3n, pEq_3s, pNe_3s, pEq_3t, pNe_3t, pEq_5n, pNe_5n, pEq_5s, pNe_5s, pEq_5t, pNe_5t, pEq_4n, pNe_4n, pEq_4s, pNe_4s, pNot_v, pNeg_v, pCom_v, pConv_v, pConvS_v, pMin_v, pMax_v, pFieldAddr_v, pField1_v, pFieldN_v, pExtract_v, pIdxArr_v, pIdxSl_v, pIdxStr_v, pBounds_00, pBounds_10, pBounds_01, pBounds_11, pSlStr_v, pSlSl_v, pSlArr_v, pLenS_v, pLen_v, pCap_v, pBuild_n, pBuild_c, cells_int, cells_str, cells_bool, cells_ptr, cells_slice, cells_map, cells_agg, oneCell_int, oneCell_str, oneCell_bool, oneCell_ptr, oneCell_slice, oneCell_map, putL_cons, putL_nil, pAnd_pure, pOr_pure, pAnd_pureE, pOr_pureE, pAnd_false, pOr_true, pCond_true, pCond_false, add_mk, bys_mk, bys_size, cond_true, cond_false, decide_true, decide_false, decide_not', dec_and, dec_or, dec_eqt, Bool.not_true, Bool.not_false, Option.isNone_none, Option.isNone_some, Option.map_some, Option.map_none, List.getElem?_toArray, List.getElem?_cons_zero, List.getElem?_cons_succ, List.size_toArray, List.length_cons, List.length_nil, List.length_replicate, List.set_cons_zero, List.set_cons_succ, Nat.reduceAdd, Nat.reduceMul, Nat.reduceSub, Nat.reduceLeDiff, Nat.zero_add, Nat.add_zero, Nat.zero_le, true_and, and_true, not_false_eq_true, ne_eq, Int.reduceNeg, Int.reduceEq, Int.reduceNe, Int.reduceLT, Int.reduceLE, le_refl', List.setIfInBounds_toArray, Nat.reduceLT, Array.size_setIfInBounds, if_true, if_false, reduceCtorEq, List.toArray_toList', List.drop_succ_cons, List.drop_zero, List.take_succ_cons, List.take_zero, List.nil_append, List.append_nil, List.cons_append, Bool.and_true, Bool.true_and, Bool.or_false, Bool.false_or, Bool.and_false, Bool.or_true, Bool.true_or, Bool.false_and, eq_self]
    exact fun _ => ⟨rfl, B5.ext⟩
end Go.Proofs.Ytmolkhfohpfhaaa
