/- The law SendTells over heaps. -/
import Derived.Test.YtmolkhfohpfhaaaLaw24
namespace Go.Proofs.Ytmolkhfohpfhaaa
open Go Go.Vc Go.Proofs
set_option linter.unusedVariables false
set_option linter.unusedSimpArgs false
variable {H : Heap} {R : Value → Heap → Prop}
theorem markF_at (base next : Int) (s : (Int → Bool) × Bool) (i k : Int) : (markF base next s i).1 k = (s.1 k || decide (base ≤ k ∧ k < next ∧ k = i)) := by
  unfold markF
  cases hc : (decide (base ≤ i ∧ i < next) && !s.1 i) with
  | true =>
    simp only [Bool.and_eq_true, decide_eq_true_eq] at hc
    simp only [cond_true]
    by_cases hk : k = i
    · subst hk
      rw [decide_eq_true rfl, decide_eq_true (p := base ≤ k ∧ k < next ∧ k = k) ⟨hc.1.1, hc.1.2, rfl⟩]; simp
    · rw [decide_eq_false hk, decide_eq_false (p := base ≤ k ∧ k < next ∧ k = i) (fun h => hk h.2.2)]; simp
  | false =>
    simp only [cond_false]
    by_cases hk : base ≤ k ∧ k < next ∧ k = i
    · obtain ⟨h1, h2, rfl⟩ := hk
      rw [decide_eq_true (p := base ≤ k ∧ k < next) ⟨h1, h2⟩] at hc
      simp only [Bool.true_and, Bool.not_eq_false'] at hc
      rw [hc]; rfl
    · rw [decide_eq_false hk]; simp
theorem marks_at (base next : Int) : ∀ (l : List Int) (s : (Int → Bool) × Bool) (k : Int), (marks base next s l).1 k = (s.1 k || decide (base ≤ k ∧ k < next ∧ k ∈ l))
  | [], s, k => by simp [marks]
  | i :: l, s, k => by
    show (marks base next (markF base next s i) l).1 k = _
    rw [marks_at base next l, markF_at, Bool.or_assoc]
    congr 1
    rw [Bool.eq_iff_iff]
    simp only [Bool.or_eq_true, decide_eq_true_eq, List.mem_cons]
    constructor
    · rintro (⟨a, b, c⟩ | ⟨a, b, c⟩)
      · exact ⟨a, b, .inl c⟩
      · exact ⟨a, b, .inr c⟩
    · rintro ⟨a, b, c | c⟩
      · exact .inl ⟨a, b, c⟩
      · exact .inr ⟨a, b, c⟩
theorem mem_bitL {bits at_ : Int} {n : Nat} {k : Int} : k ∈ bitL bits at_ n ↔ ∃ j : Nat, j < n ∧ bitAt bits j = true ∧ k = at_ + 1 + j := by
  unfold bitL
  simp only [List.mem_map, List.mem_filter, List.mem_range]
  constructor
  · rintro ⟨j, ⟨h1, h2⟩, h3⟩; exact ⟨j, h1, h2, h3.symm⟩
  · rintro ⟨j, h1, h2, h3⟩; exact ⟨j, ⟨h1, h2⟩, h3.symm⟩
def cnt (bits : Int) : Nat → Nat
  | 0 => 0
  | k + 1 => cnt bits k + (bif bitAt bits k then 1 else 0)
theorem cnt_le (bits : Int) : ∀ k, cnt bits k ≤ k
  | 0 => Nat.le_refl _
  | k + 1 => by have := cnt_le bits k; rw [cnt]; cases bitAt bits k <;> simp <;> omega
theorem open_cnt {A : Int → Bool} {bits : Int} (h0 : A 0 = false) : ∀ j : Nat, (∀ i : Nat, i < j → A (1 + (i : Int)) = bitAt bits i) → (openP A 0 ((j : Int) + 1)).length + cnt bits j = j + 1
  | 0, _ => by
    rw [show ((0 : Nat) : Int) + 1 = 0 + 1 by omega, openP_succ (Int.le_refl 0), h0, openP, places_none (Int.le_refl 0)]
    rfl
  | j + 1, h => by
    have ih := open_cnt h0 j (fun i hi => h i (by omega))
    have hj := h j (by omega)
    rw [openP_succ (by omega), List.length_append, cnt, show (((j + 1 : Nat) : Int)) = 1 + (j : Int) by omega, hj]
    rw [show (1 : Int) + (j : Int) = (j : Int) + 1 by omega]
    cases bitAt bits j <;> simp only [cond_true, cond_false, List.length_nil, List.length_singleton] <;> omega
theorem open_cnt2 {A : Int → Bool} {bits : Int} (h0 : A 1 = false) : ∀ j : Nat, (∀ i : Nat, i < j → A (2 + (i : Int)) = bitAt bits (i + 1)) → (openP A 1 ((j : Int) + 2)).length + cnt bits (j + 1) = j + 1 + (bif bitAt bits 0 then 1 else 0)
  | 0, _ => by
    rw [show ((0 : Nat) : Int) + 2 = 1 + 1 by omega, openP_succ (Int.le_refl 1), h0, openP, places_none (Int.le_refl 1), cnt, cnt]
    cases bitAt bits 0 <;> rfl
  | j + 1, h => by
    have ih := open_cnt2 h0 j (fun i hi => h i (by omega))
    have hj := h j (by omega)
    rw [show ((j + 1 : Nat) : Int) + 2 = (2 + (j : Int)) + 1 by omega, openP_succ (by omega), List.length_append, cnt, hj]
    rw [show (2 : Int) + (j : Int) = (j : Int) + 2 by omega]
    cases bitAt bits (j + 1) <;> simp only [cond_true, cond_false, List.length_nil, List.length_singleton] <;> omega
theorem open_head {A : Int → Bool} (h0 : A 1 = false) : ∀ j : Nat, ∃ l, openP A 1 ((j : Int) + 2) = 1 :: l
  | 0 => ⟨[], by rw [show ((0 : Nat) : Int) + 2 = 1 + 1 by omega, openP_succ (Int.le_refl 1), h0, openP, places_none (Int.le_refl 1)]; rfl⟩
  | j + 1 => by
    obtain ⟨l, hl⟩ := open_head h0 j
    refine ⟨l ++ (bif A ((j : Int) + 2) then [] else [(j : Int) + 2]), ?_⟩
    rw [show ((j + 1 : Nat) : Int) + 2 = ((j : Int) + 2) + 1 by omega, openP_succ (by omega), hl]
    rfl
theorem numb_0 {f : Int} (h0 : 0 ≤ f) (h1 : f ≤ 4294967295) : numb f 0 = f := by
  unfold numb
  rw [wu32 (n := 0) (by decide) (by decide), Int.add_zero, wu32 h0 h1]
theorem numb_1 (f : Int) : numb f 1 = IntKind.u32.wrap (f + 1) := by
  unfold numb
  rw [wu32 (n := 1) (by decide) (by decide)]
theorem ahead_0 {f : Int} (h0 : 0 ≤ f) (h1 : f ≤ 4294967295) : ahead f 0 f = 0 := by
  unfold ahead
  rw [numb_0 h0 h1, Int.sub_self]; decide
theorem ahead_1 {f : Int} (h0 : 0 ≤ f) (h1 : f ≤ 4294967295) : ahead f 0 (IntKind.u32.wrap (f + 1)) = 1 := by
  unfold ahead
  rw [numb_0 h0 h1, wu32_mod, wu32_mod]; omega
theorem bits_none (k : Nat) : bitAt 0 k = false := by
  unfold bitAt
  rw [Int.zero_ediv]; decide
theorem bitL_none (at_ : Int) : ∀ n, bitL 0 at_ n = []
  | 0 => rfl
  | n + 1 => by rw [bitL_succ, bits_none, bitL_none at_ n]; rfl
theorem SendTells_law (first size bits : Int) (w0 : (Lit.int .u32 first).wf = true) (w1 : (Lit.int .i64 size).wf = true) (w2 : (Lit.int .u32 bits).wf = true) :
    CallsH Try.prog 7 #[.int .u32 first, .int .i64 size, .int .u32 bits] H (LawOk H) := by
  have hf := wfu32 w0
  have hb := wfu32 w2
  refine lighterlaw24_SendTells.vc _ _ _ _ _ ?_
  unfold lighterlaw24_SendTells.res
  refine speaks24_spec fun H1 x1 => ?_
  simp only [pPick_v, pNil_v, pNil_f, pAdd_v, pSub_v, pMul_v, pAdd_s, pQuo_v, pRem_v, pBits_v, pShl_v, pShr_v, pLt_v, pLe_v, pGt_v, pGe_v, pEq_0, pNe_0, pEq_1, pNe_1, pEq_2, pNe_2, pEq_3n, pNe_3n, pEq_3s, pNe_3s, pEq_3t, pNe_3t, pEq_5n, pNe_5n, pEq_5s, pNe_5s, pEq_5t, pNe_5t, pEq_4n, pNe_4n, pEq_4s, pNe_4s, pNot_v, pNeg_v, pCom_v, pConv_v, pConvS_v, pMin_v, pMax_v, pFieldAddr_v, pField1_v, pFieldN_v, pExtract_v, pIdxArr_v, pIdxSl_v, pIdxStr_v, pBounds_00, pBounds_10, pBounds_01, pBounds_11, pSlStr_v, pSlSl_v, pSlArr_v, pLenS_v, pLen_v, pCap_v, pBuild_n, pBuild_c, cells_int, cells_str, cells_bool, cells_ptr, cells_slice, cells_map, cells_agg, oneCell_int, oneCell_str, oneCell_bool, oneCell_ptr, oneCell_slice, oneCell_map, putL_cons, putL_nil, pAnd_pure, pOr_pure, pAnd_pureE, pOr_pureE, pAnd_false, pOr_true, pCond_true, pCond_false, add_mk, bys_mk, bys_size, cond_true, cond_false, decide_true, decide_false, decide_not', dec_and, dec_or, dec_eqt, Bool.not_true, Bool.not_false, Option.isNone_none, Option.isNone_some, Option.map_some, Option.map_none, List.getElem?_toArray, List.getElem?_cons_zero, List.getElem?_cons_succ, List.size_toArray, List.length_cons, List.length_nil, List.length_replicate, List.set_cons_zero, List.set_cons_succ, Nat.reduceAdd, Nat.reduceMul, Nat.reduceSub, Nat.reduceLeDiff, Nat.zero_add, Nat.add_zero, Nat.zero_le, true_and, and_true, not_false_eq_true, ne_eq, Int.reduceNeg, Int.reduceEq, Int.reduceNe, Int.reduceLT, Int.reduceLE, le_refl', List.setIfInBounds_toArray, Nat.reduceLT, Array.size_setIfInBounds, if_true, if_false, reduceCtorEq, List.toArray_toList', List.drop_succ_cons, List.drop_zero, List.take_succ_cons, List.take_zero, List.nil_append, List.append_nil, List.cons_append, Bool.and_true, Bool.true_and, Bool.or_false, Bool.false_or, Bool.and_false, Bool.or_true, Bool.true_or, Bool.false_and, eq_self, and_low (k := 5) (m := 31) (n := size) (by decide) rfl]
  have hq := Int.emod_lt_of_pos size (show (0 : Int) < 2 ^ 5 by decide)
  have hq0 := Int.emod_nonneg size (show (2 : Int) ^ 5 ≠ 0 by decide)
  rw [Int.tmod_eq_emod_of_nonneg hq0]
  have hp := Int.emod_lt_of_pos (size % 2 ^ 5) (show (0 : Int) < 31 by decide)
  have hp0 := Int.emod_nonneg (size % 2 ^ 5) (show (31 : Int) ≠ 0 by decide)
  generalize size % 2 ^ 5 % 31 = q at *
  rw [w64 (n := 2 + q) (by omega) (by omega)]
  obtain ⟨n, hn⟩ : ∃ n : Nat, q = n := ⟨q.toNat, by omega⟩
  subst hn
  refine sNew_spec hf.1 hf.2 ⟨by decide, by decide, by omega, by omega⟩ fun H2 b r wn2 e2 hbb hrr => ?_
  simp only [pPick_v, pNil_v, pNil_f, pAdd_v, pSub_v, pMul_v, pAdd_s, pQuo_v, pRem_v, pBits_v, pShl_v, pShr_v, pLt_v, pLe_v, pGt_v, pGe_v, pEq_0, pNe_0, pEq_1, pNe_1, pEq_2, pNe_2, pEq_3n, pNe_3n, pEq_3s, pNe_3s, pEq_3t, pNe_3t, pEq_5n, pNe_5n, pEq_5s, pNe_5s, pEq_5t, pNe_5t, pEq_4n, pNe_4n, pEq_4s, pNe_4s, pNot_v, pNeg_v, pCom_v, pConv_v, pConvS_v, pMin_v, pMax_v, pFieldAddr_v, pField1_v, pFieldN_v, pExtract_v, pIdxArr_v, pIdxSl_v, pIdxStr_v, pBounds_00, pBounds_10, pBounds_01, pBounds_11, pSlStr_v, pSlSl_v, pSlArr_v, pLenS_v, pLen_v, pCap_v, pBuild_n, pBuild_c, cells_int, cells_str, cells_bool, cells_ptr, cells_slice, cells_map, cells_agg, oneCell_int, oneCell_str, oneCell_bool, oneCell_ptr, oneCell_slice, oneCell_map, putL_cons, putL_nil, pAnd_pure, pOr_pure, pAnd_pureE, pOr_pureE, pAnd_false, pOr_true, pCond_true, pCond_false, add_mk, bys_mk, bys_size, cond_true, cond_false, decide_true, decide_false, decide_not', dec_and, dec_or, dec_eqt, Bool.not_true, Bool.not_false, Option.isNone_none, Option.isNone_some, Option.map_some, Option.map_none, List.getElem?_toArray, List.getElem?_cons_zero, List.getElem?_cons_succ, List.size_toArray, List.length_cons, List.length_nil, List.length_replicate, List.set_cons_zero, List.set_cons_succ, Nat.reduceAdd, Nat.reduceMul, Nat.reduceSub, Nat.reduceLeDiff, Nat.zero_add, Nat.add_zero, Nat.zero_le, true_and, and_true, not_false_eq_true, ne_eq, Int.reduceNeg, Int.reduceEq, Int.reduceNe, Int.reduceLT, Int.reduceLE, le_refl', List.setIfInBounds_toArray, Nat.reduceLT, Array.size_setIfInBounds, if_true, if_false, reduceCtorEq, List.toArray_toList', List.drop_succ_cons, List.drop_zero, List.take_succ_cons, List.take_zero, List.nil_append, List.append_nil, List.cons_append, Bool.and_true, Bool.true_and, Bool.or_false, Bool.false_or, Bool.and_false, Bool.or_true, Bool.true_or, Bool.false_and, eq_self]
  try rw [decide_eq_false (by simp), pCond_false]
  refine sFresh_spec wn2 fun H3 va wn3 on3 o3 k3 => ?_
  rw [show max (0 : Int) (min (0 + (2 + (n : Int))) 40) = 2 + n by omega] at wn3
  refine sAck_spec hb.1 hb.2 wn3 (by rw [ahead_0 hf.1 hf.2]; omega) fun H4 wn4 on4 => ?_
  rw [ahead_0 hf.1 hf.2, Int.add_zero] at wn4
  generalize hA1 : without (ackF bits 0 (2 + (n : Int)) 0 (fun _ => false)).1 0 (0 + 1) = A1 at wn4
  have f0 : A1 0 = false := by rw [← hA1]; simp [without]
  have f1 : ∀ i : Nat, i < n + 1 → A1 (1 + (i : Int)) = bitAt bits i := by
    intro i hi
    rw [← hA1]
    unfold without ackF
    rw [places_none (Int.le_refl 0)]
    rw [marks_at]
    rw [decide_eq_false (p := 0 ≤ 1 + (i : Int) ∧ 1 + (i : Int) < 0 + 1) (by omega)]
    simp only [marks, List.foldl_nil, Bool.false_or, Bool.not_false, Bool.and_true]
    rw [Bool.eq_iff_iff]
    simp only [decide_eq_true_eq, mem_bitL]
    constructor
    · rintro ⟨_, _, j, h1, h2, h3⟩
      have : j = i := by omega
      rw [← this]; exact h2
    · intro h'
      exact ⟨by omega, by omega, i, by omega, h', by omega⟩
  have on24 := on3.trans on4
  refine ⟨fun t u H' => ∃ j : Nat, u = .int .i64 j ∧ t = .int .i64 (cnt bits j : Nat) ∧ j ≤ n + 1 ∧ H4 = H', fun _ u _ => match u with | .int _ i => (100 - i).toNat | _ => 0, ⟨0, rfl, rfl, by omega, rfl⟩, ?_⟩
  rintro _ _ _ _ ⟨j, rfl, rfl, hj, rfl⟩
  have hcj := cnt_le bits j
  simp only [pPick_v, pNil_v, pNil_f, pAdd_v, pSub_v, pMul_v, pAdd_s, pQuo_v, pRem_v, pBits_v, pShl_v, pShr_v, pLt_v, pLe_v, pGt_v, pGe_v, pEq_0, pNe_0, pEq_1, pNe_1, pEq_2, pNe_2, pEq_3n, pNe_3n, pEq_3s, pNe_3s, pEq_3t, pNe_3t, pEq_5n, pNe_5n, pEq_5s, pNe_5s, pEq_5t, pNe_5t, pEq_4n, pNe_4n, pEq_4s, pNe_4s, pNot_v, pNeg_v, pCom_v, pConv_v, pConvS_v, pMin_v, pMax_v, pFieldAddr_v, pField1_v, pFieldN_v, pExtract_v, pIdxArr_v, pIdxSl_v, pIdxStr_v, pBounds_00, pBounds_10, pBounds_01, pBounds_11, pSlStr_v, pSlSl_v, pSlArr_v, pLenS_v, pLen_v, pCap_v, pBuild_n, pBuild_c, cells_int, cells_str, cells_bool, cells_ptr, cells_slice, cells_map, cells_agg, oneCell_int, oneCell_str, oneCell_bool, oneCell_ptr, oneCell_slice, oneCell_map, putL_cons, putL_nil, pAnd_pure, pOr_pure, pAnd_pureE, pOr_pureE, pAnd_false, pOr_true, pCond_true, pCond_false, add_mk, bys_mk, bys_size, cond_true, cond_false, decide_true, decide_false, decide_not', dec_and, dec_or, dec_eqt, Bool.not_true, Bool.not_false, Option.isNone_none, Option.isNone_some, Option.map_some, Option.map_none, List.getElem?_toArray, List.getElem?_cons_zero, List.getElem?_cons_succ, List.size_toArray, List.length_cons, List.length_nil, List.length_replicate, List.set_cons_zero, List.set_cons_succ, Nat.reduceAdd, Nat.reduceMul, Nat.reduceSub, Nat.reduceLeDiff, Nat.zero_add, Nat.add_zero, Nat.zero_le, true_and, and_true, not_false_eq_true, ne_eq, Int.reduceNeg, Int.reduceEq, Int.reduceNe, Int.reduceLT, Int.reduceLE, le_refl', List.setIfInBounds_toArray, Nat.reduceLT, Array.size_setIfInBounds, if_true, if_false, reduceCtorEq, List.toArray_toList', List.drop_succ_cons, List.drop_zero, List.take_succ_cons, List.take_zero, List.nil_append, List.append_nil, List.cons_append, Bool.and_true, Bool.true_and, Bool.or_false, Bool.false_or, Bool.and_false, Bool.or_true, Bool.true_or, Bool.false_and, eq_self]
  rw [w64 (n := 2 + (n : Int) - 1) (by omega) (by omega)]
  refine pCond_if (fun hc => ?_) (fun hc => ?_)
  · refine ⟨fun t H' => t = .int .i64 (cnt bits (j + 1) : Nat) ∧ H4 = H', ?_, ?_⟩
    · rintro _ _ _ ⟨rfl, rfl⟩
      simp only [pPick_v, pNil_v, pNil_f, pAdd_v, pSub_v, pMul_v, pAdd_s, pQuo_v, pRem_v, pBits_v, pShl_v, pShr_v, pLt_v, pLe_v, pGt_v, pGe_v, pEq_0, pNe_0, pEq_1, pNe_1, pEq_2, pNe_2, pEq_3n, pNe_3n, pEq_3s, pNe_3s, pEq_3t, pNe_3t, pEq_5n, pNe_5n, pEq_5s, pNe_5s, pEq_5t, pNe_5t, pEq_4n, pNe_4n, pEq_4s, pNe_4s, pNot_v, pNeg_v, pCom_v, pConv_v, pConvS_v, pMin_v, pMax_v, pFieldAddr_v, pField1_v, pFieldN_v, pExtract_v, pIdxArr_v, pIdxSl_v, pIdxStr_v, pBounds_00, pBounds_10, pBounds_01, pBounds_11, pSlStr_v, pSlSl_v, pSlArr_v, pLenS_v, pLen_v, pCap_v, pBuild_n, pBuild_c, cells_int, cells_str, cells_bool, cells_ptr, cells_slice, cells_map, cells_agg, oneCell_int, oneCell_str, oneCell_bool, oneCell_ptr, oneCell_slice, oneCell_map, putL_cons, putL_nil, pAnd_pure, pOr_pure, pAnd_pureE, pOr_pureE, pAnd_false, pOr_true, pCond_true, pCond_false, add_mk, bys_mk, bys_size, cond_true, cond_false, decide_true, decide_false, decide_not', dec_and, dec_or, dec_eqt, Bool.not_true, Bool.not_false, Option.isNone_none, Option.isNone_some, Option.map_some, Option.map_none, List.getElem?_toArray, List.getElem?_cons_zero, List.getElem?_cons_succ, List.size_toArray, List.length_cons, List.length_nil, List.length_replicate, List.set_cons_zero, List.set_cons_succ, Nat.reduceAdd, Nat.reduceMul, Nat.reduceSub, Nat.reduceLeDiff, Nat.zero_add, Nat.add_zero, Nat.zero_le, true_and, and_true, not_false_eq_true, ne_eq, Int.reduceNeg, Int.reduceEq, Int.reduceNe, Int.reduceLT, Int.reduceLE, le_refl', List.setIfInBounds_toArray, Nat.reduceLT, Array.size_setIfInBounds, if_true, if_false, reduceCtorEq, List.toArray_toList', List.drop_succ_cons, List.drop_zero, List.take_succ_cons, List.take_zero, List.nil_append, List.append_nil, List.cons_append, Bool.and_true, Bool.true_and, Bool.or_false, Bool.false_or, Bool.and_false, Bool.or_true, Bool.true_or, Bool.false_and, eq_self]
      rw [w64 (by omega) (by omega)]
      exact ⟨⟨j + 1, rfl, rfl, by omega⟩, by show (_ : Int).toNat < (_ : Int).toNat; omega⟩
    · have hmin : min ((j : Int)).toNat IntKind.u32.bits = j := by
        show min ((j : Int)).toNat 32 = j
        omega
      have hP : (0 : Int) < 2 ^ j := Int.pow_pos (by decide)
      have hq0 : 0 ≤ bits / 2 ^ j := Int.ediv_nonneg hb.1 (by omega)
      have hq1 : bits / 2 ^ j ≤ bits := Int.ediv_le_self _ hb.1
      refine ⟨by omega, ?_⟩
      rw [hmin, Int.fdiv_eq_ediv_of_nonneg _ (by omega), and1_u32 hq0 (by omega)]
      refine pCond_b (fun hbt => ?_) (fun hbt => ?_)
      · rw [w64 (by omega) (by omega)]
        refine ⟨?_, rfl⟩
        rw [cnt, show bitAt bits j = true from hbt]; rfl
      · refine ⟨?_, rfl⟩
        rw [cnt, show bitAt bits j = false from hbt]; rfl
  have hjn : j = n + 1 := by omega
  subst hjn
  have hc1 := open_cnt f0 (n + 1) f1
  refine sOpen_spec wn4 fun H5 vo e5 o5 k5 => ?_
  have hlen : (numsL first (openP A1 0 (2 + (n : Int)))).length = n + 2 - cnt bits (n + 1) := by
    unfold numsL
    rw [List.length_map, show (2 : Int) + n = ((n + 1 : Nat) : Int) + 1 by omega]; omega
  refine (o5.sl (by decide)).len (n := n + 2 - cnt bits (n + 1)) (by rw [hlen]; omega) (by decide) ?_
  simp only [pPick_v, pNil_v, pNil_f, pAdd_v, pSub_v, pMul_v, pAdd_s, pQuo_v, pRem_v, pBits_v, pShl_v, pShr_v, pLt_v, pLe_v, pGt_v, pGe_v, pEq_0, pNe_0, pEq_1, pNe_1, pEq_2, pNe_2, pEq_3n, pNe_3n, pEq_3s, pNe_3s, pEq_3t, pNe_3t, pEq_5n, pNe_5n, pEq_5s, pNe_5s, pEq_5t, pNe_5t, pEq_4n, pNe_4n, pEq_4s, pNe_4s, pNot_v, pNeg_v, pCom_v, pConv_v, pConvS_v, pMin_v, pMax_v, pFieldAddr_v, pField1_v, pFieldN_v, pExtract_v, pIdxArr_v, pIdxSl_v, pIdxStr_v, pBounds_00, pBounds_10, pBounds_01, pBounds_11, pSlStr_v, pSlSl_v, pSlArr_v, pLenS_v, pLen_v, pCap_v, pBuild_n, pBuild_c, cells_int, cells_str, cells_bool, cells_ptr, cells_slice, cells_map, cells_agg, oneCell_int, oneCell_str, oneCell_bool, oneCell_ptr, oneCell_slice, oneCell_map, putL_cons, putL_nil, pAnd_pure, pOr_pure, pAnd_pureE, pOr_pureE, pAnd_false, pOr_true, pCond_true, pCond_false, add_mk, bys_mk, bys_size, cond_true, cond_false, decide_true, decide_false, decide_not', dec_and, dec_or, dec_eqt, Bool.not_true, Bool.not_false, Option.isNone_none, Option.isNone_some, Option.map_some, Option.map_none, List.getElem?_toArray, List.getElem?_cons_zero, List.getElem?_cons_succ, List.size_toArray, List.length_cons, List.length_nil, List.length_replicate, List.set_cons_zero, List.set_cons_succ, Nat.reduceAdd, Nat.reduceMul, Nat.reduceSub, Nat.reduceLeDiff, Nat.zero_add, Nat.add_zero, Nat.zero_le, true_and, and_true, not_false_eq_true, ne_eq, Int.reduceNeg, Int.reduceEq, Int.reduceNe, Int.reduceLT, Int.reduceLE, le_refl', List.setIfInBounds_toArray, Nat.reduceLT, Array.size_setIfInBounds, if_true, if_false, reduceCtorEq, List.toArray_toList', List.drop_succ_cons, List.drop_zero, List.take_succ_cons, List.take_zero, List.nil_append, List.append_nil, List.cons_append, Bool.and_true, Bool.true_and, Bool.or_false, Bool.false_or, Bool.and_false, Bool.or_true, Bool.true_or, Bool.false_and, eq_self]
  rw [w64 (n := 2 + (n : Int) - ((cnt bits (n + 1) : Nat) : Int)) (by omega) (by omega), decide_eq_false (by omega)]
  refine pOr_false ?_
  have wn5 := wn4.ext e5
  refine sBase_spec wn5 ?_
  rw [numb_0 hf.1 hf.2]
  simp only [pPick_v, pNil_v, pNil_f, pAdd_v, pSub_v, pMul_v, pAdd_s, pQuo_v, pRem_v, pBits_v, pShl_v, pShr_v, pLt_v, pLe_v, pGt_v, pGe_v, pEq_0, pNe_0, pEq_1, pNe_1, pEq_2, pNe_2, pEq_3n, pNe_3n, pEq_3s, pNe_3s, pEq_3t, pNe_3t, pEq_5n, pNe_5n, pEq_5s, pNe_5s, pEq_5t, pNe_5t, pEq_4n, pNe_4n, pEq_4s, pNe_4s, pNot_v, pNeg_v, pCom_v, pConv_v, pConvS_v, pMin_v, pMax_v, pFieldAddr_v, pField1_v, pFieldN_v, pExtract_v, pIdxArr_v, pIdxSl_v, pIdxStr_v, pBounds_00, pBounds_10, pBounds_01, pBounds_11, pSlStr_v, pSlSl_v, pSlArr_v, pLenS_v, pLen_v, pCap_v, pBuild_n, pBuild_c, cells_int, cells_str, cells_bool, cells_ptr, cells_slice, cells_map, cells_agg, oneCell_int, oneCell_str, oneCell_bool, oneCell_ptr, oneCell_slice, oneCell_map, putL_cons, putL_nil, pAnd_pure, pOr_pure, pAnd_pureE, pOr_pureE, pAnd_false, pOr_true, pCond_true, pCond_false, add_mk, bys_mk, bys_size, cond_true, cond_false, decide_true, decide_false, decide_not', dec_and, dec_or, dec_eqt, Bool.not_true, Bool.not_false, Option.isNone_none, Option.isNone_some, Option.map_some, Option.map_none, List.getElem?_toArray, List.getElem?_cons_zero, List.getElem?_cons_succ, List.size_toArray, List.length_cons, List.length_nil, List.length_replicate, List.set_cons_zero, List.set_cons_succ, Nat.reduceAdd, Nat.reduceMul, Nat.reduceSub, Nat.reduceLeDiff, Nat.zero_add, Nat.add_zero, Nat.zero_le, true_and, and_true, not_false_eq_true, ne_eq, Int.reduceNeg, Int.reduceEq, Int.reduceNe, Int.reduceLT, Int.reduceLE, le_refl', List.setIfInBounds_toArray, Nat.reduceLT, Array.size_setIfInBounds, if_true, if_false, reduceCtorEq, List.toArray_toList', List.drop_succ_cons, List.drop_zero, List.take_succ_cons, List.take_zero, List.nil_append, List.append_nil, List.cons_append, Bool.and_true, Bool.true_and, Bool.or_false, Bool.false_or, Bool.and_false, Bool.or_true, Bool.true_or, Bool.false_and, eq_self]
  rw [decide_eq_false (by simp)]
  refine fun _ => ?_
  rw [pCond_false]
  refine sAck_spec (by decide) (by decide) wn5 (by rw [ahead_1 hf.1 hf.2]; omega) fun H6 wn6 on6 => ?_
  rw [ahead_1 hf.1 hf.2, Int.zero_add] at wn6
  generalize hA3 : without (ackF 0 0 (2 + (n : Int)) 1 A1).1 0 (1 + 1) = A3 at wn6
  have g1 : A3 1 = false := by rw [← hA3]; simp [without]
  have g2 : ∀ i : Nat, i < n → A3 (2 + (i : Int)) = bitAt bits (i + 1) := by
    intro i hi
    rw [← hA3, ← f1 (i + 1) (by omega)]
    unfold without ackF
    rw [bitL_none]
    show ((marks _ _ _ _).1 _ && _) = _
    rw [marks_at, decide_eq_false (p := 0 ≤ 2 + (i : Int) ∧ 2 + (i : Int) < 1 + 1) (by omega)]
    rw [show places 0 1 = [0] from rfl, marks_at, decide_eq_false (p := 0 ≤ 2 + (i : Int) ∧ 2 + (i : Int) < 2 + (n : Int) ∧ 2 + (i : Int) ∈ [0]) (by simp; omega), decide_eq_false (p := 0 ≤ 2 + (i : Int) ∧ 2 + (i : Int) < 2 + (n : Int) ∧ 2 + (i : Int) ∈ []) (by simp)]
    simp only [Bool.or_false, Bool.not_false, Bool.and_true]
    congr 1; omega
  have hc2 := open_cnt2 (bits := bits) g1 n g2
  obtain ⟨tl, htl⟩ := open_head g1 n
  refine sOpen_spec wn6 fun H7 vo2 e7 o7 k7 => ?_
  rw [show (2 : Int) + n = (n : Int) + 2 by omega] at o7
  rw [w64 (n := 2 + (n : Int) - 1 - ((cnt bits (n + 1) : Nat) : Int)) (by omega) (by omega), and1_u32 hb.1 hb.2]
  have wn7 := wn6.ext e7
  have x7 : Ext H H7 := (((on24.ext e2 hbb hrr).trans e5) |> fun x => on6.ext x hbb hrr).trans e7 |> fun x => x1.trans x
  refine ⟨fun l H' => l = .int .i64 (openP A3 1 ((n : Int) + 2)).length ∧ H7 = H', ?_, ?_⟩
  · rintro _ _ _ ⟨rfl, rfl⟩
    refine sBase_spec wn7 ?_
    rw [numb_1]
    have hS7 := o7.sl (by decide)
    simp only [pPick_v, pNil_v, pNil_f, pAdd_v, pSub_v, pMul_v, pAdd_s, pQuo_v, pRem_v, pBits_v, pShl_v, pShr_v, pLt_v, pLe_v, pGt_v, pGe_v, pEq_0, pNe_0, pEq_1, pNe_1, pEq_2, pNe_2, pEq_3n, pNe_3n, pEq_3s, pNe_3s, pEq_3t, pNe_3t, pEq_5n, pNe_5n, pEq_5s, pNe_5s, pEq_5t, pNe_5t, pEq_4n, pNe_4n, pEq_4s, pNe_4s, pNot_v, pNeg_v, pCom_v, pConv_v, pConvS_v, pMin_v, pMax_v, pFieldAddr_v, pField1_v, pFieldN_v, pExtract_v, pIdxArr_v, pIdxSl_v, pIdxStr_v, pBounds_00, pBounds_10, pBounds_01, pBounds_11, pSlStr_v, pSlSl_v, pSlArr_v, pLenS_v, pLen_v, pCap_v, pBuild_n, pBuild_c, cells_int, cells_str, cells_bool, cells_ptr, cells_slice, cells_map, cells_agg, oneCell_int, oneCell_str, oneCell_bool, oneCell_ptr, oneCell_slice, oneCell_map, putL_cons, putL_nil, pAnd_pure, pOr_pure, pAnd_pureE, pOr_pureE, pAnd_false, pOr_true, pCond_true, pCond_false, add_mk, bys_mk, bys_size, cond_true, cond_false, decide_true, decide_false, decide_not', dec_and, dec_or, dec_eqt, Bool.not_true, Bool.not_false, Option.isNone_none, Option.isNone_some, Option.map_some, Option.map_none, List.getElem?_toArray, List.getElem?_cons_zero, List.getElem?_cons_succ, List.size_toArray, List.length_cons, List.length_nil, List.length_replicate, List.set_cons_zero, List.set_cons_succ, Nat.reduceAdd, Nat.reduceMul, Nat.reduceSub, Nat.reduceLeDiff, Nat.zero_add, Nat.add_zero, Nat.zero_le, true_and, and_true, not_false_eq_true, ne_eq, Int.reduceNeg, Int.reduceEq, Int.reduceNe, Int.reduceLT, Int.reduceLE, le_refl', List.setIfInBounds_toArray, Nat.reduceLT, Array.size_setIfInBounds, if_true, if_false, reduceCtorEq, List.toArray_toList', List.drop_succ_cons, List.drop_zero, List.take_succ_cons, List.take_zero, List.nil_append, List.append_nil, List.cons_append, Bool.and_true, Bool.true_and, Bool.or_false, Bool.false_or, Bool.and_false, Bool.or_true, Bool.true_or, Bool.false_and, eq_self]
    refine pAnd_true ?_
    refine hS7.len (n := (openP A3 1 ((n : Int) + 2)).length) (by simp [numsL]) (by decide) ?_
    simp only [pPick_v, pNil_v, pNil_f, pAdd_v, pSub_v, pMul_v, pAdd_s, pQuo_v, pRem_v, pBits_v, pShl_v, pShr_v, pLt_v, pLe_v, pGt_v, pGe_v, pEq_0, pNe_0, pEq_1, pNe_1, pEq_2, pNe_2, pEq_3n, pNe_3n, pEq_3s, pNe_3s, pEq_3t, pNe_3t, pEq_5n, pNe_5n, pEq_5s, pNe_5s, pEq_5t, pNe_5t, pEq_4n, pNe_4n, pEq_4s, pNe_4s, pNot_v, pNeg_v, pCom_v, pConv_v, pConvS_v, pMin_v, pMax_v, pFieldAddr_v, pField1_v, pFieldN_v, pExtract_v, pIdxArr_v, pIdxSl_v, pIdxStr_v, pBounds_00, pBounds_10, pBounds_01, pBounds_11, pSlStr_v, pSlSl_v, pSlArr_v, pLenS_v, pLen_v, pCap_v, pBuild_n, pBuild_c, cells_int, cells_str, cells_bool, cells_ptr, cells_slice, cells_map, cells_agg, oneCell_int, oneCell_str, oneCell_bool, oneCell_ptr, oneCell_slice, oneCell_map, putL_cons, putL_nil, pAnd_pure, pOr_pure, pAnd_pureE, pOr_pureE, pAnd_false, pOr_true, pCond_true, pCond_false, add_mk, bys_mk, bys_size, cond_true, cond_false, decide_true, decide_false, decide_not', dec_and, dec_or, dec_eqt, Bool.not_true, Bool.not_false, Option.isNone_none, Option.isNone_some, Option.map_some, Option.map_none, List.getElem?_toArray, List.getElem?_cons_zero, List.getElem?_cons_succ, List.size_toArray, List.length_cons, List.length_nil, List.length_replicate, List.set_cons_zero, List.set_cons_succ, Nat.reduceAdd, Nat.reduceMul, Nat.reduceSub, Nat.reduceLeDiff, Nat.zero_add, Nat.add_zero, Nat.zero_le, true_and, and_true, not_false_eq_true, ne_eq, Int.reduceNeg, Int.reduceEq, Int.reduceNe, Int.reduceLT, Int.reduceLE, le_refl', List.setIfInBounds_toArray, Nat.reduceLT, Array.size_setIfInBounds, if_true, if_false, reduceCtorEq, List.toArray_toList', List.drop_succ_cons, List.drop_zero, List.take_succ_cons, List.take_zero, List.nil_append, List.append_nil, List.cons_append, Bool.and_true, Bool.true_and, Bool.or_false, Bool.false_or, Bool.and_false, Bool.or_true, Bool.true_or, Bool.false_and, eq_self]
    refine fun _ => pAnd_true ?_
    refine hS7.idx (n := (openP A3 1 ((n : Int) + 2)).length) (by simp [numsL]) (by decide) (by decide) (by rw [htl]; simp) fun a ha => ?_
    refine ha.load (v := .int .u32 (numb first 1)) (by rw [htl]; rfl) ?_
    rw [numb_1]
    simp only [pPick_v, pNil_v, pNil_f, pAdd_v, pSub_v, pMul_v, pAdd_s, pQuo_v, pRem_v, pBits_v, pShl_v, pShr_v, pLt_v, pLe_v, pGt_v, pGe_v, pEq_0, pNe_0, pEq_1, pNe_1, pEq_2, pNe_2, pEq_3n, pNe_3n, pEq_3s, pNe_3s, pEq_3t, pNe_3t, pEq_5n, pNe_5n, pEq_5s, pNe_5s, pEq_5t, pNe_5t, pEq_4n, pNe_4n, pEq_4s, pNe_4s, pNot_v, pNeg_v, pCom_v, pConv_v, pConvS_v, pMin_v, pMax_v, pFieldAddr_v, pField1_v, pFieldN_v, pExtract_v, pIdxArr_v, pIdxSl_v, pIdxStr_v, pBounds_00, pBounds_10, pBounds_01, pBounds_11, pSlStr_v, pSlSl_v, pSlArr_v, pLenS_v, pLen_v, pCap_v, pBuild_n, pBuild_c, cells_int, cells_str, cells_bool, cells_ptr, cells_slice, cells_map, cells_agg, oneCell_int, oneCell_str, oneCell_bool, oneCell_ptr, oneCell_slice, oneCell_map, putL_cons, putL_nil, pAnd_pure, pOr_pure, pAnd_pureE, pOr_pureE, pAnd_false, pOr_true, pCond_true, pCond_false, add_mk, bys_mk, bys_size, cond_true, cond_false, decide_true, decide_false, decide_not', dec_and, dec_or, dec_eqt, Bool.not_true, Bool.not_false, Option.isNone_none, Option.isNone_some, Option.map_some, Option.map_none, List.getElem?_toArray, List.getElem?_cons_zero, List.getElem?_cons_succ, List.size_toArray, List.length_cons, List.length_nil, List.length_replicate, List.set_cons_zero, List.set_cons_succ, Nat.reduceAdd, Nat.reduceMul, Nat.reduceSub, Nat.reduceLeDiff, Nat.zero_add, Nat.add_zero, Nat.zero_le, true_and, and_true, not_false_eq_true, ne_eq, Int.reduceNeg, Int.reduceEq, Int.reduceNe, Int.reduceLT, Int.reduceLE, le_refl', List.setIfInBounds_toArray, Nat.reduceLT, Array.size_setIfInBounds, if_true, if_false, reduceCtorEq, List.toArray_toList', List.drop_succ_cons, List.drop_zero, List.take_succ_cons, List.take_zero, List.nil_append, List.append_nil, List.cons_append, Bool.and_true, Bool.true_and, Bool.or_false, Bool.false_or, Bool.and_false, Bool.or_true, Bool.true_or, Bool.false_and, eq_self]
    refine fun _ => pAnd_true ?_
    refine sFresh_spec wn7 fun H8 v8 wn8 on8 o8 k8 => ?_
    rw [show max (2 + (n : Int)) (min (1 + (2 + (n : Int))) 40) = (2 + (n : Int)) + 1 by omega] at o8
    refine (o8.sl (by decide)).len (n := 1) (by simp [numsL, places_len]; omega) (by decide) ?_
    simp only [pPick_v, pNil_v, pNil_f, pAdd_v, pSub_v, pMul_v, pAdd_s, pQuo_v, pRem_v, pBits_v, pShl_v, pShr_v, pLt_v, pLe_v, pGt_v, pGe_v, pEq_0, pNe_0, pEq_1, pNe_1, pEq_2, pNe_2, pEq_3n, pNe_3n, pEq_3s, pNe_3s, pEq_3t, pNe_3t, pEq_5n, pNe_5n, pEq_5s, pNe_5s, pEq_5t, pNe_5t, pEq_4n, pNe_4n, pEq_4s, pNe_4s, pNot_v, pNeg_v, pCom_v, pConv_v, pConvS_v, pMin_v, pMax_v, pFieldAddr_v, pField1_v, pFieldN_v, pExtract_v, pIdxArr_v, pIdxSl_v, pIdxStr_v, pBounds_00, pBounds_10, pBounds_01, pBounds_11, pSlStr_v, pSlSl_v, pSlArr_v, pLenS_v, pLen_v, pCap_v, pBuild_n, pBuild_c, cells_int, cells_str, cells_bool, cells_ptr, cells_slice, cells_map, cells_agg, oneCell_int, oneCell_str, oneCell_bool, oneCell_ptr, oneCell_slice, oneCell_map, putL_cons, putL_nil, pAnd_pure, pOr_pure, pAnd_pureE, pOr_pureE, pAnd_false, pOr_true, pCond_true, pCond_false, add_mk, bys_mk, bys_size, cond_true, cond_false, decide_true, decide_false, decide_not', dec_and, dec_or, dec_eqt, Bool.not_true, Bool.not_false, Option.isNone_none, Option.isNone_some, Option.map_some, Option.map_none, List.getElem?_toArray, List.getElem?_cons_zero, List.getElem?_cons_succ, List.size_toArray, List.length_cons, List.length_nil, List.length_replicate, List.set_cons_zero, List.set_cons_succ, Nat.reduceAdd, Nat.reduceMul, Nat.reduceSub, Nat.reduceLeDiff, Nat.zero_add, Nat.add_zero, Nat.zero_le, true_and, and_true, not_false_eq_true, ne_eq, Int.reduceNeg, Int.reduceEq, Int.reduceNe, Int.reduceLT, Int.reduceLE, le_refl', List.setIfInBounds_toArray, Nat.reduceLT, Array.size_setIfInBounds, if_true, if_false, reduceCtorEq, List.toArray_toList', List.drop_succ_cons, List.drop_zero, List.take_succ_cons, List.take_zero, List.nil_append, List.append_nil, List.cons_append, Bool.and_true, Bool.true_and, Bool.or_false, Bool.false_or, Bool.and_false, Bool.or_true, Bool.true_or, Bool.false_and, eq_self]
    exact fun _ => ⟨rfl, on8.ext x7 (by have := x1.size; omega) (by have := x1.size; omega)⟩
  · refine pCond_b (fun hbt => ?_) (fun hbt => ?_)
    · have hb0 : bitAt bits 0 = true := by unfold bitAt; simpa using hbt
      rw [hb0] at hc2
      rw [w64 (by omega) (by omega)]
      refine ⟨?_, rfl⟩
      congr 1
      simp only [cond_true] at hc2
      omega
    · have hb0 : bitAt bits 0 = false := by unfold bitAt; simpa using hbt
      rw [hb0] at hc2
      refine ⟨?_, rfl⟩
      congr 1
      simp only [cond_false] at hc2
      omega
end Go.Proofs.Ytmolkhfohpfhaaa
