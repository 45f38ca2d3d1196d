/- The law SendEnds over heaps. -/
import Derived.Test.YtmolkhfohpfhaaaLaw24b
import Derived.Test.YtmolkhfohpfhaaaBitNat
import Derived.Test.YtmolkhfohpfhaaaVcOpen
namespace Go.Proofs.Ytmolkhfohpfhaaa
open Go Go.Vc Go.Proofs
set_option linter.unusedVariables false
set_option linter.unusedSimpArgs false
variable {H : Heap} {R : Value → Heap → Prop}
/-! ### open places -/
theorem places_left {lo hi : Int} (h : lo < hi) : places lo hi = lo :: places (lo + 1) hi := by
  unfold places
  obtain ⟨n, hn⟩ : ∃ n : Nat, hi = lo + 1 + n := ⟨(hi - lo - 1).toNat, by omega⟩
  subst hn
  rw [show (lo + 1 + (n : Int) - lo).toNat = n + 1 by omega, show (lo + 1 + (n : Int) - (lo + 1)).toNat = n by omega, List.range_succ_eq_map, List.map_cons, List.map_map]
  congr 1
  · omega
  · apply List.map_congr_left
    intro i _
    simp only [Function.comp]
    omega
theorem openP_left {A : Int → Bool} {lo hi : Int} (h : lo < hi) : openP A lo hi = (bif A lo then [] else [lo]) ++ openP A (lo + 1) hi := by
  unfold openP
  rw [places_left h]
  cases hA : A lo <;> simp [hA]
theorem mem_places {lo hi k : Int} : k ∈ places lo hi ↔ lo ≤ k ∧ k < hi := by
  unfold places
  simp only [List.mem_map, List.mem_range]
  constructor
  · rintro ⟨j, h1, h2⟩; omega
  · rintro ⟨h1, h2⟩; exact ⟨(k - lo).toNat, by omega, by omega⟩
theorem mem_openP {A : Int → Bool} {lo hi k : Int} : k ∈ openP A lo hi ↔ (lo ≤ k ∧ k < hi) ∧ A k = false := by
  unfold openP
  rw [List.mem_filter, mem_places]
  simp
theorem openP_congr {A B : Int → Bool} {lo hi : Int} (h : ∀ k, lo ≤ k → k < hi → A k = B k) : openP A lo hi = openP B lo hi := by
  unfold openP
  apply List.filter_congr
  intro k hk
  have := mem_places.1 hk
  rw [h k this.1 this.2]
theorem openP_split {A : Int → Bool} {lo mid : Int} (h1 : lo ≤ mid) : ∀ n : Nat, openP A lo (mid + n) = openP A lo mid ++ openP A mid (mid + n)
  | 0 => by
    rw [show mid + ((0 : Nat) : Int) = mid by omega]
    simp [openP, places_none (Int.le_refl mid)]
  | n + 1 => by
    rw [show mid + ((n + 1 : Nat) : Int) = (mid + n) + 1 by omega, openP_succ (by omega), openP_succ (by omega), openP_split h1 n, List.append_assoc]
/-- one more is told: one less is open -/
theorem openP_tell {A : Int → Bool} {lo hi j : Int} (h1 : lo ≤ j) (h2 : j < hi) (hA : A j = false) : (openP A lo hi).length = (openP (fun k => bif decide (k = j) then true else A k) lo hi).length + 1 := by
  obtain ⟨n, hn⟩ : ∃ n : Nat, hi = j + n := ⟨(hi - j).toNat, by omega⟩
  subst hn
  rw [openP_split h1, openP_split h1, List.length_append, List.length_append, openP_left (A := A) (lo := j) (by omega), openP_left (A := fun k => bif decide (k = j) then true else A k) (lo := j) (by omega)]
  rw [openP_congr (A := A) (B := fun k => bif decide (k = j) then true else A k) (lo := lo) (hi := j) fun k h3 h4 => by rw [decide_eq_false (by omega)]; rfl]
  rw [openP_congr (A := A) (B := fun k => bif decide (k = j) then true else A k) (lo := j + 1) fun k h3 h4 => by rw [decide_eq_false (by omega)]; rfl]
  simp only [hA, decide_true, cond_true, cond_false, List.length_append, List.length_nil, List.length_singleton]
  omega
/-! ### an acknowledgement of one number -/
theorem numb_eq {first i j : Int} : numb first i = (first + i) % 4294967296 := by
  unfold numb; rw [wu32_mod, wu32_mod]; omega
theorem ahead_self {first base : Int} : ahead first base (numb first base) = 0 := by
  unfold ahead; rw [Int.sub_self]; decide
theorem ahead_succ {first base : Int} : ahead first base (IntKind.u32.wrap (numb first base + 1)) = 1 := by
  unfold ahead; rw [numb_eq (j := 0), wu32_mod, wu32_mod]; omega
theorem ack_next {base next : Int} {A : Int → Bool} (h0 : ∀ k, A k = true → base < k ∧ k < next) (k : Int) :
    without (ackF 0 base next (base + 1) A).1 base (base + 1 + 1) k = (A k && decide (base + 2 ≤ k)) := by
  unfold without ackF
  rw [bitL_none, show marks base next (marks base next (A, false) (places base (base + 1))) [] = marks base next (A, false) (places base (base + 1)) from rfl, marks_at]
  rw [Bool.eq_iff_iff]
  simp only [Bool.and_eq_true, Bool.or_eq_true, decide_eq_true_eq, mem_places, Bool.not_eq_true', decide_eq_false_iff_not]
  constructor
  · rintro ⟨h | h, h'⟩
    · have := h0 k h; exact ⟨h, by omega⟩
    · omega
  · rintro ⟨h, h'⟩
    exact ⟨.inl h, by omega⟩
theorem bitAt_pow {p k : Nat} : bitAt (2 ^ p) k = decide (k = p) := by
  unfold bitAt
  rw [Bool.eq_iff_iff, decide_eq_true_eq, decide_eq_true_eq]
  have e : ((2 : Int) ^ p / 2 ^ k % 2) = ((2 ^ p / 2 ^ k % 2 : Nat) : Int) := by
    rw [Int.natCast_emod, Int.natCast_ediv, Int.natCast_pow, Int.natCast_pow]; rfl
  rw [e]
  have h : (2 ^ p / 2 ^ k % 2 = 1) ↔ k = p := by
    have h1 : Nat.testBit (2 ^ p) k = decide (p = k) := Nat.testBit_two_pow
    rw [Nat.testBit_eq_decide_div_mod_eq] at h1
    have := congrArg (fun b => b = true) h1
    simp only [decide_eq_true_eq, eq_iff_iff] at this
    rw [this]
    exact eq_comm
  omega
theorem ack_bit {base next : Int} {A : Int → Bool} {p : Nat} (hp : p < 32) (hn : base + 1 + p < next) (h0 : ∀ k, A k = true → base < k ∧ k < next) (k : Int) :
    without (ackF (2 ^ p) base next base A).1 base (base + 1) k = (bif decide (k = base + 1 + p) then true else A k) := by
  unfold without ackF
  rw [places_none (Int.le_refl base), show marks base next (A, false) [] = (A, false) from rfl, marks_at]
  by_cases hk : k = base + 1 + p
  · subst hk
    rw [decide_eq_true rfl, decide_eq_true (p := base ≤ base + 1 + (p : Int) ∧ base + 1 + (p : Int) < next ∧ base + 1 + (p : Int) ∈ bitL (2 ^ p) base 32) ⟨by omega, hn, mem_bitL.2 ⟨p, hp, by rw [bitAt_pow]; simp, rfl⟩⟩, decide_eq_false (by omega)]
    simp
  · rw [decide_eq_false hk, cond_false, decide_eq_false (p := base ≤ k ∧ k < next ∧ k ∈ bitL (2 ^ p) base 32)]
    · rw [Bool.or_false]
      show (A k && _) = A k
      cases hA : A k with
      | false => rfl
      | true =>
        have := h0 k hA
        rw [decide_eq_false (by omega)]; rfl
    · rintro ⟨_, _, h⟩
      obtain ⟨j, h1, h2, h3⟩ := mem_bitL.1 h
      rw [bitAt_pow, decide_eq_true_eq] at h2
      exact hk (by rw [h3, h2])
/-! ### what was sent -/
/-- all places ahead of one are sent once -/
def sentM (first next : Int) : Int → Option Value := fun n => if 0 ≤ n ∧ n ≤ 4294967295 ∧ (n - first) % 4294967296 < next then some (.int .i64 1) else none
theorem sentM_step {first q : Int} (h0 : 0 ≤ first) (h1 : first ≤ 4294967295) (hq : 0 ≤ q) (hq1 : q ≤ 100) : mset (intKeys .u32) (sentM first q) (numb first q) (some (.int .i64 1)) = sentM first (q + 1) := by
  funext n
  rw [numb_eq (j := 0)]
  by_cases hn : n = (first + q) % 4294967296
  · subst hn
    rw [mset_self]
    unfold sentM
    rw [if_pos (by omega)]
  · rw [mset_ne _ hn]
    unfold sentM
    by_cases h : 0 ≤ n ∧ n ≤ 4294967295 ∧ (n - first) % 4294967296 < q
    · rw [if_pos h, if_pos (by omega)]
    · rw [if_neg h, if_neg (by omega)]
theorem sentM_none (first : Int) : sentM first 0 = fun _ => none := by
  funext n
  unfold sentM
  rw [if_neg (by omega)]
theorem sentM_new {first q : Int} (h0 : 0 ≤ first) (h1 : first ≤ 4294967295) (hq : 0 ≤ q) (hq1 : q ≤ 100) : sentM first q (numb first q) = none := by
  unfold sentM
  rw [numb_eq (j := 0), if_neg (by omega)]
theorem len_of_same {α : Type} {l m : List α} (hl : l.Nodup) (hm : m.Nodup) (h : ∀ a, a ∈ l ↔ a ∈ m) : l.length = m.length :=
  ((List.perm_ext_iff_of_nodup hl hm).2 h).length_eq
theorem nodup_map {α β : Type} {f : α → β} : ∀ {l : List α}, (∀ x, x ∈ l → ∀ y, y ∈ l → f x = f y → x = y) → l.Nodup → (l.map f).Nodup
  | [], _, _ => List.nodup_nil
  | a :: l, h, hn => by
    have hn' := List.nodup_cons.1 hn
    rw [List.map_cons, List.nodup_cons]
    refine ⟨fun hm => ?_, nodup_map (fun x hx y hy => h x (by simp [hx]) y (by simp [hy])) hn'.2⟩
    obtain ⟨b, hb, he⟩ := List.mem_map.1 hm
    exact hn'.1 (by rw [h a (by simp) b (by simp [hb]) he.symm]; exact hb)
theorem numb_inj {first i j : Int} (hi : 0 ≤ i) (hi1 : i ≤ 100000) (hj : 0 ≤ j) (hj1 : j ≤ 100000) (h : numb first i = numb first j) : i = j := by
  rw [numb_eq (j := 0), numb_eq (j := 0)] at h; omega
theorem fit2 {l : List Value} (hl : l.length = 2) (hf : FitAll (List.replicate 2 (.int .i64)) fun j => l[j]?) : ∃ a b : Int, l = [.int .i64 a, .int .i64 b] := by
  match l, hl with
  | [x, y], _ =>
    obtain ⟨_, h0, x0, rfl, k0⟩ := hf 0 _ rfl
    obtain ⟨_, h1, x1, rfl, k1⟩ := hf 1 _ rfl
    simp at h0 h1
    exact ⟨x0, x1, by rw [h0, h1]⟩
theorem mod_pick {z n : Int} (hn : 0 < n) : 0 ≤ (z.tmod n + n).tmod n ∧ (z.tmod n + n).tmod n < n := by
  have h1 : -n < z.tmod n := by
    have := Int.lt_tmod_of_pos z hn
    omega
  have h2 := Int.tmod_lt_of_pos z hn
  rw [Int.tmod_eq_emod_of_nonneg (by omega)]
  exact ⟨Int.emod_nonneg _ (by omega), Int.emod_lt_of_pos _ hn⟩
theorem tmod_range {z n : Int} (hn : 0 < n) : -n < z.tmod n ∧ z.tmod n < n := ⟨by have := Int.lt_tmod_of_pos z hn; omega, Int.tmod_lt_of_pos z hn⟩
/-- the sender's window in the law: no more than its size is under way; told are places behind the base -/
structure Ends (H0 H : Heap) (b r rm : Nat) (first count size base next : Int) (A : Int → Bool) : Prop where
  snd : Snd H b r first count size base next A
  ext : Ext H0 H
  hb : H0.size ≤ b
  hr : H0.size ≤ r
  hm : H0.size ≤ rm
  mb : rm ≠ b
  mr : rm ≠ r
  sent : MapAt (intKeys .u32) H rm (sentM first next)
  wide : next ≤ base + size
  told : ∀ k, A k = true → base < k ∧ k < next
theorem Ends.more {H0 H H' : Heap} {b r rm : Nat} {first count size base next : Int} {A : Int → Bool} (h : Ends H0 H b r rm first count size base next A) (hx : Ext H H') : Ends H0 H' b r rm first count size base next A :=
  { h with snd := h.snd.ext hx, ext := h.ext.trans hx, sent := h.sent.ext hx }
theorem numsL_at {first : Int} {l : List Int} {k : Nat} {j : Int} (h : l[k]? = some j) : (numsL first l)[k]? = some (.int .u32 (numb first j)) := by
  unfold numsL; rw [List.getElem?_map, h]; rfl
set_option maxHeartbeats 2000000 in
theorem SendEnds_law (first : Int) (l : List Value) (a : Option Addr) (len cap : Nat) (zs : List Int) (w0 : (Lit.int .u32 first).wf = true) (n1 : l.length = 2) (w1 : FitAll (List.replicate 2 (.int .i64)) fun j => l[j]?) (w2 : IntRow .i64 H a len cap zs) :
    CallsH Try.prog 6 #[.int .u32 first, .agg l.toArray, .slice a len cap] H (LawOk H) := by
  have hf := wfu32 w0
  have hmax : maxLen = 9223372036854775807 := rfl
  have hlen := w2.len_max
  obtain ⟨p, q, rfl⟩ := fit2 n1 w1
  refine lighterlaw24_SendEnds.vc _ _ _ _ _ ?_
  unfold lighterlaw24_SendEnds.res
  refine pBox_ext fun H1 s1 e1 b1 => ?_
  refine speaks24_spec fun H2 x2 => ?_
  have b2 := x2.blk b1
  simp only [pPick_v, pNil_v, pNil_f, pAdd_v, pSub_v, pMul_v, pAdd_s, pQuo_v, pRem_v, pBits_v, pShl_v, pShr_v, pLt_v, pLe_v, pGt_v, pGe_v, pEq_0, pNe_0, pEq_1, pNe_1, pEq_2, pNe_2, pEq_3n, pNe_3n, pEq_3s, pNe_3s, pEq_3t, pNe_3t, pEq_5n, pNe_5n, pEq_5s, pNe_5s, pEq_5t, pNe_5t, pEq_4n, pNe_4n, pEq_4s, pNe_4s, pNot_v, pNeg_v, pCom_v, pConv_v, pConvS_v, pMin_v, pMax_v, pFieldAddr_v, pField1_v, pFieldN_v, pExtract_v, pIdxArr_v, pIdxSl_v, pIdxStr_v, pBounds_00, pBounds_10, pBounds_01, pBounds_11, pSlStr_v, pSlSl_v, pSlArr_v, pLenS_v, pLen_v, pCap_v, pBuild_n, pBuild_c, cells_int, cells_str, cells_bool, cells_ptr, cells_slice, cells_map, cells_agg, oneCell_int, oneCell_str, oneCell_bool, oneCell_ptr, oneCell_slice, oneCell_map, putL_cons, putL_nil, pAnd_pure, pOr_pure, pAnd_pureE, pOr_pureE, pAnd_false, pOr_true, pCond_true, pCond_false, add_mk, bys_mk, bys_size, cond_true, cond_false, decide_true, decide_false, decide_not', dec_and, dec_or, dec_eqt, Bool.not_true, Bool.not_false, Option.isNone_none, Option.isNone_some, Option.map_some, Option.map_none, List.getElem?_toArray, List.getElem?_cons_zero, List.getElem?_cons_succ, List.size_toArray, List.length_cons, List.length_nil, List.length_replicate, List.set_cons_zero, List.set_cons_succ, Nat.reduceAdd, Nat.reduceMul, Nat.reduceSub, Nat.reduceLeDiff, Nat.zero_add, Nat.add_zero, Nat.zero_le, true_and, and_true, not_false_eq_true, ne_eq, Int.reduceNeg, Int.reduceEq, Int.reduceNe, Int.reduceLT, Int.reduceLE, le_refl', List.setIfInBounds_toArray, Nat.reduceLT, Array.size_setIfInBounds, if_true, if_false, reduceCtorEq, List.toArray_toList', List.drop_succ_cons, List.drop_zero, List.take_succ_cons, List.take_zero, List.nil_append, List.append_nil, List.cons_append, Bool.and_true, Bool.true_and, Bool.or_false, Bool.false_or, Bool.and_false, Bool.or_true, Bool.true_or, Bool.false_and, eq_self, pLoad_at b2, Int.reduceToNat, Int.cast_ofNat_Int]
  rw [and_low (k := 6) (m := 63) (n := p) (by decide) rfl, and_low (k := 5) (m := 31) (n := q) (by decide) rfl]
  have hp0 := Int.emod_nonneg p (show (2 : Int) ^ 6 ≠ 0 by decide)
  have hp1 := Int.emod_lt_of_pos p (show (0 : Int) < 2 ^ 6 by decide)
  have hq0 := Int.emod_nonneg q (show (2 : Int) ^ 5 ≠ 0 by decide)
  have hq1 := Int.emod_lt_of_pos q (show (0 : Int) < 2 ^ 5 by decide)
  generalize p % 2 ^ 6 = count at *
  rw [w64 (n := 1 + q % 2 ^ 5) (by omega) (by omega)]
  generalize hsz : 1 + q % 2 ^ 5 = size at *
  have hs0 : 1 ≤ size := by omega
  have hs1 : size ≤ 32 := by omega
  refine sNew_spec hf.1 hf.2 ⟨by omega, by omega, by omega, by omega⟩ fun H3 b r wn3 e3 hb hr => ?_
  simp only [pPick_v, pNil_v, pNil_f, pAdd_v, pSub_v, pMul_v, pAdd_s, pQuo_v, pRem_v, pBits_v, pShl_v, pShr_v, pLt_v, pLe_v, pGt_v, pGe_v, pEq_0, pNe_0, pEq_1, pNe_1, pEq_2, pNe_2, pEq_3n, pNe_3n, pEq_3s, pNe_3s, pEq_3t, pNe_3t, pEq_5n, pNe_5n, pEq_5s, pNe_5s, pEq_5t, pNe_5t, pEq_4n, pNe_4n, pEq_4s, pNe_4s, pNot_v, pNeg_v, pCom_v, pConv_v, pConvS_v, pMin_v, pMax_v, pFieldAddr_v, pField1_v, pFieldN_v, pExtract_v, pIdxArr_v, pIdxSl_v, pIdxStr_v, pBounds_00, pBounds_10, pBounds_01, pBounds_11, pSlStr_v, pSlSl_v, pSlArr_v, pLenS_v, pLen_v, pCap_v, pBuild_n, pBuild_c, cells_int, cells_str, cells_bool, cells_ptr, cells_slice, cells_map, cells_agg, oneCell_int, oneCell_str, oneCell_bool, oneCell_ptr, oneCell_slice, oneCell_map, putL_cons, putL_nil, pAnd_pure, pOr_pure, pAnd_pureE, pOr_pureE, pAnd_false, pOr_true, pCond_true, pCond_false, add_mk, bys_mk, bys_size, cond_true, cond_false, decide_true, decide_false, decide_not', dec_and, dec_or, dec_eqt, Bool.not_true, Bool.not_false, Option.isNone_none, Option.isNone_some, Option.map_some, Option.map_none, List.getElem?_toArray, List.getElem?_cons_zero, List.getElem?_cons_succ, List.size_toArray, List.length_cons, List.length_nil, List.length_replicate, List.set_cons_zero, List.set_cons_succ, Nat.reduceAdd, Nat.reduceMul, Nat.reduceSub, Nat.reduceLeDiff, Nat.zero_add, Nat.add_zero, Nat.zero_le, true_and, and_true, not_false_eq_true, ne_eq, Int.reduceNeg, Int.reduceEq, Int.reduceNe, Int.reduceLT, Int.reduceLE, le_refl', List.setIfInBounds_toArray, Nat.reduceLT, Array.size_setIfInBounds, if_true, if_false, reduceCtorEq, List.toArray_toList', List.drop_succ_cons, List.drop_zero, List.take_succ_cons, List.take_zero, List.nil_append, List.append_nil, List.cons_append, Bool.and_true, Bool.true_and, Bool.or_false, Bool.false_or, Bool.and_false, Bool.or_true, Bool.true_or, Bool.false_and, eq_self]
  refine map_make (intKeys .u32) fun H4 m4 e4 s4 => ?_
  have hH3 : H.size ≤ H3.size := by have := e1.size; have := x2.size; have := e3.size; omega
  have hHb : H.size ≤ b := by have := e1.size; have := x2.size; omega
  have hHr : H.size ≤ r := by have := e1.size; have := x2.size; omega
  have hb3 := lt_of_blk wn3.blk
  have hr3 := wn3.map.lt
  refine ⟨fun v H' => ∃ (i : Nat) (base next : Int) (A : Int → Bool), v = .int .i64 i ∧ i ≤ 200 ∧ Ends H H' b r H3.size first count size base next A ∧ (i : Int) + (openP A base next).length ≤ base + next,
    fun v _ => match v with | .int _ i => (200 - i).toNat | _ => 0, ⟨0, 0, 0, fun _ => false, rfl, by omega, ?_, ?_⟩, ?_⟩
  · refine ⟨wn3.ext e4, (((e1.trans x2).trans e3).trans e4), hHb, hHr, hH3, by omega, by omega, ?_, by omega, fun k hk => by cases hk⟩
    rw [sentM_none]; exact m4
  · rw [openP, places_none (Int.le_refl 0)]; simp
  rintro _ _ H5 ⟨i, base, next, A, rfl, hi, en5, hΦ⟩
  obtain ⟨_, _, _, f0, f1, c0, c1, s0, s1', bs0, bs1, nx1⟩ := id en5.snd
  have hol := openP_len A base next
  simp only [pPick_v, pNil_v, pNil_f, pAdd_v, pSub_v, pMul_v, pAdd_s, pQuo_v, pRem_v, pBits_v, pShl_v, pShr_v, pLt_v, pLe_v, pGt_v, pGe_v, pEq_0, pNe_0, pEq_1, pNe_1, pEq_2, pNe_2, pEq_3n, pNe_3n, pEq_3s, pNe_3s, pEq_3t, pNe_3t, pEq_5n, pNe_5n, pEq_5s, pNe_5s, pEq_5t, pNe_5t, pEq_4n, pNe_4n, pEq_4s, pNe_4s, pNot_v, pNeg_v, pCom_v, pConv_v, pConvS_v, pMin_v, pMax_v, pFieldAddr_v, pField1_v, pFieldN_v, pExtract_v, pIdxArr_v, pIdxSl_v, pIdxStr_v, pBounds_00, pBounds_10, pBounds_01, pBounds_11, pSlStr_v, pSlSl_v, pSlArr_v, pLenS_v, pLen_v, pCap_v, pBuild_n, pBuild_c, cells_int, cells_str, cells_bool, cells_ptr, cells_slice, cells_map, cells_agg, oneCell_int, oneCell_str, oneCell_bool, oneCell_ptr, oneCell_slice, oneCell_map, putL_cons, putL_nil, pAnd_pure, pOr_pure, pAnd_pureE, pOr_pureE, pAnd_false, pOr_true, pCond_true, pCond_false, add_mk, bys_mk, bys_size, cond_true, cond_false, decide_true, decide_false, decide_not', dec_and, dec_or, dec_eqt, Bool.not_true, Bool.not_false, Option.isNone_none, Option.isNone_some, Option.map_some, Option.map_none, List.getElem?_toArray, List.getElem?_cons_zero, List.getElem?_cons_succ, List.size_toArray, List.length_cons, List.length_nil, List.length_replicate, List.set_cons_zero, List.set_cons_succ, Nat.reduceAdd, Nat.reduceMul, Nat.reduceSub, Nat.reduceLeDiff, Nat.zero_add, Nat.add_zero, Nat.zero_le, true_and, and_true, not_false_eq_true, ne_eq, Int.reduceNeg, Int.reduceEq, Int.reduceNe, Int.reduceLT, Int.reduceLE, le_refl', List.setIfInBounds_toArray, Nat.reduceLT, Array.size_setIfInBounds, if_true, if_false, reduceCtorEq, List.toArray_toList', List.drop_succ_cons, List.drop_zero, List.take_succ_cons, List.take_zero, List.nil_append, List.append_nil, List.cons_append, Bool.and_true, Bool.true_and, Bool.or_false, Bool.false_or, Bool.and_false, Bool.or_true, Bool.true_or, Bool.false_and, eq_self]
  refine pAnd_if (d := decide (¬ base = count)) (fun _ => ?_) ?_
  · refine sDone_spec en5.snd ?_
    simp only [pPick_v, pNil_v, pNil_f, pAdd_v, pSub_v, pMul_v, pAdd_s, pQuo_v, pRem_v, pBits_v, pShl_v, pShr_v, pLt_v, pLe_v, pGt_v, pGe_v, pEq_0, pNe_0, pEq_1, pNe_1, pEq_2, pNe_2, pEq_3n, pNe_3n, pEq_3s, pNe_3s, pEq_3t, pNe_3t, pEq_5n, pNe_5n, pEq_5s, pNe_5s, pEq_5t, pNe_5t, pEq_4n, pNe_4n, pEq_4s, pNe_4s, pNot_v, pNeg_v, pCom_v, pConv_v, pConvS_v, pMin_v, pMax_v, pFieldAddr_v, pField1_v, pFieldN_v, pExtract_v, pIdxArr_v, pIdxSl_v, pIdxStr_v, pBounds_00, pBounds_10, pBounds_01, pBounds_11, pSlStr_v, pSlSl_v, pSlArr_v, pLenS_v, pLen_v, pCap_v, pBuild_n, pBuild_c, cells_int, cells_str, cells_bool, cells_ptr, cells_slice, cells_map, cells_agg, oneCell_int, oneCell_str, oneCell_bool, oneCell_ptr, oneCell_slice, oneCell_map, putL_cons, putL_nil, pAnd_pure, pOr_pure, pAnd_pureE, pOr_pureE, pAnd_false, pOr_true, pCond_true, pCond_false, add_mk, bys_mk, bys_size, cond_true, cond_false, decide_true, decide_false, decide_not', dec_and, dec_or, dec_eqt, Bool.not_true, Bool.not_false, Option.isNone_none, Option.isNone_some, Option.map_some, Option.map_none, List.getElem?_toArray, List.getElem?_cons_zero, List.getElem?_cons_succ, List.size_toArray, List.length_cons, List.length_nil, List.length_replicate, List.set_cons_zero, List.set_cons_succ, Nat.reduceAdd, Nat.reduceMul, Nat.reduceSub, Nat.reduceLeDiff, Nat.zero_add, Nat.add_zero, Nat.zero_le, true_and, and_true, not_false_eq_true, ne_eq, Int.reduceNeg, Int.reduceEq, Int.reduceNe, Int.reduceLT, Int.reduceLE, le_refl', List.setIfInBounds_toArray, Nat.reduceLT, Array.size_setIfInBounds, if_true, if_false, reduceCtorEq, List.toArray_toList', List.drop_succ_cons, List.drop_zero, List.take_succ_cons, List.take_zero, List.nil_append, List.append_nil, List.cons_append, Bool.and_true, Bool.true_and, Bool.or_false, Bool.false_or, Bool.and_false, Bool.or_true, Bool.true_or, Bool.false_and, eq_self]
  refine fun _ => pCond_b (fun hc => ?_) (fun hc => ?_)
  · simp only [Bool.and_eq_true, decide_eq_true_eq] at hc
    obtain ⟨hc1, hc2⟩ := hc
    have hbc : base < count := by omega
    refine ⟨fun H' => ∃ (base' next' : Int) (A' : Int → Bool), Ends H H' b r H3.size first count size base' next' A' ∧ ((i + 1 : Nat) : Int) + (openP A' base' next').length ≤ base' + next', ?_, ?_⟩
    · rintro _ H6 ⟨base', next', A', en6, hΦ6⟩
      rw [w64 (by omega) (by omega)]
      exact ⟨⟨i + 1, base', next', A', rfl, by omega, en6, hΦ6⟩, by show (_ : Int).toNat < (_ : Int).toNat; omega⟩
    refine sFresh_spec en5.snd fun H6 vf wn6 on6 o6 k6 => ?_
    generalize hnx : max next (min (base + size) count) = next' at *
    have hnx1 : next ≤ next' := by omega
    have hnx2 : base < next' := by omega
    have hnx3 : next' ≤ base + size := by have := en5.wide; omega
    have hnx4 : next' ≤ count := by omega
    have hm5 := en5.sent
    have hm5l := hm5.lt
    have hm6 : MapAt (intKeys .u32) H6 H3.size (sentM first next) := hm5.keep (on6.same _ hm5l en5.mb en5.mr)
    have x6 : Ext H H6 := on6.ext en5.ext hHb hHr
    have hplen : (numsL first (places next next')).length = (next' - next).toNat := by simp [numsL, places_len]
    refine (o6.sl (by decide)).len (n := (next' - next).toNat) (by rw [hplen]; omega) (by decide) ?_
    -- the numbers that are sent now are counted
    refine ⟨fun v H' => ∃ k : Nat, v = .int .i64 k ∧ (k : Int) ≤ next' - next ∧ Snd H' b r first count size base next' A ∧ Ext H H' ∧ MapAt (intKeys .u32) H' H3.size (sentM first (next + k)) ∧ Own H' vf 1 (numsL first (places next next')),
      fun v _ => match v with | .int _ k => (next' - next - k).toNat | _ => 0, ⟨0, rfl, by omega, wn6, x6, by rw [show next + ((0 : Nat) : Int) = next by omega]; exact hm6, o6⟩, ?_⟩
    rintro _ _ H7 ⟨k, rfl, hk, wn7, x7, m7, o7⟩
    simp only [pPick_v, pNil_v, pNil_f, pAdd_v, pSub_v, pMul_v, pAdd_s, pQuo_v, pRem_v, pBits_v, pShl_v, pShr_v, pLt_v, pLe_v, pGt_v, pGe_v, pEq_0, pNe_0, pEq_1, pNe_1, pEq_2, pNe_2, pEq_3n, pNe_3n, pEq_3s, pNe_3s, pEq_3t, pNe_3t, pEq_5n, pNe_5n, pEq_5s, pNe_5s, pEq_5t, pNe_5t, pEq_4n, pNe_4n, pEq_4s, pNe_4s, pNot_v, pNeg_v, pCom_v, pConv_v, pConvS_v, pMin_v, pMax_v, pFieldAddr_v, pField1_v, pFieldN_v, pExtract_v, pIdxArr_v, pIdxSl_v, pIdxStr_v, pBounds_00, pBounds_10, pBounds_01, pBounds_11, pSlStr_v, pSlSl_v, pSlArr_v, pLenS_v, pLen_v, pCap_v, pBuild_n, pBuild_c, cells_int, cells_str, cells_bool, cells_ptr, cells_slice, cells_map, cells_agg, oneCell_int, oneCell_str, oneCell_bool, oneCell_ptr, oneCell_slice, oneCell_map, putL_cons, putL_nil, pAnd_pure, pOr_pure, pAnd_pureE, pOr_pureE, pAnd_false, pOr_true, pCond_true, pCond_false, add_mk, bys_mk, bys_size, cond_true, cond_false, decide_true, decide_false, decide_not', dec_and, dec_or, dec_eqt, Bool.not_true, Bool.not_false, Option.isNone_none, Option.isNone_some, Option.map_some, Option.map_none, List.getElem?_toArray, List.getElem?_cons_zero, List.getElem?_cons_succ, List.size_toArray, List.length_cons, List.length_nil, List.length_replicate, List.set_cons_zero, List.set_cons_succ, Nat.reduceAdd, Nat.reduceMul, Nat.reduceSub, Nat.reduceLeDiff, Nat.zero_add, Nat.add_zero, Nat.zero_le, true_and, and_true, not_false_eq_true, ne_eq, Int.reduceNeg, Int.reduceEq, Int.reduceNe, Int.reduceLT, Int.reduceLE, le_refl', List.setIfInBounds_toArray, Nat.reduceLT, Array.size_setIfInBounds, if_true, if_false, reduceCtorEq, List.toArray_toList', List.drop_succ_cons, List.drop_zero, List.take_succ_cons, List.take_zero, List.nil_append, List.append_nil, List.cons_append, Bool.and_true, Bool.true_and, Bool.or_false, Bool.false_or, Bool.and_false, Bool.or_true, Bool.true_or, Bool.false_and, eq_self]
    have hvb : ∀ j, blkOf vf = some j → H5.size ≤ j := k6
    refine pCond_if (fun hc3 => ?_) (fun hc3 => ?_)
    · refine (o7.sl (by decide)).idx (n := (next' - next).toNat) (by rw [hplen]; omega) (by decide) (by omega) (by omega) fun ad had => ?_
      have hpk : (places next next')[k]? = some (next + k) := by
        unfold places
        rw [List.getElem?_map, List.getElem?_range (by omega)]; rfl
      refine had.load (v := .int .u32 (numb first (next + k))) ?_ ?_
      · rw [Int.toNat_natCast, Nat.mul_one, List.getElem?_take, if_pos (by decide), List.getElem?_drop, Nat.add_zero]
        exact numsL_at hpk
      refine m7.lookup (k := numb first (next + k)) ?_
      rw [sentM_new f0 f1 (by omega) (by omega)]
      simp only [cond_false, Option.getD_none, pPick_v, pNil_v, pNil_f, pAdd_v, pSub_v, pMul_v, pAdd_s, pQuo_v, pRem_v, pBits_v, pShl_v, pShr_v, pLt_v, pLe_v, pGt_v, pGe_v, pEq_0, pNe_0, pEq_1, pNe_1, pEq_2, pNe_2, pEq_3n, pNe_3n, pEq_3s, pNe_3s, pEq_3t, pNe_3t, pEq_5n, pNe_5n, pEq_5s, pNe_5s, pEq_5t, pNe_5t, pEq_4n, pNe_4n, pEq_4s, pNe_4s, pNot_v, pNeg_v, pCom_v, pConv_v, pConvS_v, pMin_v, pMax_v, pFieldAddr_v, pField1_v, pFieldN_v, pExtract_v, pIdxArr_v, pIdxSl_v, pIdxStr_v, pBounds_00, pBounds_10, pBounds_01, pBounds_11, pSlStr_v, pSlSl_v, pSlArr_v, pLenS_v, pLen_v, pCap_v, pBuild_n, pBuild_c, cells_int, cells_str, cells_bool, cells_ptr, cells_slice, cells_map, cells_agg, oneCell_int, oneCell_str, oneCell_bool, oneCell_ptr, oneCell_slice, oneCell_map, putL_cons, putL_nil, pAnd_pure, pOr_pure, pAnd_pureE, pOr_pureE, pAnd_false, pOr_true, pCond_true, pCond_false, add_mk, bys_mk, bys_size, cond_true, cond_false, decide_true, decide_false, decide_not', dec_and, dec_or, dec_eqt, Bool.not_true, Bool.not_false, Option.isNone_none, Option.isNone_some, Option.map_some, Option.map_none, List.getElem?_toArray, List.getElem?_cons_zero, List.getElem?_cons_succ, List.size_toArray, List.length_cons, List.length_nil, List.length_replicate, List.set_cons_zero, List.set_cons_succ, Nat.reduceAdd, Nat.reduceMul, Nat.reduceSub, Nat.reduceLeDiff, Nat.zero_add, Nat.add_zero, Nat.zero_le, true_and, and_true, not_false_eq_true, ne_eq, Int.reduceNeg, Int.reduceEq, Int.reduceNe, Int.reduceLT, Int.reduceLE, le_refl', List.setIfInBounds_toArray, Nat.reduceLT, Array.size_setIfInBounds, if_true, if_false, reduceCtorEq, List.toArray_toList', List.drop_succ_cons, List.drop_zero, List.take_succ_cons, List.take_zero, List.nil_append, List.append_nil, List.cons_append, Bool.and_true, Bool.true_and, Bool.or_false, Bool.false_or, Bool.and_false, Bool.or_true, Bool.true_or, Bool.false_and, eq_self]
      refine m7.set (k := numb first (next + k)) fun H8 m8 s8 k8 => ?_
      rw [show IntKind.i64.wrap (0 + 1) = 1 by decide, sentM_step f0 f1 (by omega) (by omega)] at m8
      rw [w64 (by omega) (by omega)]
      refine ⟨⟨k + 1, rfl, by omega, ?_, ?_, ?_, ?_⟩, by show (_ : Int).toNat < (_ : Int).toNat; omega⟩
      · exact { wn7 with blk := (k8 b (Ne.symm en5.mb)).trans wn7.blk, map := wn7.map.keep (k8 r (Ne.symm en5.mr)) }
      · exact ⟨by have := x7.size; omega, fun j hj => by rw [k8 j (by omega)]; exact x7.get j hj⟩
      · rw [show next + ((k + 1 : Nat) : Int) = next + (k : Int) + 1 by omega]; exact m8
      · exact o7.other (b' := some H3.size) (fun j hj hne => k8 j (fun e => hne (by rw [e]))) (.inl (fun e => by have := hvb _ e; omega))
    have hke : next + (k : Int) = next' := by omega
    rw [hke] at m7
    refine sOpen_spec wn7 fun H8 vo e8 o8 k8 => ?_
    have hlo := openP_len A base next'
    have hAb : A base = false := by
      cases hA : A base with
      | false => rfl
      | true => have := en5.told base hA; omega
    have hop := openP_left (A := A) hnx2
    rw [hAb] at hop
    simp only [cond_false, List.singleton_append] at hop
    have hol2 : (numsL first (openP A base next')).length = (openP A base next').length := by simp [numsL]
    have hop1 : 1 ≤ (openP A base next').length := by rw [hop]; simp
    have hΦ8 : (i : Int) + (openP A base next').length ≤ base + next' := by
      obtain ⟨d, hd⟩ : ∃ d : Nat, next' = next + d := ⟨(next' - next).toNat, by omega⟩
      have hsp := openP_split (A := A) bs1 d
      rw [← hd] at hsp
      have := openP_len A next next'
      rw [hsp, List.length_append]
      omega
    have en8 : Ends H H8 b r H3.size first count size base next' A :=
      ⟨wn7.ext e8, x7.trans e8, hHb, hHr, hH3, en5.mb, en5.mr, m7.ext e8, hnx3, fun k hk => by have := en5.told k hk; omega⟩
    refine (o8.sl (by decide)).len (n := (openP A base next').length) (by rw [hol2]; omega) (by decide) ?_
    simp only [pPick_v, pNil_v, pNil_f, pAdd_v, pSub_v, pMul_v, pAdd_s, pQuo_v, pRem_v, pBits_v, pShl_v, pShr_v, pLt_v, pLe_v, pGt_v, pGe_v, pEq_0, pNe_0, pEq_1, pNe_1, pEq_2, pNe_2, pEq_3n, pNe_3n, pEq_3s, pNe_3s, pEq_3t, pNe_3t, pEq_5n, pNe_5n, pEq_5s, pNe_5s, pEq_5t, pNe_5t, pEq_4n, pNe_4n, pEq_4s, pNe_4s, pNot_v, pNeg_v, pCom_v, pConv_v, pConvS_v, pMin_v, pMax_v, pFieldAddr_v, pField1_v, pFieldN_v, pExtract_v, pIdxArr_v, pIdxSl_v, pIdxStr_v, pBounds_00, pBounds_10, pBounds_01, pBounds_11, pSlStr_v, pSlSl_v, pSlArr_v, pLenS_v, pLen_v, pCap_v, pBuild_n, pBuild_c, cells_int, cells_str, cells_bool, cells_ptr, cells_slice, cells_map, cells_agg, oneCell_int, oneCell_str, oneCell_bool, oneCell_ptr, oneCell_slice, oneCell_map, putL_cons, putL_nil, pAnd_pure, pOr_pure, pAnd_pureE, pOr_pureE, pAnd_false, pOr_true, pCond_true, pCond_false, add_mk, bys_mk, bys_size, cond_true, cond_false, decide_true, decide_false, decide_not', dec_and, dec_or, dec_eqt, Bool.not_true, Bool.not_false, Option.isNone_none, Option.isNone_some, Option.map_some, Option.map_none, List.getElem?_toArray, List.getElem?_cons_zero, List.getElem?_cons_succ, List.size_toArray, List.length_cons, List.length_nil, List.length_replicate, List.set_cons_zero, List.set_cons_succ, Nat.reduceAdd, Nat.reduceMul, Nat.reduceSub, Nat.reduceLeDiff, Nat.zero_add, Nat.add_zero, Nat.zero_le, true_and, and_true, not_false_eq_true, ne_eq, Int.reduceNeg, Int.reduceEq, Int.reduceNe, Int.reduceLT, Int.reduceLE, le_refl', List.setIfInBounds_toArray, Nat.reduceLT, Array.size_setIfInBounds, if_true, if_false, reduceCtorEq, List.toArray_toList', List.drop_succ_cons, List.drop_zero, List.take_succ_cons, List.take_zero, List.nil_append, List.append_nil, List.cons_append, Bool.and_true, Bool.true_and, Bool.or_false, Bool.false_or, Bool.and_false, Bool.or_true, Bool.true_or, Bool.false_and, eq_self]
    rw [decide_eq_false (by omega)]
    refine pOr_false ?_
    refine (o8.sl (by decide)).len (n := (openP A base next').length) (by rw [hol2]; omega) (by decide) ?_
    simp only [pPick_v, pNil_v, pNil_f, pAdd_v, pSub_v, pMul_v, pAdd_s, pQuo_v, pRem_v, pBits_v, pShl_v, pShr_v, pLt_v, pLe_v, pGt_v, pGe_v, pEq_0, pNe_0, pEq_1, pNe_1, pEq_2, pNe_2, pEq_3n, pNe_3n, pEq_3s, pNe_3s, pEq_3t, pNe_3t, pEq_5n, pNe_5n, pEq_5s, pNe_5s, pEq_5t, pNe_5t, pEq_4n, pNe_4n, pEq_4s, pNe_4s, pNot_v, pNeg_v, pCom_v, pConv_v, pConvS_v, pMin_v, pMax_v, pFieldAddr_v, pField1_v, pFieldN_v, pExtract_v, pIdxArr_v, pIdxSl_v, pIdxStr_v, pBounds_00, pBounds_10, pBounds_01, pBounds_11, pSlStr_v, pSlSl_v, pSlArr_v, pLenS_v, pLen_v, pCap_v, pBuild_n, pBuild_c, cells_int, cells_str, cells_bool, cells_ptr, cells_slice, cells_map, cells_agg, oneCell_int, oneCell_str, oneCell_bool, oneCell_ptr, oneCell_slice, oneCell_map, putL_cons, putL_nil, pAnd_pure, pOr_pure, pAnd_pureE, pOr_pureE, pAnd_false, pOr_true, pCond_true, pCond_false, add_mk, bys_mk, bys_size, cond_true, cond_false, decide_true, decide_false, decide_not', dec_and, dec_or, dec_eqt, Bool.not_true, Bool.not_false, Option.isNone_none, Option.isNone_some, Option.map_some, Option.map_none, List.getElem?_toArray, List.getElem?_cons_zero, List.getElem?_cons_succ, List.size_toArray, List.length_cons, List.length_nil, List.length_replicate, List.set_cons_zero, List.set_cons_succ, Nat.reduceAdd, Nat.reduceMul, Nat.reduceSub, Nat.reduceLeDiff, Nat.zero_add, Nat.add_zero, Nat.zero_le, true_and, and_true, not_false_eq_true, ne_eq, Int.reduceNeg, Int.reduceEq, Int.reduceNe, Int.reduceLT, Int.reduceLE, le_refl', List.setIfInBounds_toArray, Nat.reduceLT, Array.size_setIfInBounds, if_true, if_false, reduceCtorEq, List.toArray_toList', List.drop_succ_cons, List.drop_zero, List.take_succ_cons, List.take_zero, List.nil_append, List.append_nil, List.cons_append, Bool.and_true, Bool.true_and, Bool.or_false, Bool.false_or, Bool.and_false, Bool.or_true, Bool.true_or, Bool.false_and, eq_self]
    rw [decide_eq_false (by omega)]
    refine fun _ => ?_
    simp only [pPick_v, pNil_v, pNil_f, pAdd_v, pSub_v, pMul_v, pAdd_s, pQuo_v, pRem_v, pBits_v, pShl_v, pShr_v, pLt_v, pLe_v, pGt_v, pGe_v, pEq_0, pNe_0, pEq_1, pNe_1, pEq_2, pNe_2, pEq_3n, pNe_3n, pEq_3s, pNe_3s, pEq_3t, pNe_3t, pEq_5n, pNe_5n, pEq_5s, pNe_5s, pEq_5t, pNe_5t, pEq_4n, pNe_4n, pEq_4s, pNe_4s, pNot_v, pNeg_v, pCom_v, pConv_v, pConvS_v, pMin_v, pMax_v, pFieldAddr_v, pField1_v, pFieldN_v, pExtract_v, pIdxArr_v, pIdxSl_v, pIdxStr_v, pBounds_00, pBounds_10, pBounds_01, pBounds_11, pSlStr_v, pSlSl_v, pSlArr_v, pLenS_v, pLen_v, pCap_v, pBuild_n, pBuild_c, cells_int, cells_str, cells_bool, cells_ptr, cells_slice, cells_map, cells_agg, oneCell_int, oneCell_str, oneCell_bool, oneCell_ptr, oneCell_slice, oneCell_map, putL_cons, putL_nil, pAnd_pure, pOr_pure, pAnd_pureE, pOr_pureE, pAnd_false, pOr_true, pCond_true, pCond_false, add_mk, bys_mk, bys_size, cond_true, cond_false, decide_true, decide_false, decide_not', dec_and, dec_or, dec_eqt, Bool.not_true, Bool.not_false, Option.isNone_none, Option.isNone_some, Option.map_some, Option.map_none, List.getElem?_toArray, List.getElem?_cons_zero, List.getElem?_cons_succ, List.size_toArray, List.length_cons, List.length_nil, List.length_replicate, List.set_cons_zero, List.set_cons_succ, Nat.reduceAdd, Nat.reduceMul, Nat.reduceSub, Nat.reduceLeDiff, Nat.zero_add, Nat.add_zero, Nat.zero_le, true_and, and_true, not_false_eq_true, ne_eq, Int.reduceNeg, Int.reduceEq, Int.reduceNe, Int.reduceLT, Int.reduceLE, le_refl', List.setIfInBounds_toArray, Nat.reduceLT, Array.size_setIfInBounds, if_true, if_false, reduceCtorEq, List.toArray_toList', List.drop_succ_cons, List.drop_zero, List.take_succ_cons, List.take_zero, List.nil_append, List.append_nil, List.cons_append, Bool.and_true, Bool.true_and, Bool.or_false, Bool.false_or, Bool.and_false, Bool.or_true, Bool.true_or, Bool.false_and, eq_self]
    refine ⟨fun v H' => ∃ k : Int, v = .int .i64 k ∧ 0 ≤ k ∧ k < (openP A base next').length ∧ H8 = H', ?_, ?_⟩
    · rintro _ _ _ ⟨k, rfl, hk0, hk1, rfl⟩
      refine sBase_spec en8.snd ?_
      obtain ⟨kn, rfl⟩ : ∃ kn : Nat, k = kn := ⟨k.toNat, by omega⟩
      have hkl : kn < (openP A base next').length := by omega
      obtain ⟨j, hj⟩ : ∃ j, (openP A base next')[kn]? = some j := ⟨_, List.getElem?_eq_getElem hkl⟩
      have hjm := mem_openP.1 (List.mem_of_getElem? hj)
      have hread : ∀ K : Value → Prop, K (.int .u32 (numb first j)) → pIdxSl 1 vo (.int .i64 kn) fun x => pLoad H8 x K := by
        intro K hK
        refine (o8.sl (by decide)).idx (n := (openP A base next').length) (by rw [hol2]; omega) (by decide) (by omega) (by omega) fun ad had => ?_
        refine had.load (v := .int .u32 (numb first j)) ?_ hK
        rw [Int.toNat_natCast, Nat.mul_one, List.getElem?_take, if_pos (by decide), List.getElem?_drop, Nat.add_zero]
        exact numsL_at hj
      refine hread _ ?_
      simp only [pPick_v, pNil_v, pNil_f, pAdd_v, pSub_v, pMul_v, pAdd_s, pQuo_v, pRem_v, pBits_v, pShl_v, pShr_v, pLt_v, pLe_v, pGt_v, pGe_v, pEq_0, pNe_0, pEq_1, pNe_1, pEq_2, pNe_2, pEq_3n, pNe_3n, pEq_3s, pNe_3s, pEq_3t, pNe_3t, pEq_5n, pNe_5n, pEq_5s, pNe_5s, pEq_5t, pNe_5t, pEq_4n, pNe_4n, pEq_4s, pNe_4s, pNot_v, pNeg_v, pCom_v, pConv_v, pConvS_v, pMin_v, pMax_v, pFieldAddr_v, pField1_v, pFieldN_v, pExtract_v, pIdxArr_v, pIdxSl_v, pIdxStr_v, pBounds_00, pBounds_10, pBounds_01, pBounds_11, pSlStr_v, pSlSl_v, pSlArr_v, pLenS_v, pLen_v, pCap_v, pBuild_n, pBuild_c, cells_int, cells_str, cells_bool, cells_ptr, cells_slice, cells_map, cells_agg, oneCell_int, oneCell_str, oneCell_bool, oneCell_ptr, oneCell_slice, oneCell_map, putL_cons, putL_nil, pAnd_pure, pOr_pure, pAnd_pureE, pOr_pureE, pAnd_false, pOr_true, pCond_true, pCond_false, add_mk, bys_mk, bys_size, cond_true, cond_false, decide_true, decide_false, decide_not', dec_and, dec_or, dec_eqt, Bool.not_true, Bool.not_false, Option.isNone_none, Option.isNone_some, Option.map_some, Option.map_none, List.getElem?_toArray, List.getElem?_cons_zero, List.getElem?_cons_succ, List.size_toArray, List.length_cons, List.length_nil, List.length_replicate, List.set_cons_zero, List.set_cons_succ, Nat.reduceAdd, Nat.reduceMul, Nat.reduceSub, Nat.reduceLeDiff, Nat.zero_add, Nat.add_zero, Nat.zero_le, true_and, and_true, not_false_eq_true, ne_eq, Int.reduceNeg, Int.reduceEq, Int.reduceNe, Int.reduceLT, Int.reduceLE, le_refl', List.setIfInBounds_toArray, Nat.reduceLT, Array.size_setIfInBounds, if_true, if_false, reduceCtorEq, List.toArray_toList', List.drop_succ_cons, List.drop_zero, List.take_succ_cons, List.take_zero, List.nil_append, List.append_nil, List.cons_append, Bool.and_true, Bool.true_and, Bool.or_false, Bool.false_or, Bool.and_false, Bool.or_true, Bool.true_or, Bool.false_and, eq_self]
      refine pCond_if (fun hc4 => ?_) (fun hc4 => ?_)
      · have hjb : j = base := numb_inj (by omega) (by omega) (by omega) (by omega) hc4
        subst hjb
        refine sAck_spec (by decide) (by decide) en8.snd (by rw [ahead_succ]; omega) fun H9 wn9 on9 => ?_
        rw [ahead_succ] at wn9
        refine ⟨j + 1, next', _, ⟨wn9, on9.ext en8.ext hHb hHr, hHb, hHr, hH3, en5.mb, en5.mr, en8.sent.keep (on9.same _ en8.sent.lt en5.mb en5.mr), by omega, fun k hk => ?_⟩, ?_⟩
        · rw [ack_next en8.told] at hk
          simp only [Bool.and_eq_true, decide_eq_true_eq] at hk
          have := en8.told k hk.1
          omega
        · have hc9 : (openP (without (ackF 0 j next' (j + 1) A).1 j (j + 1 + 1)) (j + 1) next').length ≤ (openP A (j + 1) next').length + 1 := by
            by_cases hjn : j + 1 < next'
            · rw [openP_left hjn, openP_left (A := A) hjn, List.length_append, List.length_append]
              rw [openP_congr (A := without (ackF 0 j next' (j + 1) A).1 j (j + 1 + 1)) (B := A) (lo := j + 1 + 1) fun k h1 h2 => by rw [ack_next en8.told, decide_eq_true (by omega), Bool.and_true]]
              have : ∀ (x : Bool) (z : Int), (bif x then ([] : List Int) else [z]).length ≤ 1 := by intro x z; cases x <;> simp
              have := this (without (ackF 0 j next' (j + 1) A).1 j (j + 1 + 1) (j + 1)) (j + 1)
              omega
            · rw [openP, places_none (by omega)]; simp
          rw [hop, List.length_cons] at hΦ8
          omega
      · refine hread _ ?_
        have hjb : base < j := by
          rcases Int.lt_or_eq_of_le hjm.1.1 with h' | h'
          · exact h'
          · exact absurd (by rw [h']) hc4
        obtain ⟨pp, hpp⟩ : ∃ pp : Nat, j = base + 1 + pp := ⟨(j - base - 1).toNat, by omega⟩
        have hdiff : IntKind.u32.wrap (IntKind.u32.wrap (numb first j - numb first base) - 1) = (pp : Int) := by
          rw [wu32_mod, wu32_mod, numb_eq (j := 0), numb_eq (j := 0)]; omega
        simp only [pPick_v, pNil_v, pNil_f, pAdd_v, pSub_v, pMul_v, pAdd_s, pQuo_v, pRem_v, pBits_v, pShl_v, pShr_v, pLt_v, pLe_v, pGt_v, pGe_v, pEq_0, pNe_0, pEq_1, pNe_1, pEq_2, pNe_2, pEq_3n, pNe_3n, pEq_3s, pNe_3s, pEq_3t, pNe_3t, pEq_5n, pNe_5n, pEq_5s, pNe_5s, pEq_5t, pNe_5t, pEq_4n, pNe_4n, pEq_4s, pNe_4s, pNot_v, pNeg_v, pCom_v, pConv_v, pConvS_v, pMin_v, pMax_v, pFieldAddr_v, pField1_v, pFieldN_v, pExtract_v, pIdxArr_v, pIdxSl_v, pIdxStr_v, pBounds_00, pBounds_10, pBounds_01, pBounds_11, pSlStr_v, pSlSl_v, pSlArr_v, pLenS_v, pLen_v, pCap_v, pBuild_n, pBuild_c, cells_int, cells_str, cells_bool, cells_ptr, cells_slice, cells_map, cells_agg, oneCell_int, oneCell_str, oneCell_bool, oneCell_ptr, oneCell_slice, oneCell_map, putL_cons, putL_nil, pAnd_pure, pOr_pure, pAnd_pureE, pOr_pureE, pAnd_false, pOr_true, pCond_true, pCond_false, add_mk, bys_mk, bys_size, cond_true, cond_false, decide_true, decide_false, decide_not', dec_and, dec_or, dec_eqt, Bool.not_true, Bool.not_false, Option.isNone_none, Option.isNone_some, Option.map_some, Option.map_none, List.getElem?_toArray, List.getElem?_cons_zero, List.getElem?_cons_succ, List.size_toArray, List.length_cons, List.length_nil, List.length_replicate, List.set_cons_zero, List.set_cons_succ, Nat.reduceAdd, Nat.reduceMul, Nat.reduceSub, Nat.reduceLeDiff, Nat.zero_add, Nat.add_zero, Nat.zero_le, true_and, and_true, not_false_eq_true, ne_eq, Int.reduceNeg, Int.reduceEq, Int.reduceNe, Int.reduceLT, Int.reduceLE, le_refl', List.setIfInBounds_toArray, Nat.reduceLT, Array.size_setIfInBounds, if_true, if_false, reduceCtorEq, List.toArray_toList', List.drop_succ_cons, List.drop_zero, List.take_succ_cons, List.take_zero, List.nil_append, List.append_nil, List.cons_append, Bool.and_true, Bool.true_and, Bool.or_false, Bool.false_or, Bool.and_false, Bool.or_true, Bool.true_or, Bool.false_and, eq_self]
        rw [hdiff]
        refine ⟨by omega, ?_⟩
        rw [Int.toNat_natCast, show min pp IntKind.u32.bits = pp by show min pp 32 = _; omega]
        have hpw : (2 : Nat) ^ pp < 2 ^ 32 := Nat.pow_lt_pow_right (by decide) (by omega)
        have hw : IntKind.u32.wrap (1 * 2 ^ pp) = (2 : Int) ^ pp := by
          have e : (1 : Int) * 2 ^ pp = ((2 ^ pp : Nat) : Int) := by rw [Int.one_mul, Int.natCast_pow]; rfl
          rw [e, show (2 : Int) ^ pp = ((2 ^ pp : Nat) : Int) by rw [Int.natCast_pow]; rfl]
          generalize (2 : Nat) ^ pp = Q at hpw ⊢
          exact wu32 (by omega) (by omega)
        rw [hw]
        have hb0 : (0 : Int) ≤ 2 ^ pp := Int.le_of_lt (Int.pow_pos (by decide))
        have hb1' : (2 : Int) ^ pp ≤ 4294967295 := by
          rw [show (2 : Int) ^ pp = ((2 ^ pp : Nat) : Int) by rw [Int.natCast_pow]; rfl]
          generalize (2 : Nat) ^ pp = Q at hpw ⊢
          omega
        refine sAck_spec hb0 hb1' en8.snd (by rw [ahead_self]; omega) fun H9 wn9 on9 => ?_
        rw [ahead_self, Int.add_zero] at wn9
        have hA9 : without (ackF (2 ^ pp) base next' base A).1 base (base + 1) = fun k => bif decide (k = j) then true else A k := by
          funext k
          rw [ack_bit (by omega) (by omega) en8.told, hpp]
        rw [hA9] at wn9
        refine ⟨base, next', _, ⟨wn9, on9.ext en8.ext hHb hHr, hHb, hHr, hH3, en5.mb, en5.mr, en8.sent.keep (on9.same _ en8.sent.lt en5.mb en5.mr), hnx3, fun k hk => ?_⟩, ?_⟩
        · by_cases hkj : k = j
          · omega
          · rw [decide_eq_false hkj] at hk
            exact en8.told k hk
        · have := openP_tell (A := A) hjm.1.1 hjm.1.2 hjm.2
          omega
    · refine pCond_if (fun hc4 => ?_) (fun hc4 => ?_)
      · refine w2.read en8.ext (by omega) (by omega) ?_
        generalize zs.getD (i : Int).toNat 0 = z
        refine (o8.sl (by decide)).len (n := (openP A base next').length) (by rw [hol2]; omega) (by decide) ?_
        have hn0 : (0 : Int) < (openP A base next').length := by omega
        have ht := tmod_range (z := z) hn0
        have hmp := mod_pick (z := z) hn0
        rw [pRem_v]
        refine ⟨by omega, ?_⟩
        refine (o8.sl (by decide)).len (n := (openP A base next').length) (by rw [hol2]; omega) (by decide) ?_
        rw [pAdd_v, w64 (by omega) (by omega)]
        refine (o8.sl (by decide)).len (n := (openP A base next').length) (by rw [hol2]; omega) (by decide) ?_
        rw [pRem_v]
        exact ⟨by omega, _, rfl, hmp.1, hmp.2, rfl⟩
      · exact ⟨0, rfl, by omega, by omega, rfl⟩
  · -- all is acknowledged
    have hbc : base = count := by
      simp only [Bool.and_eq_false_iff, decide_eq_false_iff_not] at hc
      rcases hc with h' | h'
      · omega
      · exact Classical.not_not.1 h'
    have hnc : next = count := by omega
    subst hbc
    subst hnc
    have hx5 := en5.sent
    refine hx5.range (by kernel_rfl) fun H6 e6 s6 it6 => ?_
    have en6 := en5.more e6
    have hb5 := lt_of_blk en5.snd.blk
    have hr5 := en5.snd.map.lt
    have hm5 := hx5.lt
    refine ⟨fun H' => ∃ done : List Int, Iter (intKeys .u32) H' H5.size H3.size (sentM first next) done ∧ Ends H H' b r H3.size first next size next next A, fun H' => iterLeft H' H5.size, ⟨[], it6, en6⟩, ?_⟩
    rintro _ H7 ⟨done, it7, en7⟩
    refine it7.next (fun hall => ?_) (fun k v H8 hkd hkm it8 same8 s8 left8 => ?_)
    · simp only [pPick_v, pNil_v, pNil_f, pAdd_v, pSub_v, pMul_v, pAdd_s, pQuo_v, pRem_v, pBits_v, pShl_v, pShr_v, pLt_v, pLe_v, pGt_v, pGe_v, pEq_0, pNe_0, pEq_1, pNe_1, pEq_2, pNe_2, pEq_3n, pNe_3n, pEq_3s, pNe_3s, pEq_3t, pNe_3t, pEq_5n, pNe_5n, pEq_5s, pNe_5s, pEq_5t, pNe_5t, pEq_4n, pNe_4n, pEq_4s, pNe_4s, pNot_v, pNeg_v, pCom_v, pConv_v, pConvS_v, pMin_v, pMax_v, pFieldAddr_v, pField1_v, pFieldN_v, pExtract_v, pIdxArr_v, pIdxSl_v, pIdxStr_v, pBounds_00, pBounds_10, pBounds_01, pBounds_11, pSlStr_v, pSlSl_v, pSlArr_v, pLenS_v, pLen_v, pCap_v, pBuild_n, pBuild_c, cells_int, cells_str, cells_bool, cells_ptr, cells_slice, cells_map, cells_agg, oneCell_int, oneCell_str, oneCell_bool, oneCell_ptr, oneCell_slice, oneCell_map, putL_cons, putL_nil, pAnd_pure, pOr_pure, pAnd_pureE, pOr_pureE, pAnd_false, pOr_true, pCond_true, pCond_false, add_mk, bys_mk, bys_size, cond_true, cond_false, decide_true, decide_false, decide_not', dec_and, dec_or, dec_eqt, Bool.not_true, Bool.not_false, Option.isNone_none, Option.isNone_some, Option.map_some, Option.map_none, List.getElem?_toArray, List.getElem?_cons_zero, List.getElem?_cons_succ, List.size_toArray, List.length_cons, List.length_nil, List.length_replicate, List.set_cons_zero, List.set_cons_succ, Nat.reduceAdd, Nat.reduceMul, Nat.reduceSub, Nat.reduceLeDiff, Nat.zero_add, Nat.add_zero, Nat.zero_le, true_and, and_true, not_false_eq_true, ne_eq, Int.reduceNeg, Int.reduceEq, Int.reduceNe, Int.reduceLT, Int.reduceLE, le_refl', List.setIfInBounds_toArray, Nat.reduceLT, Array.size_setIfInBounds, if_true, if_false, reduceCtorEq, List.toArray_toList', List.drop_succ_cons, List.drop_zero, List.take_succ_cons, List.take_zero, List.nil_append, List.append_nil, List.cons_append, Bool.and_true, Bool.true_and, Bool.or_false, Bool.false_or, Bool.and_false, Bool.or_true, Bool.true_or, Bool.false_and, eq_self]
      refine sDone_spec en7.snd ?_
      simp only [pPick_v, pNil_v, pNil_f, pAdd_v, pSub_v, pMul_v, pAdd_s, pQuo_v, pRem_v, pBits_v, pShl_v, pShr_v, pLt_v, pLe_v, pGt_v, pGe_v, pEq_0, pNe_0, pEq_1, pNe_1, pEq_2, pNe_2, pEq_3n, pNe_3n, pEq_3s, pNe_3s, pEq_3t, pNe_3t, pEq_5n, pNe_5n, pEq_5s, pNe_5s, pEq_5t, pNe_5t, pEq_4n, pNe_4n, pEq_4s, pNe_4s, pNot_v, pNeg_v, pCom_v, pConv_v, pConvS_v, pMin_v, pMax_v, pFieldAddr_v, pField1_v, pFieldN_v, pExtract_v, pIdxArr_v, pIdxSl_v, pIdxStr_v, pBounds_00, pBounds_10, pBounds_01, pBounds_11, pSlStr_v, pSlSl_v, pSlArr_v, pLenS_v, pLen_v, pCap_v, pBuild_n, pBuild_c, cells_int, cells_str, cells_bool, cells_ptr, cells_slice, cells_map, cells_agg, oneCell_int, oneCell_str, oneCell_bool, oneCell_ptr, oneCell_slice, oneCell_map, putL_cons, putL_nil, pAnd_pure, pOr_pure, pAnd_pureE, pOr_pureE, pAnd_false, pOr_true, pCond_true, pCond_false, add_mk, bys_mk, bys_size, cond_true, cond_false, decide_true, decide_false, decide_not', dec_and, dec_or, dec_eqt, Bool.not_true, Bool.not_false, Option.isNone_none, Option.isNone_some, Option.map_some, Option.map_none, List.getElem?_toArray, List.getElem?_cons_zero, List.getElem?_cons_succ, List.size_toArray, List.length_cons, List.length_nil, List.length_replicate, List.set_cons_zero, List.set_cons_succ, Nat.reduceAdd, Nat.reduceMul, Nat.reduceSub, Nat.reduceLeDiff, Nat.zero_add, Nat.add_zero, Nat.zero_le, true_and, and_true, not_false_eq_true, ne_eq, Int.reduceNeg, Int.reduceEq, Int.reduceNe, Int.reduceLT, Int.reduceLE, le_refl', List.setIfInBounds_toArray, Nat.reduceLT, Array.size_setIfInBounds, if_true, if_false, reduceCtorEq, List.toArray_toList', List.drop_succ_cons, List.drop_zero, List.take_succ_cons, List.take_zero, List.nil_append, List.append_nil, List.cons_append, Bool.and_true, Bool.true_and, Bool.or_false, Bool.false_or, Bool.and_false, Bool.or_true, Bool.true_or, Bool.false_and, eq_self]
      refine pAnd_true ?_
      refine en7.sent.len fun ks hks hkm => ?_
      have hcnt : ks.length = next.toNat := by
        rw [len_of_same hks (m := (places 0 next).map (numb first)) ?_ ?_, List.length_map, places_len]
        · omega
        · unfold places
          rw [List.map_map]
          refine nodup_map ?_ List.nodup_range
          intro x hx y hy hxy
          simp only [Function.comp] at hxy
          have := List.mem_range.1 hx
          have := List.mem_range.1 hy
          have := numb_inj (by omega) (by omega) (by omega) (by omega) hxy
          omega
        · intro z
          rw [hkm z, List.mem_map]
          unfold sentM
          constructor
          · intro hs
            split at hs
            · rename_i hz
              refine ⟨(z - first) % 4294967296, mem_places.2 ⟨by omega, by omega⟩, ?_⟩
              rw [numb_eq (j := 0)]; omega
            · cases hs
          · rintro ⟨j, hj, rfl⟩
            have := mem_places.1 hj
            rw [numb_eq (j := 0), if_pos (by omega)]; rfl
      rw [hcnt]
      simp only [pPick_v, pNil_v, pNil_f, pAdd_v, pSub_v, pMul_v, pAdd_s, pQuo_v, pRem_v, pBits_v, pShl_v, pShr_v, pLt_v, pLe_v, pGt_v, pGe_v, pEq_0, pNe_0, pEq_1, pNe_1, pEq_2, pNe_2, pEq_3n, pNe_3n, pEq_3s, pNe_3s, pEq_3t, pNe_3t, pEq_5n, pNe_5n, pEq_5s, pNe_5s, pEq_5t, pNe_5t, pEq_4n, pNe_4n, pEq_4s, pNe_4s, pNot_v, pNeg_v, pCom_v, pConv_v, pConvS_v, pMin_v, pMax_v, pFieldAddr_v, pField1_v, pFieldN_v, pExtract_v, pIdxArr_v, pIdxSl_v, pIdxStr_v, pBounds_00, pBounds_10, pBounds_01, pBounds_11, pSlStr_v, pSlSl_v, pSlArr_v, pLenS_v, pLen_v, pCap_v, pBuild_n, pBuild_c, cells_int, cells_str, cells_bool, cells_ptr, cells_slice, cells_map, cells_agg, oneCell_int, oneCell_str, oneCell_bool, oneCell_ptr, oneCell_slice, oneCell_map, putL_cons, putL_nil, pAnd_pure, pOr_pure, pAnd_pureE, pOr_pureE, pAnd_false, pOr_true, pCond_true, pCond_false, add_mk, bys_mk, bys_size, cond_true, cond_false, decide_true, decide_false, decide_not', dec_and, dec_or, dec_eqt, Bool.not_true, Bool.not_false, Option.isNone_none, Option.isNone_some, Option.map_some, Option.map_none, List.getElem?_toArray, List.getElem?_cons_zero, List.getElem?_cons_succ, List.size_toArray, List.length_cons, List.length_nil, List.length_replicate, List.set_cons_zero, List.set_cons_succ, Nat.reduceAdd, Nat.reduceMul, Nat.reduceSub, Nat.reduceLeDiff, Nat.zero_add, Nat.add_zero, Nat.zero_le, true_and, and_true, not_false_eq_true, ne_eq, Int.reduceNeg, Int.reduceEq, Int.reduceNe, Int.reduceLT, Int.reduceLE, le_refl', List.setIfInBounds_toArray, Nat.reduceLT, Array.size_setIfInBounds, if_true, if_false, reduceCtorEq, List.toArray_toList', List.drop_succ_cons, List.drop_zero, List.take_succ_cons, List.take_zero, List.nil_append, List.append_nil, List.cons_append, Bool.and_true, Bool.true_and, Bool.or_false, Bool.false_or, Bool.and_false, Bool.or_true, Bool.true_or, Bool.false_and, eq_self]
      rw [decide_eq_true (by omega)]
      refine fun _ => pAnd_true ?_
      refine sOpen_spec en7.snd fun H8 vo e8 o8 k8 => ?_
      rw [openP, places_none (Int.le_refl _)] at o8
      refine (o8.sl (by decide)).len (n := 0) rfl (by decide) ?_
      simp only [pPick_v, pNil_v, pNil_f, pAdd_v, pSub_v, pMul_v, pAdd_s, pQuo_v, pRem_v, pBits_v, pShl_v, pShr_v, pLt_v, pLe_v, pGt_v, pGe_v, pEq_0, pNe_0, pEq_1, pNe_1, pEq_2, pNe_2, pEq_3n, pNe_3n, pEq_3s, pNe_3s, pEq_3t, pNe_3t, pEq_5n, pNe_5n, pEq_5s, pNe_5s, pEq_5t, pNe_5t, pEq_4n, pNe_4n, pEq_4s, pNe_4s, pNot_v, pNeg_v, pCom_v, pConv_v, pConvS_v, pMin_v, pMax_v, pFieldAddr_v, pField1_v, pFieldN_v, pExtract_v, pIdxArr_v, pIdxSl_v, pIdxStr_v, pBounds_00, pBounds_10, pBounds_01, pBounds_11, pSlStr_v, pSlSl_v, pSlArr_v, pLenS_v, pLen_v, pCap_v, pBuild_n, pBuild_c, cells_int, cells_str, cells_bool, cells_ptr, cells_slice, cells_map, cells_agg, oneCell_int, oneCell_str, oneCell_bool, oneCell_ptr, oneCell_slice, oneCell_map, putL_cons, putL_nil, pAnd_pure, pOr_pure, pAnd_pureE, pOr_pureE, pAnd_false, pOr_true, pCond_true, pCond_false, add_mk, bys_mk, bys_size, cond_true, cond_false, decide_true, decide_false, decide_not', dec_and, dec_or, dec_eqt, Bool.not_true, Bool.not_false, Option.isNone_none, Option.isNone_some, Option.map_some, Option.map_none, List.getElem?_toArray, List.getElem?_cons_zero, List.getElem?_cons_succ, List.size_toArray, List.length_cons, List.length_nil, List.length_replicate, List.set_cons_zero, List.set_cons_succ, Nat.reduceAdd, Nat.reduceMul, Nat.reduceSub, Nat.reduceLeDiff, Nat.zero_add, Nat.add_zero, Nat.zero_le, true_and, and_true, not_false_eq_true, ne_eq, Int.reduceNeg, Int.reduceEq, Int.reduceNe, Int.reduceLT, Int.reduceLE, le_refl', List.setIfInBounds_toArray, Nat.reduceLT, Array.size_setIfInBounds, if_true, if_false, reduceCtorEq, List.toArray_toList', List.drop_succ_cons, List.drop_zero, List.take_succ_cons, List.take_zero, List.nil_append, List.append_nil, List.cons_append, Bool.and_true, Bool.true_and, Bool.or_false, Bool.false_or, Bool.and_false, Bool.or_true, Bool.true_or, Bool.false_and, eq_self]
      refine fun _ => pAnd_true ?_
      refine sFresh_spec (en7.snd.ext e8) fun H9 vf wn9 on9 o9 k9 => ?_
      rw [show max next (min (next + size) next) = next by omega, places_none (Int.le_refl _)] at o9
      refine (o9.sl (by decide)).len (n := 0) rfl (by decide) ?_
      simp only [pPick_v, pNil_v, pNil_f, pAdd_v, pSub_v, pMul_v, pAdd_s, pQuo_v, pRem_v, pBits_v, pShl_v, pShr_v, pLt_v, pLe_v, pGt_v, pGe_v, pEq_0, pNe_0, pEq_1, pNe_1, pEq_2, pNe_2, pEq_3n, pNe_3n, pEq_3s, pNe_3s, pEq_3t, pNe_3t, pEq_5n, pNe_5n, pEq_5s, pNe_5s, pEq_5t, pNe_5t, pEq_4n, pNe_4n, pEq_4s, pNe_4s, pNot_v, pNeg_v, pCom_v, pConv_v, pConvS_v, pMin_v, pMax_v, pFieldAddr_v, pField1_v, pFieldN_v, pExtract_v, pIdxArr_v, pIdxSl_v, pIdxStr_v, pBounds_00, pBounds_10, pBounds_01, pBounds_11, pSlStr_v, pSlSl_v, pSlArr_v, pLenS_v, pLen_v, pCap_v, pBuild_n, pBuild_c, cells_int, cells_str, cells_bool, cells_ptr, cells_slice, cells_map, cells_agg, oneCell_int, oneCell_str, oneCell_bool, oneCell_ptr, oneCell_slice, oneCell_map, putL_cons, putL_nil, pAnd_pure, pOr_pure, pAnd_pureE, pOr_pureE, pAnd_false, pOr_true, pCond_true, pCond_false, add_mk, bys_mk, bys_size, cond_true, cond_false, decide_true, decide_false, decide_not', dec_and, dec_or, dec_eqt, Bool.not_true, Bool.not_false, Option.isNone_none, Option.isNone_some, Option.map_some, Option.map_none, List.getElem?_toArray, List.getElem?_cons_zero, List.getElem?_cons_succ, List.size_toArray, List.length_cons, List.length_nil, List.length_replicate, List.set_cons_zero, List.set_cons_succ, Nat.reduceAdd, Nat.reduceMul, Nat.reduceSub, Nat.reduceLeDiff, Nat.zero_add, Nat.add_zero, Nat.zero_le, true_and, and_true, not_false_eq_true, ne_eq, Int.reduceNeg, Int.reduceEq, Int.reduceNe, Int.reduceLT, Int.reduceLE, le_refl', List.setIfInBounds_toArray, Nat.reduceLT, Array.size_setIfInBounds, if_true, if_false, reduceCtorEq, List.toArray_toList', List.drop_succ_cons, List.drop_zero, List.take_succ_cons, List.take_zero, List.nil_append, List.append_nil, List.cons_append, Bool.and_true, Bool.true_and, Bool.or_false, Bool.false_or, Bool.and_false, Bool.or_true, Bool.true_or, Bool.false_and, eq_self]
      refine fun _ => pAnd_true ?_
      refine sBase_spec wn9 ?_
      rw [show numb first next = IntKind.u32.wrap (first + IntKind.u32.wrap next) from rfl]
      simp only [pPick_v, pNil_v, pNil_f, pAdd_v, pSub_v, pMul_v, pAdd_s, pQuo_v, pRem_v, pBits_v, pShl_v, pShr_v, pLt_v, pLe_v, pGt_v, pGe_v, pEq_0, pNe_0, pEq_1, pNe_1, pEq_2, pNe_2, pEq_3n, pNe_3n, pEq_3s, pNe_3s, pEq_3t, pNe_3t, pEq_5n, pNe_5n, pEq_5s, pNe_5s, pEq_5t, pNe_5t, pEq_4n, pNe_4n, pEq_4s, pNe_4s, pNot_v, pNeg_v, pCom_v, pConv_v, pConvS_v, pMin_v, pMax_v, pFieldAddr_v, pField1_v, pFieldN_v, pExtract_v, pIdxArr_v, pIdxSl_v, pIdxStr_v, pBounds_00, pBounds_10, pBounds_01, pBounds_11, pSlStr_v, pSlSl_v, pSlArr_v, pLenS_v, pLen_v, pCap_v, pBuild_n, pBuild_c, cells_int, cells_str, cells_bool, cells_ptr, cells_slice, cells_map, cells_agg, oneCell_int, oneCell_str, oneCell_bool, oneCell_ptr, oneCell_slice, oneCell_map, putL_cons, putL_nil, pAnd_pure, pOr_pure, pAnd_pureE, pOr_pureE, pAnd_false, pOr_true, pCond_true, pCond_false, add_mk, bys_mk, bys_size, cond_true, cond_false, decide_true, decide_false, decide_not', dec_and, dec_or, dec_eqt, Bool.not_true, Bool.not_false, Option.isNone_none, Option.isNone_some, Option.map_some, Option.map_none, List.getElem?_toArray, List.getElem?_cons_zero, List.getElem?_cons_succ, List.size_toArray, List.length_cons, List.length_nil, List.length_replicate, List.set_cons_zero, List.set_cons_succ, Nat.reduceAdd, Nat.reduceMul, Nat.reduceSub, Nat.reduceLeDiff, Nat.zero_add, Nat.add_zero, Nat.zero_le, true_and, and_true, not_false_eq_true, ne_eq, Int.reduceNeg, Int.reduceEq, Int.reduceNe, Int.reduceLT, Int.reduceLE, le_refl', List.setIfInBounds_toArray, Nat.reduceLT, Array.size_setIfInBounds, if_true, if_false, reduceCtorEq, List.toArray_toList', List.drop_succ_cons, List.drop_zero, List.take_succ_cons, List.take_zero, List.nil_append, List.append_nil, List.cons_append, Bool.and_true, Bool.true_and, Bool.or_false, Bool.false_or, Bool.and_false, Bool.or_true, Bool.true_or, Bool.false_and, eq_self]
      exact fun _ => ⟨rfl, on9.ext (en7.ext.trans e8) hHb hHr⟩
    · have x8 : Ext H7 H8 ∨ True := .inr trivial
      have en8 : Ends H H8 b r H3.size first next size next next A := by
        refine { en7 with snd := { en7.snd with blk := (same8 b (by omega)).trans en7.snd.blk, map := en7.snd.map.keep (same8 r (by omega)) }, ext := ⟨by have := en7.ext.size; omega, fun j hj => ?_⟩, sent := en7.sent.keep (same8 H3.size (by omega)) }
        rw [same8 j (by have := en5.ext.size; omega)]
        exact en7.ext.get j hj
      have hv : v = .int .i64 1 := by
        unfold sentM at hkm
        split at hkm
        · simpa using hkm.symm
        · cases hkm
      subst hv
      simp only [pPick_v, pNil_v, pNil_f, pAdd_v, pSub_v, pMul_v, pAdd_s, pQuo_v, pRem_v, pBits_v, pShl_v, pShr_v, pLt_v, pLe_v, pGt_v, pGe_v, pEq_0, pNe_0, pEq_1, pNe_1, pEq_2, pNe_2, pEq_3n, pNe_3n, pEq_3s, pNe_3s, pEq_3t, pNe_3t, pEq_5n, pNe_5n, pEq_5s, pNe_5s, pEq_5t, pNe_5t, pEq_4n, pNe_4n, pEq_4s, pNe_4s, pNot_v, pNeg_v, pCom_v, pConv_v, pConvS_v, pMin_v, pMax_v, pFieldAddr_v, pField1_v, pFieldN_v, pExtract_v, pIdxArr_v, pIdxSl_v, pIdxStr_v, pBounds_00, pBounds_10, pBounds_01, pBounds_11, pSlStr_v, pSlSl_v, pSlArr_v, pLenS_v, pLen_v, pCap_v, pBuild_n, pBuild_c, cells_int, cells_str, cells_bool, cells_ptr, cells_slice, cells_map, cells_agg, oneCell_int, oneCell_str, oneCell_bool, oneCell_ptr, oneCell_slice, oneCell_map, putL_cons, putL_nil, pAnd_pure, pOr_pure, pAnd_pureE, pOr_pureE, pAnd_false, pOr_true, pCond_true, pCond_false, add_mk, bys_mk, bys_size, cond_true, cond_false, decide_true, decide_false, decide_not', dec_and, dec_or, dec_eqt, Bool.not_true, Bool.not_false, Option.isNone_none, Option.isNone_some, Option.map_some, Option.map_none, List.getElem?_toArray, List.getElem?_cons_zero, List.getElem?_cons_succ, List.size_toArray, List.length_cons, List.length_nil, List.length_replicate, List.set_cons_zero, List.set_cons_succ, Nat.reduceAdd, Nat.reduceMul, Nat.reduceSub, Nat.reduceLeDiff, Nat.zero_add, Nat.add_zero, Nat.zero_le, true_and, and_true, not_false_eq_true, ne_eq, Int.reduceNeg, Int.reduceEq, Int.reduceNe, Int.reduceLT, Int.reduceLE, le_refl', List.setIfInBounds_toArray, Nat.reduceLT, Array.size_setIfInBounds, if_true, if_false, reduceCtorEq, List.toArray_toList', List.drop_succ_cons, List.drop_zero, List.take_succ_cons, List.take_zero, List.nil_append, List.append_nil, List.cons_append, Bool.and_true, Bool.true_and, Bool.or_false, Bool.false_or, Bool.and_false, Bool.or_true, Bool.true_or, Bool.false_and, eq_self]
      refine it8.entry hkm ?_
      simp only [pPick_v, pNil_v, pNil_f, pAdd_v, pSub_v, pMul_v, pAdd_s, pQuo_v, pRem_v, pBits_v, pShl_v, pShr_v, pLt_v, pLe_v, pGt_v, pGe_v, pEq_0, pNe_0, pEq_1, pNe_1, pEq_2, pNe_2, pEq_3n, pNe_3n, pEq_3s, pNe_3s, pEq_3t, pNe_3t, pEq_5n, pNe_5n, pEq_5s, pNe_5s, pEq_5t, pNe_5t, pEq_4n, pNe_4n, pEq_4s, pNe_4s, pNot_v, pNeg_v, pCom_v, pConv_v, pConvS_v, pMin_v, pMax_v, pFieldAddr_v, pField1_v, pFieldN_v, pExtract_v, pIdxArr_v, pIdxSl_v, pIdxStr_v, pBounds_00, pBounds_10, pBounds_01, pBounds_11, pSlStr_v, pSlSl_v, pSlArr_v, pLenS_v, pLen_v, pCap_v, pBuild_n, pBuild_c, cells_int, cells_str, cells_bool, cells_ptr, cells_slice, cells_map, cells_agg, oneCell_int, oneCell_str, oneCell_bool, oneCell_ptr, oneCell_slice, oneCell_map, putL_cons, putL_nil, pAnd_pure, pOr_pure, pAnd_pureE, pOr_pureE, pAnd_false, pOr_true, pCond_true, pCond_false, add_mk, bys_mk, bys_size, cond_true, cond_false, decide_true, decide_false, decide_not', dec_and, dec_or, dec_eqt, Bool.not_true, Bool.not_false, Option.isNone_none, Option.isNone_some, Option.map_some, Option.map_none, List.getElem?_toArray, List.getElem?_cons_zero, List.getElem?_cons_succ, List.size_toArray, List.length_cons, List.length_nil, List.length_replicate, List.set_cons_zero, List.set_cons_succ, Nat.reduceAdd, Nat.reduceMul, Nat.reduceSub, Nat.reduceLeDiff, Nat.zero_add, Nat.add_zero, Nat.zero_le, true_and, and_true, not_false_eq_true, ne_eq, Int.reduceNeg, Int.reduceEq, Int.reduceNe, Int.reduceLT, Int.reduceLE, le_refl', List.setIfInBounds_toArray, Nat.reduceLT, Array.size_setIfInBounds, if_true, if_false, reduceCtorEq, List.toArray_toList', List.drop_succ_cons, List.drop_zero, List.take_succ_cons, List.take_zero, List.nil_append, List.append_nil, List.cons_append, Bool.and_true, Bool.true_and, Bool.or_false, Bool.false_or, Bool.and_false, Bool.or_true, Bool.true_or, Bool.false_and, eq_self]
      exact pCond_if (fun h => absurd trivial h) fun _ => ⟨⟨done ++ [k], it8, en8⟩, left8⟩
end Go.Proofs.Ytmolkhfohpfhaaa
