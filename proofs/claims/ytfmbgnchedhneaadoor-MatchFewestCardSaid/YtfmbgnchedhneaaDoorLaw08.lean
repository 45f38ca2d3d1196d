/- The laws of package match over heaps, where the table of depths reads as it is laid. -/
import Derived.Test.YtfmbgnchedhneaaDoorMatch4
import Derived.Test.YtfmbgnchedhneaaDoorResLighterlaw08
import Derived.Test.YtfmbgnchedhneaaDoorVcRow
import Derived.KernelRfl
namespace Go.Proofs.YtfmbgnchedhneaaDoor
open Go Go.Vc Go.Proofs
set_option linter.unusedVariables false
set_option linter.unusedSimpArgs false
variable {H H0 : Heap} {R : Value → Heap → Prop} {v : Value} {L : List It} {T : List UInt8}
theorem eqTok (t : Tok) : eqCells [0, 0, 0] t.cells t.cells = some true := by simp [eqCells, eqK, Tok.cells, byteV]
theorem eqTokA {t : Tok} {K : Value → Prop} (h : K (.bool true)) : pEqA [0, 0, 0] t.v t.v K := by simp only [pEqA, Tok.v, eqTok]; exact h
theorem neTokA {t : Tok} {K : Value → Prop} (h : K (.bool false)) : pNeA [0, 0, 0] t.v t.v K := by simp only [pNeA, Tok.v, eqTok]; exact h
theorem fits8 {t : Tok} (h : goodK t = true) : t.fits := by
  unfold Tok.fits
  rcases goodK_facts h with ⟨h1, h2⟩ | ⟨h1, h2, h3, h4⟩ <;> omega
theorem lits_tell : ∀ (s b : List UInt8), expandF (s.map litT) b = some (b ++ s)
  | [], b => by rw [List.append_nil]; rfl
  | x :: s, b => by
    rw [List.map_cons, expand_lit, lits_tell s, List.append_assoc]; rfl
theorem tokA_tells (A s : List UInt8) (l : Nat) : expandF (tokA A s l) A = some (A ++ s) := by
  unfold tokA
  by_cases h0 : l = 0
  · rw [if_pos h0]; exact lits_tell s A
  · rw [if_neg h0]
    have h := toksF_tells (T := lastB A ++ s) (dp := depthN l) (lazy := decide (4 ≤ l)) (lastB A ++ s).length (lastB A).length (by rw [List.length_append]; omega) (by omega)
    rw [List.take_left] at h
    have h2 := expandF_ahead _ (A.take (A.length - 32768)) _ _ h
    rw [show A.take (A.length - 32768) ++ lastB A = A from List.take_append_drop _ _, ← List.append_assoc, show A.take (A.length - 32768) ++ lastB A = A from List.take_append_drop _ _] at h2
    exact h2
theorem tokA_count (A s : List UInt8) (l : Nat) : (tokA A s l).length ≤ s.length := by
  unfold tokA
  by_cases h0 : l = 0
  · rw [if_pos h0, List.length_map]; exact Nat.le_refl _
  · rw [if_neg h0]
    have := toksF_count (T := lastB A ++ s) (dp := depthN l) (lazy := decide (4 ≤ l)) (lastB A ++ s).length (lastB A).length (by omega)
    rw [List.length_append] at this ⊢
    omega
theorem tokA_good (A s : List UInt8) (l : Nat) : ∀ t ∈ tokA A s l, goodK t = true ∧ t.d ≤ 32768 := by
  intro t ht
  unfold tokA at ht
  by_cases h0 : l = 0
  · rw [if_pos h0] at ht
    obtain ⟨x, _, rfl⟩ := List.mem_map.1 ht
    exact ⟨good_lit x, by show (0 : Int) ≤ 32768; decide⟩
  · rw [if_neg h0] at ht
    exact toksF_good _ _ t ht
theorem tok_cell {l : List Tok} {i : Nat} (hi : i < l.length) : (toksL l)[i * 3 + 1]? = some (.int .i64 l[i].n) ∧ (toksL l)[i * 3 + 2]? = some (.int .i64 l[i].d) := by
  have h := toksL_at l i _ (List.getElem?_eq_getElem hi)
  constructor
  · have e := congrArg (fun x => x[1]?) h
    simp only [List.getElem?_take, List.getElem?_drop] at e
    rw [if_pos (by decide)] at e
    exact e
  · have e := congrArg (fun x => x[2]?) h
    simp only [List.getElem?_take, List.getElem?_drop] at e
    rw [if_pos (by decide)] at e
    exact e
theorem tok_n {l : List Tok} {y : Value} {i : Nat} {K : Value → Prop} (hS : Sl H y 3 (toksL l)) (hi : i < l.length) (hlen : l.length ≤ 1000000) (hk : K (.int .i64 l[i].n)) : pIdxSl 3 y (.int .i64 (i : Int)) fun p => pFieldAddr 1 p fun q => pLoad H q K := by
  refine hS.at_ (toksL_len l) (by decide) (by omega) (by omega) fun p hp => ?_
  rw [Int.toNat_natCast] at hp
  refine hp.field (f := 1) fun q hq => ?_
  exact hq.load hS (tok_cell hi).1 hk
theorem tok_d {l : List Tok} {y : Value} {i : Nat} {K : Value → Prop} (hS : Sl H y 3 (toksL l)) (hi : i < l.length) (hlen : l.length ≤ 1000000) (hk : K (.int .i64 l[i].d)) : pIdxSl 3 y (.int .i64 (i : Int)) fun p => pFieldAddr 2 p fun q => pLoad H q K := by
  refine hS.at_ (toksL_len l) (by decide) (by omega) (by omega) fun p hp => ?_
  rw [Int.toNat_natCast] at hp
  refine hp.field (f := 2) fun q hq => ?_
  exact hq.load hS (tok_cell hi).2 hk
theorem tok_all {l : List Tok} {y : Value} {i : Nat} {K : Value → Prop} (hS : Sl H y 3 (toksL l)) (hi : i < l.length) (hlen : l.length ≤ 1000000) (hk : K l[i].v) : pIdxSl 3 y (.int .i64 (i : Int)) fun p => pLoadN H 3 p K := by
  refine hS.at_ (toksL_len l) (by decide) (by omega) (by omega) fun p hp => ?_
  rw [Int.toNat_natCast] at hp
  exact hp.loadN hS (ws := l[i].cells) (toksL_at l i _ (List.getElem?_eq_getElem hi)) rfl hk
theorem tokA_abc : tokA [97, 98, 99] [97, 98, 99, 100] 9 = [matT 3 3, litT 100] := by kernel_rfl
theorem long_abc : longF (lastB [97, 98, 99] ++ [97, 98, 99, 100]) 1073741824 (lastB [97, 98, 99]).length = (3, 3) := by kernel_rfl
theorem speaks8_spec (hG : Reads H ⟨0, 0, none⟩ depthsV) (h : ∀ H', Ext H H' → R (.bool true) H') : CallsH Tryd.prog 9 #[] H R := by
  refine lighterlaw08_speaks.vc _ _ ?_
  unfold lighterlaw08_speaks.res
  refine tokensA_spec (l := 9) hG (by decide) (by decide) fun H1 y L' o => ?_
  rw [tokA_abc] at o
  refine pExtract_to rfl ?_
  refine pExtract_to rfl ?_
  refine longestA_spec (by decide) fun H2 hx => ?_
  rw [long_abc]
  refine pExtract_to rfl ?_
  refine pExtract_to rfl ?_
  have hy := (o.sl (v := y) (by repeat (first | exact List.mem_cons_self | apply List.mem_cons_of_mem))).ext hx
  rw [pEq_0, decide_eq_true (show (0 : Int) = 0 from rfl)]
  refine pAnd_true ?_
  refine hy.len (n := 2) rfl (by decide) ?_
  rw [pEq_0, decide_eq_true (show ((2 : Nat) : Int) = 2 from rfl)]
  intro _
  refine pAnd_true ?_
  refine tok_all (i := 0) hy (by decide) (by decide) ?_
  refine pBuild_one rfl (by decide) ?_
  refine pBuild_one rfl (by simp) ?_
  rw [pBuild_n]
  refine eqTokA (t := matT 3 3) ?_
  intro _
  refine pAnd_true ?_
  refine tok_all (i := 1) hy (by decide) (by decide) ?_
  refine pBuild_one rfl (by decide) ?_
  rw [pBuild_n]
  refine eqTokA (t := litT 100) ?_
  intro _
  refine pAnd_true ?_
  rw [pEq_0, decide_eq_true (show ((3 : Nat) : Int) = 3 from rfl)]
  intro _
  refine pAnd_true ?_
  rw [pEq_0, decide_eq_true (show ((3 : Nat) : Int) = 3 from rfl)]
  intro _
  exact h H2 (o.ext.trans hx)
theorem cut8 {s : List UInt8} {n : Nat} {K : Value → Prop} (hs : s.length ≤ 9223372036854775807) (hn : n ≤ 1000000) (h : K (str (s.take n))) : pLenS (str s) fun x => pMin x (.int .i64 (n : Int)) fun y => pSlStr (str s) none (some y) K := by
  refine pLenS_to ?_
  rw [pMin_v, show min ((s.length : Nat) : Int) (n : Int) = ((min s.length n : Nat) : Int) by omega]
  refine pSlStr_to (lo := 0) (hi := min s.length n) (.inr ⟨rfl, rfl⟩) (.inl rfl) (by omega) (by omega) ?_
  rw [List.drop_zero, Nat.sub_zero]
  have e : s.take (min s.length n) = s.take n := by
    by_cases hc : s.length ≤ n
    · rw [Nat.min_eq_left hc, List.take_length, List.take_of_length_le hc]
    · rw [Nat.min_eq_right (by omega)]
  rw [e]
  exact h
theorem lastB_all {A : List UInt8} (h : A.length ≤ 32768) : lastB A = A := by
  unfold lastB
  rw [show A.length - 32768 = 0 by omega, List.drop_zero]
theorem MatchLongest_law (A s : List UInt8) (hG : Reads H ⟨0, 0, none⟩ depthsV) (w0 : (ByteArray.mk A.toArray).size ≤ maxLen) (w1 : (ByteArray.mk s.toArray).size ≤ maxLen) :
    CallsH Tryd.prog 3 #[str A, str s] H (LawOk H) := by
  have hmax : maxLen = 9223372036854775807 := rfl
  rw [bys_size] at w0 w1
  refine lighterlaw08_MatchLongest.vc _ _ _ _ ?_
  unfold lighterlaw08_MatchLongest.res
  refine speaks8_spec hG fun H1 hx1 => ?_
  rw [pNot_v, Bool.not_true, pCond_false]
  refine cut8 (n := 600) (by omega) (by decide) ?_
  refine cut8 (n := 600) (by omega) (by decide) ?_
  have hA : (A.take 600).length ≤ 600 := by rw [List.length_take]; omega
  have hs : (s.take 600).length ≤ 600 := by rw [List.length_take]; omega
  generalize A.take 600 = A at *
  generalize s.take 600 = s at *
  refine longestA_spec (by omega) fun H2 hx2 => ?_
  refine pExtract_to rfl ?_
  refine pExtract_to rfl ?_
  refine refLong_spec (by omega) ?_
  refine pExtract_to rfl ?_
  refine pExtract_to rfl ?_
  rw [lastB_all (by omega), longF_ref (by omega), pEq_0, decide_eq_true rfl]
  refine pAnd_true ?_
  rw [pEq_0, decide_eq_true rfl]
  intro _
  exact ⟨rfl, hx1.trans hx2⟩
theorem depth_pos {l : Nat} (h1 : 1 ≤ l) (h9 : l ≤ 9) : 0 < depthN l := by
  match l, h1, h9 with
  | 1, _, _ | 2, _, _ | 3, _, _ | 4, _, _ | 5, _, _ | 6, _, _ | 7, _, _ | 8, _, _ | 9, _, _ => decide
theorem MatchRuns_law (b n level : Int) (hG : Reads H ⟨0, 0, none⟩ depthsV) (w0 : (Lit.int .u8 b).wf = true) (w1 : (Lit.int .i64 n).wf = true) (w2 : (Lit.int .i64 level).wf = true) :
    CallsH Tryd.prog 4 #[.int .u8 b, .int .i64 n, .int .i64 level] H (LawOk H) := by
  obtain ⟨u, hu⟩ : ∃ u : UInt8, Value.int .u8 b = byteV u := by
    have := wfu8 w0
    refine ⟨UInt8.ofNat b.toNat, ?_⟩
    unfold byteV
    rw [UInt8.toNat_ofNat']
    congr 1
    omega
  rw [hu]
  refine lighterlaw08_MatchRuns.vc _ _ _ _ _ ?_
  unfold lighterlaw08_MatchRuns.res
  refine speaks8_spec hG fun H1 hx1 => ?_
  have hG := hG.ext hx1
  rw [pNot_v, Bool.not_true, pCond_false, pBits_v, and_low (k := 11) (m := 2047) (n := n) (by decide) rfl]
  obtain ⟨N, hN⟩ : ∃ N : Nat, 4 + n % 2 ^ 11 = (N : Int) := ⟨(4 + n % 2 ^ 11).toNat, by omega⟩
  have hN4 : 4 ≤ N ∧ N ≤ 2051 := by omega
  rw [pAdd_v, hN, w64 (n := (N : Int)) (by omega) (by omega), pBits_v, and_low (k := 4) (m := 15) (n := level) (by decide) rfl, pRem_v]
  refine ⟨by decide, ?_⟩
  obtain ⟨l, hl, hl9⟩ : ∃ l : Nat, 1 + (level % 2 ^ 4).tmod 9 = (l : Int) ∧ 1 ≤ l ∧ l ≤ 9 := by
    have h0 : 0 ≤ level % 2 ^ 4 := Int.emod_nonneg _ (by decide)
    have h1 := Int.tmod_lt_of_pos (level % 2 ^ 4) (show (0 : Int) < 9 by decide)
    have h2 := Int.tmod_nonneg (9 : Int) h0
    exact ⟨(1 + (level % 2 ^ 4).tmod 9).toNat, by omega, by omega, by omega⟩
  rw [pAdd_v, hl, w64 (n := (l : Int)) (by omega) (by omega)]
  refine ⟨fun s i H' => ∃ k : Nat, i = .int .i64 (k : Int) ∧ k ≤ N ∧ s = str (List.replicate k u) ∧ Ext H1 H', fun _ i _ => match i with | .int _ x => 3000 - x.toNat | _ => 0, ⟨0, rfl, by omega, rfl, Ext.refl _⟩, ?_⟩
  rintro _ _ _ H2 ⟨k, rfl, hk, rfl, hx2⟩
  rw [pLt_v]
  refine pCond_if (fun hc => ?_) (fun hc => ?_)
  · refine (Owns.start (H := H2)).build1 (sz := 1) (by decide) rfl rfl fun y H3 o => ?_
    refine (o.sl (v := y) (by repeat (first | exact List.mem_cons_self | apply List.mem_cons_of_mem))).str (l := [u]) ?_
    refine pAdd_str (by rw [List.length_replicate]; show k + 1 ≤ _; omega) ?_
    rw [pAdd_v, w64 (n := (k : Int) + 1) (by omega) (by omega)]
    exact ⟨⟨k + 1, rfl, by omega, by rw [List.replicate_succ'], hx2.trans o.ext⟩, by show 3000 - ((k : Int) + 1).toNat < 3000 - (k : Int).toNat; omega⟩
  · have hkN : k = N := by omega
    subst hkN
    refine tokensA_spec (A := []) (l := l) (hG.ext hx2) (by omega) (by rw [List.length_replicate]; show 0 + k ≤ _; omega) fun H3 y L' o => ?_
    have htk : (tokA [] (List.replicate k u) l).length ≤ 3 + k / 258 := by
      unfold tokA
      rw [if_neg (by omega)]
      show (toksF (List.replicate k u) (depthN l) (decide (4 ≤ l)) (List.replicate k u).length 0).length ≤ _
      exact rep_few (depth_pos (by omega) (by omega)) (by omega) (by rw [List.length_replicate]; exact Nat.le_refl _)
    refine pExtract_to rfl ?_
    refine pExtract_to rfl ?_
    rw [pEq_0, decide_eq_true (show (0 : Int) = 0 from rfl)]
    refine pAnd_true ?_
    refine (o.sl (v := y) (by repeat (first | exact List.mem_cons_self | apply List.mem_cons_of_mem))).len (toksL_len _) (by decide) ?_
    rw [pQuo_v]
    refine ⟨by decide, ?_⟩
    rw [show ((k : Nat) : Int).tdiv 258 = ((k / 258 : Nat) : Int) from rfl, w64 (n := ((k / 258 : Nat) : Int)) (by omega) (by omega), pAdd_v, w64 (n := 3 + ((k / 258 : Nat) : Int)) (by omega) (by omega), pLe_v, decide_eq_true (by omega)]
    intro _
    exact ⟨rfl, hx1.trans (hx2.trans o.ext)⟩
set_option maxHeartbeats 1000000 in
theorem MatchTokens_law (A s : List UInt8) (level : Int) (hG : Reads H ⟨0, 0, none⟩ depthsV) (w0 : (ByteArray.mk A.toArray).size ≤ maxLen) (w1 : (ByteArray.mk s.toArray).size ≤ maxLen) (w2 : (Lit.int .i64 level).wf = true) :
    CallsH Tryd.prog 6 #[str A, str s, .int .i64 level] H (LawOk H) := by
  have hmax : maxLen = 9223372036854775807 := rfl
  rw [bys_size] at w0 w1
  refine lighterlaw08_MatchTokens.vc _ _ _ _ _ ?_
  unfold lighterlaw08_MatchTokens.res
  refine speaks8_spec hG fun H1 hx1 => ?_
  have hG := hG.ext hx1
  rw [pNot_v, Bool.not_true, pCond_false]
  refine cut8 (n := 900) (by omega) (by decide) ?_
  refine cut8 (n := 900) (by omega) (by decide) ?_
  have hA : (A.take 900).length ≤ 900 := by rw [List.length_take]; omega
  have hs : (s.take 900).length ≤ 900 := by rw [List.length_take]; omega
  generalize A.take 900 = A at *
  generalize s.take 900 = s at *
  have hor : ∀ {KE : Value → Heap → Prop} {H' : Heap}, KE (.bool (decide (level < 0) || decide (9 < level))) H' → pLt (.int .i64 level) (.int .i64 0) fun x38 => pOr x38 (fun J => pGt (.int .i64 level) (.int .i64 9) fun x41 => J x41 H') H' KE := fun {KE H'} hK => by
    rw [pLt_v]
    exact pOr_if (d := decide (9 < level)) (fun _ => by rw [pGt_v]; exact ⟨rfl, rfl⟩) hK
  by_cases hbad : level < 0 ∨ 9 < level
  · refine tokensA_bad hbad ?_
    refine pExtract_to rfl ?_
    refine pExtract_to rfl ?_
    refine hor ?_
    intro _
    rw [show (decide (level < 0) || decide (9 < level)) = true from by rw [Bool.or_eq_true, decide_eq_true_eq, decide_eq_true_eq]; exact hbad, pCond_true, pEq_0, decide_eq_true (show (1 : Int) = 1 from rfl)]
    refine pAnd_true ?_
    rw [pLen_v, pEq_0, decide_eq_true (show ((0 : Nat) : Int) = 0 from rfl)]
    intro _
    exact ⟨rfl, hx1⟩
  obtain ⟨l, rfl⟩ : ∃ l : Nat, level = l := ⟨level.toNat, by omega⟩
  have hl9 : l ≤ 9 := by omega
  refine tokensA_spec (l := l) hG hl9 (by omega) fun H2 y L' o => ?_
  have hy := o.sl (v := y) (by repeat (first | exact List.mem_cons_self | apply List.mem_cons_of_mem))
  have hcount := tokA_count A s l
  have hgood := tokA_good A s l
  have htells := tokA_tells A s l
  refine pExtract_to rfl ?_
  refine pExtract_to rfl ?_
  refine hor ?_
  intro _
  rw [show (decide ((l : Int) < 0) || decide (9 < (l : Int))) = false from by rw [Bool.or_eq_false_iff, decide_eq_false_iff_not, decide_eq_false_iff_not]; omega, pCond_false]
  refine expand_spec hy (fun t ht => fits8 (hgood t ht).1) (by omega) fun H3 hx3 => ?_
  unfold expandV
  rw [htells]
  refine pExtract_to rfl ?_
  refine pExtract_to rfl ?_
  have hy := hy.ext hx3
  have hx3 : Ext H1 H3 := o.ext.trans hx3
  rw [pNe_0, decide_eq_false (by simp)]
  refine pOr_false ?_
  rw [pNot_v]
  intro _
  refine pOr_false ?_
  refine pNe1_to ?_
  rw [List.drop_left, decide_eq_false (fun g => g rfl)]
  intro _
  rw [pCond_false]
  refine ⟨fun i H' => ∃ k : Nat, i = .int .i64 (k : Int) ∧ H3 = H', fun i _ => match i with | .int _ x => 1000 - x.toNat | _ => 0, ⟨0, rfl, rfl⟩, ?_⟩
  rintro _ _ _ ⟨k, rfl, rfl⟩
  refine hy.len (toksL_len _) (by decide) ?_
  rw [pLt_v]
  refine pCond_if (fun hc => ?_) (fun hc => ?_)
  · have hkl : k < (tokA A s l).length := by omega
    rw [pEq_0]
    refine pAnd_if (d := false) (fun h0 => ?_) ?_
    · rw [decide_eq_true_eq] at h0
      refine tok_n hy hkl (by omega) ?_
      rw [pGt_v]
      refine ⟨?_, rfl⟩
      refine congrArg Value.bool ?_
      rw [decide_eq_false_iff_not]
      have hm := List.getElem_mem hkl
      have h00 : l = 0 := by omega
      have e : tokA A s l = s.map litT := by unfold tokA; rw [if_pos h00]
      have : ∀ t ∈ tokA A s l, t.n = 0 := by
        rw [e]
        intro t ht
        obtain ⟨x, _, rfl⟩ := List.mem_map.1 ht
        rfl
      rw [this _ hm]; decide
    intro _
    rw [Bool.and_false, pCond_false, pAdd_v, w64 (n := (k : Int) + 1) (by omega) (by omega)]
    exact ⟨⟨k + 1, rfl, rfl⟩, by show 1000 - ((k : Int) + 1).toNat < 1000 - (k : Int).toNat; omega⟩
  refine pAdd_str (by show 2 + A.length ≤ _; omega) ?_
  refine tokensA_spec (A := [122, 122] ++ A) (l := l) (hG.ext hx3) hl9 (by rw [List.length_append]; show 2 + A.length + _ ≤ _; omega) fun H4 y2 L2 o2 => ?_
  have hcount2 := tokA_count ([122, 122] ++ A) s l
  have hy := hy.ext o2.ext
  have hx4 := hx3.trans o2.ext
  refine pExtract_to rfl ?_
  refine pExtract_to rfl ?_
  refine pLenS_to ?_
  rw [pEq_0]
  refine pAnd_if (d := false) (fun _ => ?_) ?_
  · refine (o2.sl (v := y2) (by repeat (first | exact List.mem_cons_self | apply List.mem_cons_of_mem))).len (toksL_len _) (by decide) ?_
    refine pLenS_to ?_
    rw [pGt_v]
    refine ⟨?_, rfl⟩
    refine congrArg Value.bool ?_
    rw [decide_eq_false_iff_not]
    omega
  intro _
  rw [Bool.and_false, pCond_false, pLt_v]
  refine pOr_if (d := decide (((s.length : Nat) : Int) = 0)) (fun _ => ?_) ?_
  · refine pLenS_to ?_
    rw [pEq_0]
    exact ⟨rfl, rfl⟩
  intro _
  refine pCond_b (fun _ => ⟨rfl, hx1.trans hx4⟩) (fun hb => ?_)
  rw [Bool.or_eq_false_iff, decide_eq_false_iff_not, decide_eq_false_iff_not] at hb
  obtain rfl : l = 9 := by omega
  have hs1 : 0 < s.length := by omega
  have hTl : (A ++ s).length = A.length + s.length := List.length_append
  refine refLong_spec (by omega) ?_
  refine pExtract_to rfl ?_
  refine pExtract_to rfl ?_
  have etok : tokA A s 9 = toksF (A ++ s) 1073741824 true ((A ++ s).length - 1 + 1) A.length := by
    unfold tokA
    rw [if_neg (by decide), lastB_all (by omega), show (A ++ s).length - 1 + 1 = (A ++ s).length by omega]
    rfl
  rw [etok] at hy hcount
  have href := longF_ref (T := A ++ s) (depth := 1073741824) (i := A.length) (by omega)
  have href2 := longF_ref (T := A ++ s) (depth := 1073741824) (i := A.length + 1) (by omega)
  by_cases h0 : takeN (A ++ s) 1073741824 true A.length = 0
  · rw [toksF_lit (by omega) h0] at hy hcount
    refine tok_n (i := 0) hy (by rw [List.length_cons]; omega) (by omega) ?_
    rw [pGt_v, decide_eq_false (by show ¬ (0 : Int) < 0; decide), pCond_false]
    refine pSlStr_to (lo := 0) (hi := 1) (.inr ⟨rfl, rfl⟩) (.inl rfl) (by omega) (by omega) ?_
    rw [List.drop_zero, Nat.sub_zero]
    refine pAdd_str (by rw [List.length_take]; omega) ?_
    refine pSlStr_to (lo := 1) (hi := s.length) (.inl rfl) (.inr ⟨rfl, rfl⟩) (by omega) (by omega) ?_
    rw [List.take_of_length_le (l := s.drop 1) (by rw [List.length_drop]; exact Nat.le_refl _)]
    refine refLong_spec (by rw [List.length_append, List.length_take, List.length_drop]; omega) ?_
    refine pExtract_to rfl ?_
    refine pExtract_to rfl ?_
    rw [List.append_assoc, List.take_append_drop, List.length_append, List.length_take, show min 1 s.length = 1 by omega, ← href, ← href2, pEq_0]
    refine pOr_if (d := decide ((longF (A ++ s) 1073741824 A.length).1 < (longF (A ++ s) 1073741824 (A.length + 1)).1)) (fun _ => ?_) ?_
    · rw [pGt_v]
      refine ⟨?_, rfl⟩
      refine congrArg Value.bool ?_
      rw [decide_eq_decide]
      omega
    intro _
    refine ⟨?_, hx1.trans hx4⟩
    refine congrArg Value.bool ?_
    rw [Bool.or_eq_true, decide_eq_true_eq, decide_eq_true_eq]
    unfold takeN at h0
    by_cases hc : 0 < (longF (A ++ s) 1073741824 A.length).1 ∧ true = true ∧ (longF (A ++ s) 1073741824 A.length).1 < 258 ∧ (longF (A ++ s) 1073741824 A.length).1 < (longF (A ++ s) 1073741824 (A.length + 1)).1
    · right; exact hc.2.2.2
    · rw [if_neg hc] at h0
      left; omega
  · obtain ⟨t1, t2, _⟩ := take_is h0
    rw [toksF_mat (by omega) h0] at hy hcount
    refine tok_n (i := 0) hy (by rw [List.length_cons]; omega) (by omega) ?_
    rw [pGt_v, decide_eq_true (by show (0 : Int) < (takeN (A ++ s) 1073741824 true A.length : Int); omega), pCond_true]
    refine tok_n (i := 0) hy (by rw [List.length_cons]; omega) (by omega) ?_
    rw [← href, pEq_0, decide_eq_true (by show (takeN (A ++ s) 1073741824 true A.length : Int) = _; rw [t1])]
    refine pAnd_true ?_
    refine tok_d (i := 0) hy (by rw [List.length_cons]; omega) (by omega) ?_
    rw [pEq_0, decide_eq_true (by rfl)]
    intro _
    exact ⟨rfl, hx1.trans hx4⟩
theorem farEnd {l : List Tok} {P s : List UInt8} {y : Value} (hy : Sl H y 3 (toksL l)) (hgood : ∀ t ∈ l, goodK t = true) (hP : P.length ≤ 100000) (hl : l.length ≤ 100000) (htells : expandF l P = some (P ++ s)) (h : ∀ H', Ext H H' → R (.tuple #[str s, .bool true]) H') : CallsH Tryd.prog 21 #[str P, y] H R := by
  refine expand_spec hy (fun t ht => fits8 (hgood t ht)) (by omega) fun H5 hx5 => ?_
  unfold expandV
  rw [htells]
  have e : (P ++ s).drop P.length = s := List.drop_left
  show R (.tuple #[str ((P ++ s).drop P.length), .bool true]) H5
  rw [e]
  exact h H5 hx5
theorem zeros8 (n : Nat) : List.replicate n (Value.int .u8 0) = (List.replicate n (0 : UInt8)).map byteV := by simp [byteV]
set_option maxHeartbeats 1000000 in
theorem MatchFar_law (A B s : List UInt8) (hG : Reads H ⟨0, 0, none⟩ depthsV) (w0 : (ByteArray.mk A.toArray).size ≤ maxLen) (w1 : (ByteArray.mk B.toArray).size ≤ maxLen) (w2 : (ByteArray.mk s.toArray).size ≤ maxLen) :
    CallsH Tryd.prog 7 #[str A, str B, str s] H (LawOk H) := by
  have hmax : maxLen = 9223372036854775807 := rfl
  rw [bys_size] at w0 w1 w2
  refine lighterlaw08_MatchFar.vc _ _ _ _ _ ?_
  unfold lighterlaw08_MatchFar.res
  refine speaks8_spec hG fun H1 hx1 => ?_
  have hG := hG.ext hx1
  rw [pNot_v, Bool.not_true, pCond_false]
  refine cut8 (n := 50) (by omega) (by decide) ?_
  refine cut8 (n := 50) (by omega) (by decide) ?_
  refine cut8 (n := 60) (by omega) (by decide) ?_
  have hA : (A.take 50).length ≤ 50 := by rw [List.length_take]; omega
  have hB : (B.take 50).length ≤ 50 := by rw [List.length_take]; omega
  have hs : (s.take 60).length ≤ 60 := by rw [List.length_take]; omega
  generalize A.take 50 = A at *
  generalize B.take 50 = B at *
  generalize s.take 60 = s at *
  obtain ⟨K, hK⟩ : ∃ K : Nat, K = 32768 := ⟨_, rfl⟩
  rw [show (32768 : Int) = ((K : Nat) : Int) by omega]
  refine (Owns.start (H := H1)).make1 (by omega) (by omega) (by omega) fun z H2 o => ?_
  rw [Int.toNat_natCast, zeros8] at o
  refine (o.sl (v := z) (by repeat (first | exact List.mem_cons_self | apply List.mem_cons_of_mem))).str ?_
  have hF : (List.replicate K (0 : UInt8)).length = K := List.length_replicate ..
  generalize List.replicate K (0 : UInt8) = F at *
  have hx2 := o.ext
  clear o
  have hlast : ∀ X : List UInt8, lastB (X ++ F) = F := fun X => by
    unfold lastB
    rw [List.length_append, hF, show X.length + K - 32768 = X.length by omega, List.drop_left]
  have hsame : tokA (B ++ F) s 9 = tokA (A ++ F) s 9 := by
    unfold tokA
    rw [hlast, hlast]
  refine pAdd_str (by omega) ?_
  refine tokensA_spec (l := 9) (hG.ext hx2) (by decide) (by rw [List.length_append]; omega) fun H3 y L3 o => ?_
  refine pExtract_to rfl ?_
  refine pExtract_to rfl ?_
  refine pAdd_str (by omega) ?_
  refine tokensA_spec (l := 9) (hG.ext (hx2.trans o.ext)) (by decide) (by rw [List.length_append]; omega) fun H4 y2 L4 o2 => ?_
  rw [hsame] at o2
  refine pExtract_to rfl ?_
  refine pExtract_to rfl ?_
  have hcount := tokA_count (A ++ F) s 9
  have hgood := tokA_good (A ++ F) s 9
  have htells := tokA_tells (A ++ F) s 9
  have hy := (o.sl (v := y) (by repeat (first | exact List.mem_cons_self | apply List.mem_cons_of_mem))).ext o2.ext
  have hy2 := o2.sl (v := y2) (by repeat (first | exact List.mem_cons_self | apply List.mem_cons_of_mem))
  have hx4 := hx1.trans (hx2.trans (o.ext.trans o2.ext))
  generalize tokA (A ++ F) s 9 = l at *
  rw [pNe_0, decide_eq_false (by simp)]
  refine pOr_false ?_
  rw [pNe_0, decide_eq_false (by simp)]
  intro _
  refine pOr_false ?_
  refine hy.len (toksL_len _) (by decide) ?_
  refine hy2.len (toksL_len _) (by decide) ?_
  rw [pNe_0, decide_eq_false (fun g => g rfl)]
  intro _
  rw [pCond_false]
  refine ⟨fun i H' => ∃ k : Nat, i = .int .i64 (k : Int) ∧ H4 = H', fun i _ => match i with | .int _ x => 1000 - x.toNat | _ => 0, ⟨0, rfl, rfl⟩, ?_⟩
  rintro _ _ _ ⟨k, rfl, rfl⟩
  refine hy.len (toksL_len _) (by decide) ?_
  rw [pLt_v]
  refine pCond_if (fun hc => ?_) (fun hc => ?_)
  · have hkl : k < l.length := by omega
    refine tok_all hy hkl (by omega) ?_
    refine tok_all hy2 hkl (by omega) ?_
    refine neTokA ?_
    refine pOr_false ?_
    refine tok_d hy hkl (by omega) ?_
    have hd := (hgood _ (List.getElem_mem hkl)).2
    rw [pGt_v, decide_eq_false (by omega)]
    intro _
    rw [pCond_false, pAdd_v, w64 (n := (k : Int) + 1) (by omega) (by omega)]
    exact ⟨⟨k + 1, rfl, rfl⟩, by show 1000 - ((k : Int) + 1).toNat < 1000 - (k : Int).toNat; omega⟩
  refine pAdd_str (by omega) ?_
  refine farEnd hy (fun t ht => (hgood t ht).1) (by rw [List.length_append]; omega) (by omega) htells fun H5 hx5 => ?_
  refine pExtract_to rfl ?_
  refine pExtract_to rfl ?_
  refine pAnd_true ?_
  refine pEq1_to ?_
  rw [decide_eq_true rfl]
  intro _
  exact ⟨rfl, hx4.trans hx5⟩
set_option maxHeartbeats 1000000 in
theorem MatchFewest_law (A s : List UInt8) (level : Int) (hG : Reads H ⟨0, 0, none⟩ depthsV) (w0 : (ByteArray.mk A.toArray).size ≤ maxLen) (w1 : (ByteArray.mk s.toArray).size ≤ maxLen) (w2 : (Lit.int .i64 level).wf = true) :
    CallsH Tryd.prog 8 #[str A, str s, .int .i64 level] H (LawOk H) := by
  have hmax : maxLen = 9223372036854775807 := rfl
  rw [bys_size] at w0 w1
  refine lighterlaw08_MatchFewest.vc _ _ _ _ _ ?_
  unfold lighterlaw08_MatchFewest.res
  refine speaks8_spec hG fun H1 hx1 => ?_
  have hG := hG.ext hx1
  rw [pNot_v, Bool.not_true, pCond_false]
  refine cut8 (n := 120) (by omega) (by decide) ?_
  refine cut8 (n := 120) (by omega) (by decide) ?_
  have hA : (A.take 120).length ≤ 120 := by rw [List.length_take]; omega
  have hs : (s.take 120).length ≤ 120 := by rw [List.length_take]; omega
  generalize A.take 120 = A at *
  generalize s.take 120 = s at *
  have hTl : (A ++ s).length = A.length + s.length := List.length_append
  refine fewestA_spec (by omega) fun H2 y L2 o => ?_
  obtain ⟨htells, hcount⟩ := fewF_tells (T := A ++ s) (A ++ s).length A.length (by omega) (by omega)
  rw [List.take_left, show (A ++ s).length - A.length = s.length by omega] at *
  have hgood := fewF_good (T := A ++ s) (A ++ s).length A.length
  have hbest := bestC_le (lensM (A ++ s)) (lensM_le (A ++ s)) s.length
  have hy := o.sl (v := y) (by repeat (first | exact List.mem_cons_self | apply List.mem_cons_of_mem))
  refine expand_spec hy (fun t ht => fits8 (hgood t ht)) (by omega) fun H3 hx3 => ?_
  unfold expandV
  rw [htells]
  refine pExtract_to rfl ?_
  refine pExtract_to rfl ?_
  have hy := hy.ext hx3
  rw [pBits_v, and_low (k := 4) (m := 15) (n := level) (by decide) rfl, pAdd_v, w64 (n := level % 2 ^ 4 + 10) (by omega) (by omega), pRem_v]
  refine ⟨by decide, ?_⟩
  obtain ⟨l, hl, hl9⟩ : ∃ l : Nat, (level % 2 ^ 4 + 10).tmod 10 = (l : Int) ∧ l ≤ 9 := by
    have h0 : 0 ≤ level % 2 ^ 4 + 10 := by have := Int.emod_nonneg level (show (2 ^ 4 : Int) ≠ 0 by decide); omega
    have h1 := Int.tmod_lt_of_pos (level % 2 ^ 4 + 10) (show (0 : Int) < 10 by decide)
    have h2 := Int.tmod_nonneg (10 : Int) h0
    exact ⟨((level % 2 ^ 4 + 10).tmod 10).toNat, by omega, by omega⟩
  rw [hl]
  refine tokensA_spec (l := l) (hG.ext (o.ext.trans hx3)) hl9 (by omega) fun H4 y2 L4 o2 => ?_
  have hy := hy.ext o2.ext
  have hmin : bestC (lensM (A ++ s)) s.length ≤ (tokA A s l).length := by
    unfold tokA
    by_cases h0 : l = 0
    · rw [if_pos h0, List.length_map]; exact hbest
    · rw [if_neg h0, lastB_all (by omega)]
      have := toksF_least (T := A ++ s) (dp := depthN l) (lazy := decide (4 ≤ l)) (by omega) (A ++ s).length A.length (by omega) (by omega)
      rw [show (A ++ s).length - A.length = s.length by omega] at this
      exact this
  have hcount2 := tokA_count A s l
  refine pExtract_to rfl ?_
  refine pExtract_to rfl ?_
  refine pAnd_true ?_
  refine pEq1_to ?_
  rw [List.drop_left, decide_eq_true rfl]
  intro _
  refine pAnd_true ?_
  refine hy.len (toksL_len _) (by decide) ?_
  refine refFew_spec (by omega) fun H5 hx5 => ?_
  rw [hcount, pEq_0, decide_eq_true rfl]
  intro _
  refine pAnd_true ?_
  refine ((o2.sl (v := y2) (by repeat (first | exact List.mem_cons_self | apply List.mem_cons_of_mem))).ext hx5).len (toksL_len _) (by decide) ?_
  refine (hy.ext hx5).len (toksL_len _) (by decide) ?_
  rw [hcount, pGe_v, decide_eq_true (by omega)]
  intro _
  exact ⟨rfl, hx1.trans (o.ext.trans (hx3.trans (o2.ext.trans hx5)))⟩
end Go.Proofs.YtfmbgnchedhneaaDoor
