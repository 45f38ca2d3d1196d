/- The law CanonShares over heaps. -/
import Derived.Test.YtcbaklebiohedaaWord03
namespace Go.Proofs.Ytcbaklebiohedaa
open Go Go.Vc Go.Proofs
set_option linter.unusedVariables false
set_option linter.unusedSimpArgs false
variable {H : Heap} {R : Value → Heap → Prop} {v : Value} {zs : List Int}
/-- the words that are free, of lengths below k -/
def freeL (S k : Nat) : List Nat := (List.range k).filter fun n => decide (1 ≤ n) && decide ((32768 - S) / 2 ^ (15 - n) % 2 = 1)
theorem freeL_succ (S k : Nat) : freeL S (k + 1) = freeL S k ++ (if 1 ≤ k ∧ (32768 - S) / 2 ^ (15 - k) % 2 = 1 then [k] else []) := by
  unfold freeL
  rw [List.range_succ, List.filter_append, List.filter_cons, List.filter_nil]
  by_cases h : 1 ≤ k ∧ (32768 - S) / 2 ^ (15 - k) % 2 = 1
  · rw [if_pos h, decide_eq_true h.1, decide_eq_true h.2]; rfl
  · rw [if_neg h]
    by_cases h1 : 1 ≤ k
    · rw [decide_eq_false (p := (32768 - S) / 2 ^ (15 - k) % 2 = 1) (fun g => h ⟨h1, g⟩), Bool.and_false]; rfl
    · rw [decide_eq_false h1]; rfl
theorem freeL_mem {S k n : Nat} (h : n ∈ freeL S k) : 1 ≤ n ∧ n < k := by
  unfold freeL at h
  rw [List.mem_filter, List.mem_range, Bool.and_eq_true, decide_eq_true_eq, decide_eq_true_eq] at h
  exact ⟨h.2.1, h.1⟩
theorem freeL_len (S k : Nat) : (freeL S k).length ≤ k := by
  have := List.length_filter_le (fun n => decide (1 ≤ n) && decide ((32768 - S) / 2 ^ (15 - n) % 2 = 1)) (List.range k)
  rw [List.length_range] at this
  exact this
theorem share_one {k : Nat} (h1 : 1 ≤ k) (h2 : k ≤ 15) : shareL [k] 15 = 2 ^ (15 - k) := by
  unfold shareL; rw [List.map_cons, List.map_nil, List.sum_cons, List.sum_nil, if_pos ⟨h1, h2⟩, Nat.add_zero]
theorem freeL_share {S : Nat} (h0 : 1 ≤ S) : ∀ k, k ≤ 15 → shareL (freeL S (k + 1)) 15 = (32768 - S) / 2 ^ (15 - k) * 2 ^ (15 - k)
  | 0, _ => by
    rw [show freeL S (0 + 1) = [] from rfl, Nat.div_eq_of_lt (by show 32768 - S < 32768; omega), Nat.zero_mul]; rfl
  | k + 1, h => by
    have ih := freeL_share h0 k (by omega)
    have h2 : (32768 - S) / 2 ^ (15 - (k + 1)) % 2 < 2 := Nat.mod_lt _ (by decide)
    have e : (32768 - S) / 2 ^ (15 - k) = (32768 - S) / 2 ^ (15 - (k + 1)) / 2 := by
      rw [Nat.div_div_eq_div_mul, ← Nat.pow_succ, Nat.succ_eq_add_one, show 15 - (k + 1) + 1 = 15 - k by omega]
    have e2 : 2 ^ (15 - k) = 2 * 2 ^ (15 - (k + 1)) := by rw [show 15 - k = (15 - (k + 1)) + 1 by omega, Nat.pow_succ, Nat.mul_comm]
    rw [freeL_succ, shareL_append, ih, e, e2]
    have hs1 := share_one (k := k + 1) (by omega) h
    generalize (32768 - S) / 2 ^ (15 - (k + 1)) = x at *
    generalize 2 ^ (15 - (k + 1)) = P at *
    have hm : x / 2 * (2 * P) = (x / 2 * 2) * P := by rw [Nat.mul_assoc]
    rw [hm]
    by_cases hb : x % 2 = 1
    · rw [if_pos ⟨by omega, hb⟩, hs1]
      have hx : x = x / 2 * 2 + 1 := by omega
      conv => rhs; rw [hx]
      rw [Nat.add_mul, Nat.one_mul]
    · rw [if_neg (fun g => hb g.2)]
      have hx : x / 2 * 2 = x := by omega
      rw [hx]; rfl
theorem canonFill_any (hs : Sl H v 1 (numsV zs)) (hlen : zs.length ≤ maxLen) (S : Nat) (hS : S = shareL (natL zs) 15) (F : List Int) (hF1 : ¬ (okZ zs ∧ S ≤ 32768) → F = []) (hF2 : okZ zs → S ≤ 32768 → F = fillL S) (h : ∀ y H', Owns H H' [.sl y 1 (numsV F)] → R y H') : CallsH Try.prog 16 #[v] H R := by
  subst hS
  refine canonFill_spec hs hlen (fun g => ?_) (fun g1 g2 y H' o => ?_)
  · refine h _ _ ?_
    rw [hF1 g]
    exact Owns.start.add (Ext.refl _) ⟨by decide, .inl ⟨rfl, rfl⟩⟩ (by intro k hk; exact absurd hk (by simp [It.foot, blkOf]))
  · refine h _ _ ?_
    rw [hF2 g1 g2]
    exact o
theorem CanonShares_law (a : Option Addr) (len cap : Nat) (zs : List Int) (w0 : IntRow .i64 H a len cap zs) : CallsH Try.prog 5 #[.slice a len cap] H (LawOk H) := by
  obtain ⟨l, hl, hmx, hr, hs⟩ := int_rows w0
  have hmax : maxLen = 9223372036854775807 := rfl
  have hvl : (numsV l).length = l.length * 1 := by rw [numsV_len]; omega
  refine lighterlaw03_CanonShares.vc _ _ _ ?_
  unfold lighterlaw03_CanonShares.res
  refine speaks03_spec fun H1 hx1 => ?_
  rw [pNot_v, Bool.not_true, pCond_false]
  have hs := hs.ext hx1
  refine hs.len hvl (by decide) ?_
  rw [pMin_v]
  refine hs.cut (by decide) hvl (lo := 0) (hi := min l.length 250) (by omega) (by omega) (fun v' hs' => ?_) (.inr ⟨rfl, rfl⟩) (.inl (by congr 2; omega))
  rw [Nat.zero_mul, List.drop_zero, Nat.sub_zero, Nat.mul_one, numsV_take] at hs'
  have hl' : (l.take (min l.length 250)).length ≤ 250 := by rw [List.length_take]; omega
  clear hr hs hvl hl
  generalize l.take (min l.length 250) = zs at *
  have hvl : (numsV zs).length = zs.length * 1 := by rw [numsV_len]; omega
  refine why_spec hs' (by omega) ?_
  by_cases hok : okZ zs
  rotate_left
  · rw [why_no hok]
    refine canonShare_spec hs' (by omega) (fun _ => ?_) (fun g => absurd g hok)
    refine canonFill_spec hs' (by omega) (fun _ => ?_) (fun g => absurd g hok)
    rw [pEq_0, decide_eq_true (by rfl), pCond_true, pEq_0, decide_eq_true (by rfl)]
    refine pAnd_true ?_
    rw [show pLen (.slice none 0 0) = fun K => K (.int .i64 0) from rfl]
    show pEq 0 _ _ _
    rw [pEq_0, decide_eq_true (by rfl)]
    intro _
    exact ⟨rfl, hx1⟩
  refine canonShare_spec hs' (by omega) (fun g => absurd hok g) (fun _ => ?_)
  obtain ⟨S, hS⟩ : ∃ S, S = shareL (natL zs) 15 := ⟨_, rfl⟩
  obtain ⟨F, hF1, hF2⟩ : ∃ F : List Int, (¬ (okZ zs ∧ S ≤ 32768) → F = []) ∧ (okZ zs → S ≤ 32768 → F = fillL S) := by
    by_cases g : S ≤ 32768
    · exact ⟨fillL S, fun h => absurd ⟨hok, g⟩ h, fun _ _ => rfl⟩
    · exact ⟨[], fun _ => rfl, fun _ h => absurd h g⟩
  refine canonFill_any hs' (by omega) S hS F hF1 hF2 fun y H4 o => ?_
  have hwhy : whyL zs false = if 32768 < S then 5 else if S < 32768 then 4 else 0 := by
    rw [why_ok hok, ← hS]
    simp
  have hw1 : whyL zs false ≠ 1 := by
    rw [hwhy]; split
    · decide
    · split <;> decide
  have hw5 : decide (whyL zs false = 5) = decide (32768 < (S : Int)) := by
    rw [hwhy, Bool.eq_iff_iff, decide_eq_true_eq, decide_eq_true_eq]
    split
    · constructor
      · intro _; omega
      · intro _; rfl
    · split
      · constructor
        · intro h; exact absurd h (by decide)
        · omega
      · constructor
        · intro h; exact absurd h (by decide)
        · omega
  rw [← hS]
  generalize whyL zs false = e at *
  rw [pEq_0, decide_eq_false hw1, pCond_false]
  have hs1 := hs'
  have hs' := hs'.ext o.ext
  have hok' := hok.2
  refine ⟨fun s i H' => ∃ k : Nat, i = .int .i64 k ∧ k ≤ zs.length ∧ s = .int .i64 (shareL (natL (zs.take k)) 15 : Nat) ∧ H4 = H', fun _ i _ => match i with | .int _ x => (1000 - x).toNat | _ => 0, ⟨0, rfl, by omega, rfl, rfl⟩, ?_⟩
  rintro _ _ _ _ ⟨k, rfl, hk, rfl, rfl⟩
  refine hs'.len hvl (by decide) ?_
  rw [pLt_v]
  refine pCond_if (fun hkl => ?_) (fun hkl => ?_)
  · have hkn : k < zs.length := by omega
    have hld : ∀ {K : Value → Prop}, K (.int .i64 zs[k]) → pIdxSl 1 v' (.int .i64 (k : Int)) fun x => pLoad H4 x K := fun hK =>
      hs'.at_ hvl (by decide) (by omega) (by omega) fun p hp => hp.load hs' (w := .int .i64 zs[k]) (by rw [Int.toNat_natCast, Nat.mul_one, numsV_get hkn]) hK
    have hz := hok' _ (List.getElem_mem hkn)
    have hsn := natL_snoc hkn
    have hsl := shareL_le (natL (zs.take k)) 15
    rw [natL_len, List.length_take] at hsl
    have hsl2 : shareL (natL (zs.take k)) 15 ≤ 288 * 2 ^ 15 := Nat.le_trans hsl (Nat.mul_le_mul_right _ (by omega))
    obtain ⟨q, hq⟩ : ∃ q : Nat, zs[k] = q := ⟨zs[k].toNat, by omega⟩
    rw [hq, Int.toNat_natCast] at hsn
    rw [hq] at hld hz
    refine ⟨fun s H' => s = .int .i64 (shareL (natL (zs.take (k + 1))) 15 : Nat) ∧ H4 = H', ?_, ?_⟩
    · rintro _ _ _ ⟨rfl, rfl⟩
      rw [pAdd_v, w64 (n := (k : Int) + 1) (by omega) (by omega)]
      exact ⟨⟨k + 1, rfl, by omega, rfl, rfl⟩, by show (_ : Int).toNat < (_ : Int).toNat; omega⟩
    rw [hsn, shareL_append]
    refine hld ?_
    rw [pGt_v]
    refine pCond_if (fun hz0 => ?_) (fun hz0 => ?_)
    rotate_left
    · have : q = 0 := by omega
      subst this
      exact ⟨rfl, rfl⟩
    refine ⟨fun p i H' => ∃ j : Nat, i = .int .i64 j ∧ j ≤ q ∧ p = .int .i64 (2 ^ (15 - j) : Nat) ∧ H4 = H', fun _ i _ => match i with | .int _ x => (1000 - x).toNat | _ => 0, ⟨0, rfl, by omega, rfl, rfl⟩, ?_⟩
    rintro _ _ _ _ ⟨j, rfl, hj, rfl, rfl⟩
    have hp2 : 2 ^ (15 - j) ≤ 2 ^ 15 := Nat.pow_le_pow_right (by decide) (by omega)
    refine hld ?_
    rw [pLt_v]
    refine pCond_if (fun hjq => ?_) (fun hjq => ?_)
    · have e : 2 ^ (15 - j) = 2 * 2 ^ (15 - (j + 1)) := by rw [show 15 - j = (15 - (j + 1)) + 1 by omega, Nat.pow_succ, Nat.mul_comm]
      rw [pQuo_v]
      refine ⟨by decide, ?_⟩
      rw [e] at hp2 ⊢
      generalize hP : 2 ^ (15 - (j + 1)) = P at *
      rw [Int.tdiv_eq_ediv_of_nonneg (Int.natCast_nonneg _), show ((2 * P : Nat) : Int) / 2 = (P : Int) by omega, w64 (n := (P : Int)) (by omega) (by omega), pAdd_v, w64 (n := (j : Int) + 1) (by omega) (by omega)]
      exact ⟨⟨j + 1, rfl, by omega, by rw [hP], rfl⟩, by show (_ : Int).toNat < (_ : Int).toNat; omega⟩
    have hje : j = q := by omega
    subst hje
    rw [share_one (by omega) (by omega)]
    generalize 2 ^ (15 - j) = P at *
    rw [pAdd_v, w64 (n := ((shareL (natL (zs.take k)) 15 : Nat) : Int) + (P : Int)) (by omega) (by omega)]
    exact ⟨rfl, rfl⟩
  have hkk : k = zs.length := by omega
  rw [hkk, List.take_length, ← hS]
  clear hkl hk hkk
  rw [pNe_0, decide_eq_false (by simp)]
  refine pOr_if (d := false) (fun _ => ?_) ?_
  · rw [pEq_0, hw5, pGt_v, pNe_2, decide_eq_false (by simp)]
    exact ⟨rfl, rfl⟩
  intro _
  rw [show (false || false) = false from rfl, pCond_false, pGt_v]
  refine pCond_if (fun hbig => ?_) (fun hbig => ?_)
  · rw [hF1 (by omega)] at o
    refine (o.sl (v := y) (by repeat (first | exact List.mem_cons_self | apply List.mem_cons_of_mem))).len (n := 0) rfl (by decide) ?_
    rw [pEq_0, decide_eq_true (by rfl)]
    exact ⟨rfl, hx1.trans o.ext⟩
  have hle : S ≤ 32768 := by omega
  rw [hF2 hok hle] at o
  have hfl := fillL_len S
  have hyl : (numsV (fillL S)).length = 16 * 1 := by rw [numsV_len, hfl]
  refine o.build0 1 (by decide) fun w H5 o => ?_
  refine o.app (by repeat (first | exact Sel.here | apply Sel.there)) (hs1.ext o.ext) numsV_one (by rw [numsV_len]; show 2 * (0 + _) * 8 ≤ _; omega) fun w1 H6 o => ?_
  rw [List.nil_append] at o
  refine ⟨fun wv i H' => ∃ k : Nat, i = .int .i64 k ∧ k ≤ 16 ∧ Owns H1 H' [.sl wv 1 (numsV (zs ++ (freeL S k).map Int.ofNat)), .sl y 1 (numsV (fillL S))], fun _ i _ => match i with | .int _ x => (1000 - x).toNat | _ => 0, ⟨0, rfl, by omega, by rw [show freeL S 0 = [] from rfl, List.map_nil, List.append_nil]; exact o⟩, ?_⟩
  clear o
  rintro _ w2 _ H7 ⟨k, rfl, hk, o⟩
  refine (o.sl (v := y) (by repeat (first | exact List.mem_cons_self | apply List.mem_cons_of_mem))).len hyl (by decide) ?_
  rw [pLt_v]
  refine pCond_if (fun hkl => ?_) (fun hkl => ?_)
  · have hk16 : k < 16 := by omega
    have hld : ∀ {H' : Heap} {L : List It} {K : Value → Prop}, Owns H1 H' L → It.sl y 1 (numsV (fillL S)) ∈ L → K (.int .i64 (((32768 - S) / 2 ^ (15 - k) % 2 : Nat) : Int)) → pIdxSl 1 y (.int .i64 (k : Int)) fun x => pLoad H' x K := fun o hm hK =>
      (o.sl hm).at_ hyl (by decide) (by omega) (by omega) fun p hp => hp.load (o.sl hm) (by rw [Int.toNat_natCast, Nat.mul_one, numsV_get (by omega), fillL_at hk16]) hK
    have h2 : (32768 - S) / 2 ^ (15 - k) % 2 < 2 := Nat.mod_lt _ (by decide)
    have hfs := freeL_succ S k
    have hfz : k = 0 → decide (((((32768 - S) / 2 ^ (15 - k) % 2 : Nat) : Int)) = 1) = decide ((S : Int) = 0) := by
      intro h0
      subst h0
      rw [Bool.eq_iff_iff, decide_eq_true_eq, decide_eq_true_eq]
      constructor
      · intro h
        by_cases g : S = 0
        · omega
        · rw [Nat.div_eq_of_lt (by show 32768 - S < 32768; omega)] at h
          cases h
      · intro h
        have : S = 0 := by omega
        subst this; rfl
    have hb1 : (((((32768 - S) / 2 ^ (15 - k) % 2 : Nat) : Int)) = 1) ↔ (32768 - S) / 2 ^ (15 - k) % 2 = 1 := by omega
    generalize (32768 - S) / 2 ^ (15 - k) % 2 = c at *
    refine ⟨fun wv H' => Owns H1 H' [.sl wv 1 (numsV (zs ++ (freeL S (k + 1)).map Int.ofNat)), .sl y 1 (numsV (fillL S))], ?_, ?_⟩
    · intro _ w3 H8 o
      rw [pAdd_v, w64 (n := (k : Int) + 1) (by omega) (by omega)]
      exact ⟨⟨k + 1, rfl, by omega, o⟩, by show (_ : Int).toNat < (_ : Int).toNat; omega⟩
    refine hld o (by repeat (first | exact List.mem_cons_self | apply List.mem_cons_of_mem)) ?_
    rw [pLt_v, decide_eq_false (by omega)]
    refine pOr_if (d := false) (fun _ => hld o (by repeat (first | exact List.mem_cons_self | apply List.mem_cons_of_mem)) (by rw [pGt_v, decide_eq_false (by omega)]; exact ⟨rfl, rfl⟩)) ?_
    intro _
    refine pOr_if (d := false) (fun _ => ?_) ?_
    · rw [pEq_0]
      refine pAnd_split (fun h0 => fun _ => ⟨rfl, rfl⟩) (fun h0 => ?_)
      rw [decide_eq_true_eq] at h0
      have h0 : k = 0 := by omega
      subst h0
      refine hld o (by repeat (first | exact List.mem_cons_self | apply List.mem_cons_of_mem)) ?_
      rw [pEq_0, pEq_0, hfz rfl, pNe_2, decide_eq_false (by simp)]
      exact fun _ => ⟨rfl, rfl⟩
    intro _
    rw [show (false || false || false) = false from rfl, pCond_false, pGt_v]
    refine pAnd_if (d := decide ((c : Int) = 1)) (fun _ => hld o (by repeat (first | exact List.mem_cons_self | apply List.mem_cons_of_mem)) (by rw [pEq_0]; exact ⟨rfl, rfl⟩)) ?_
    intro _
    rw [hfs]
    refine pCond_b (fun hb => ?_) (fun hb => ?_)
    · rw [Bool.and_eq_true, decide_eq_true_eq, decide_eq_true_eq] at hb
      rw [if_pos ⟨by omega, by omega⟩]
      refine o.build1 (sz := 1) (by decide) rfl rfl fun z H8 o => ?_
      have hfl2 := freeL_len S k
      refine o.app (by repeat (first | exact Sel.here | apply Sel.there)) (o.sl (v := z) (by repeat (first | exact List.mem_cons_self | apply List.mem_cons_of_mem))) rfl (by rw [numsV_len, List.length_append, List.length_map]; show 2 * (_ + 1) * 8 ≤ _; omega) fun w3 H9 o => ?_
      have e : numsV (zs ++ (freeL S k).map Int.ofNat) ++ (Value.int .i64 (k : Int)).cells.toList = numsV (zs ++ (freeL S k ++ [k]).map Int.ofNat) := by
        rw [List.map_append, ← List.append_assoc, numsV_append (zs ++ _)]; rfl
      rw [e] at o
      exact o.arr (by repeat (first | exact Sels.nil | exact Sel.here | apply Sels.cons | apply Sel.there))
    · rw [if_neg (fun g => by
        rw [decide_eq_true (by omega), decide_eq_true (by omega)] at hb
        cases hb), List.append_nil]
      exact o
  have hk16 : k = 16 := by omega
  subst hk16
  refine (o.sl (v := y) (by repeat (first | exact List.mem_cons_self | apply List.mem_cons_of_mem))).len hyl (by decide) ?_
  rw [pEq_0, decide_eq_true (by rfl)]
  refine pAnd_true ?_
  rw [pEq_0]
  refine pOr_split (fun h => fun _ => fun _ => ⟨rfl, hx1.trans o.ext⟩) (fun hS0 => ?_)
  rw [decide_eq_false_iff_not] at hS0
  have hfl2 := freeL_len S 16
  have hlen : (zs ++ (freeL S 16).map Int.ofNat).length ≤ 266 := by rw [List.length_append, List.length_map]; omega
  refine why_spec (o.sl (by repeat (first | exact List.mem_cons_self | apply List.mem_cons_of_mem))) (by omega) ?_
  have hokw : okZ (zs ++ (freeL S 16).map Int.ofNat) := by
    refine ⟨by omega, fun z hz => ?_⟩
    rcases List.mem_append.1 hz with g | g
    · exact hok' z g
    · obtain ⟨n, hn, rfl⟩ := List.mem_map.1 g
      have := freeL_mem hn
      show 0 ≤ (n : Int) ∧ (n : Int) ≤ 15
      omega
  have hnat : natL (zs ++ (freeL S 16).map Int.ofNat) = natL zs ++ freeL S 16 := by
    unfold natL
    rw [List.map_append, List.map_map]
    congr 1
    exact (List.map_congr_left (fun n _ => rfl)).trans (List.map_id _)
  have hsh : shareL (natL (zs ++ (freeL S 16).map Int.ofNat)) 15 = 32768 := by
    rw [hnat, shareL_append, ← hS, freeL_share (by omega) 15 (by omega), Nat.sub_self, Nat.pow_zero, Nat.div_one, Nat.mul_one]
    omega
  rw [why_ok hokw, hsh, if_neg (by omega), if_neg (by omega), pEq_0, decide_eq_true (by rfl)]
  exact fun _ => fun _ => ⟨rfl, hx1.trans o.ext⟩
end Go.Proofs.Ytcbaklebiohedaa
