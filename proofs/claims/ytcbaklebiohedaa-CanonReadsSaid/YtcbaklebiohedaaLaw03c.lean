/- The law CanonReads over heaps. -/
import Derived.Test.YtcbaklebiohedaaNext03
namespace Go.Proofs.Ytcbaklebiohedaa
open Go Go.Vc Go.Proofs
set_option linter.unusedVariables false
set_option linter.unusedSimpArgs false
variable {H : Heap} {R : Value → Heap → Prop} {v : Value} {zs : List Int} {ls : List Nat} {B : List Bool}
theorem chr_bit (b : Bool) : Value.int .u8 (IntKind.u8.wrap (IntKind.i64.wrap (48 + ((b.toNat : Nat) : Int)))) = byteV (chr b) := by cases b <;> rfl
theorem pSlStr10_to {K : Value → Prop} {l : List UInt8} {m : Nat} (hm : m ≤ l.length) (h : K (str (l.drop m))) : pSlStr (str l) (some (.int .i64 (m : Int))) none K :=
  pSlStr_to (lo := m) (hi := l.length) (.inl rfl) (.inr ⟨rfl, rfl⟩) hm (Nat.le_refl _) (by rw [List.take_of_length_le (by rw [List.length_drop]; omega)]; exact h)
theorem textB_drop (l : List Bool) (n : Nat) : (textB l).drop n = textB (l.drop n) := by unfold textB; rw [List.map_drop]
theorem CanonReads_law (a : Option Addr) (len cap : Nat) (zs : List Int) (s : List UInt8) (spare : Int) (w0 : IntRow .i64 H a len cap zs) (w1 : (ByteArray.mk s.toArray).size ≤ maxLen) (w2 : (Lit.int .i64 spare).wf = true) : CallsH Try.prog 6 #[.slice a len cap, str s, .int .i64 spare] H (LawOk H) := by
  obtain ⟨l, hl, hmx, hr, hs⟩ := int_rows w0
  have hmax : maxLen = 9223372036854775807 := rfl
  have hvl : (numsV l).length = l.length * 1 := by rw [numsV_len]; omega
  refine lighterlaw03_CanonReads.vc _ _ _ _ _ ?_
  unfold lighterlaw03_CanonReads.res
  refine speaks03_spec fun H1 hx1 => ?_
  rw [pNot_v, Bool.not_true, pCond_false]
  have hs := hs.ext hx1
  refine newC_spec hs (by omega) (fun H2 hx2 hne => ?_) fun H2 b lv wv sv o hok h0 => ?_
  · refine pExtract_to rfl ?_
    refine pExtract_to rfl ?_
    rw [pNe_0]
    simp only [ne_eq, hne, not_false_eq_true, decide_true, pCond_true]
    exact ⟨rfl, hx1.trans hx2⟩
  refine pExtract_to rfl ?_
  refine pExtract_to rfl ?_
  rw [pNe_0, decide_eq_false (by simp), pCond_false]
  have hsh := why_share hok h0
  have hle := ok_le hok
  have hok1 := hok.1
  have hnl : (natL l).length ≤ 288 := by rw [natL_len]; exact hok1
  refine words_spec (hs.ext o.ext) hok fun y H3 o2 => ?_
  have o := o.call o2
  refine pLenS_to ?_
  rw [pMin_v, show min ((s.length : Nat) : Int) 60 = ((min s.length 60 : Nat) : Int) by omega]
  refine pSlStr01_to (by omega) ?_
  obtain ⟨s', hs'⟩ : ∃ s', s' = s.take (min s.length 60) := ⟨_, rfl⟩
  rw [← hs']
  have hsl : s'.length ≤ 60 := by rw [hs', List.length_take]; omega
  clear hs' w1
  refine o.box fun rb H4 o _ => ?_
  change Owns H1 H4 (.box rb [str [], .int .u64 0, .int .i64 0] _ :: _) at o
  have o := o.turn (i' := .thing (rdT rb [])) Rep.here (Nat.le_refl _) (fun k _ _ => rfl) (Rd.new (Sub.all (cs := [str [], .int .u64 0, .int .i64 0]) (o.blk (by repeat (first | exact List.mem_cons_self | apply List.mem_cons_of_mem))))) (fun k hk => .inl hk.symm)
  have htl := toBits_len s'
  refine rFeed_spec (rd_at o (by repeat (first | exact List.mem_cons_self | apply List.mem_cons_of_mem))) (by rw [List.length_nil]; omega) fun H5 w5 c5 => ?_
  have o := owns_rd o w5 c5
  rw [List.nil_append] at o
  rw [pBits_v, and_low (k := 3) (m := 7) (n := spare) (by decide) rfl]
  obtain ⟨q, hq⟩ : ∃ q : Nat, spare % 2 ^ 3 = (q : Int) := ⟨(spare % 2 ^ 3).toNat, by omega⟩
  have hq8 : q < 8 := by omega
  rw [hq]
  obtain ⟨B, hB⟩ : ∃ B, B = toBits s' := ⟨_, rfl⟩
  rw [← hB] at o htl
  have hread : ∀ {K : Value → Heap → Prop}, (∀ x H', Owns H1 H' (.thing (rdT rb (B.drop q)) :: ([.sl y 1 (txtsV (wordsT (natL l)))] ++ codeIts l b lv wv sv)) → K x H') → CallsH Try.prog 18 #[.pointer (some ⟨rb, 0, none⟩), .int .i64 (q : Int)] H5 K := by
    intro K hK
    by_cases hqB : q ≤ B.length
    · exact rRead_spec (k := q) (rd_at o (by repeat (first | exact List.mem_cons_self | apply List.mem_cons_of_mem))) (by omega) hqB fun H6 w6 c6 => hK _ H6 (owns_rd o w6 c6)
    · refine rRead_no (rd_at o (by repeat (first | exact List.mem_cons_self | apply List.mem_cons_of_mem))) (by omega) ?_
      have hB0 : B = [] := List.length_eq_zero_iff.1 (by omega)
      refine hK _ _ ?_
      rw [hB0, List.drop_nil]
      rw [hB0] at o
      exact o
  refine hread fun _ H6 o => ?_
  clear hread
  refine refBits_spec (by omega) fun H7 w own7 hx7 fr7 => ?_
  have o := o.add (i := .sl w 1 (bitsV (toBits s'))) hx7 ⟨by decide, own7⟩ (fun k hk => fr7 k hk)
  rw [← hB] at o
  have hbl : (bitsV B).length = B.length * 1 := by rw [bitsV_len, Nat.mul_one]
  have hB480 : B.length ≤ 480 := by omega
  refine ⟨fun t i H' => ∃ k : Nat, i = .int .i64 k ∧ k ≤ B.length ∧ t = str (textB (B.take k)) ∧ Owns H1 H' (.sl w 1 (bitsV B) :: .thing (rdT rb (B.drop q)) :: ([.sl y 1 (txtsV (wordsT (natL l)))] ++ codeIts l b lv wv sv)), fun _ i _ => match i with | .int _ x => (1000 - x).toNat | _ => 0, ⟨0, rfl, by omega, rfl, o⟩, ?_⟩
  clear o
  rintro _ _ _ H8 ⟨k, rfl, hk, rfl, o⟩
  refine (o.sl (v := w) (by repeat (first | exact List.mem_cons_self | apply List.mem_cons_of_mem))).len hbl (by decide) ?_
  rw [pLt_v]
  refine pCond_if (fun hc => ?_) (fun hc => ?_)
  · have hkB : k < B.length := by omega
    refine (o.sl (v := w) (by repeat (first | exact List.mem_cons_self | apply List.mem_cons_of_mem))).at_ hbl (by decide) (by omega) (by omega) fun p hp => ?_
    refine hp.load (o.sl (v := w) (by repeat (first | exact List.mem_cons_self | apply List.mem_cons_of_mem))) (w := .int .i64 ((B[k].toNat : Nat) : Int)) (by rw [Int.toNat_natCast, Nat.mul_one]; unfold bitsV; rw [List.getElem?_map, List.getElem?_eq_getElem hkB]; rfl) ?_
    rw [pAdd_v, pConv_v]
    refine byte_strO o (chr_bit _) fun H9 o => ?_
    rw [pAdd_s]
    refine ⟨?_, ?_⟩
    · show (textB (B.take k)).toArray.size + 1 ≤ _
      rw [List.size_toArray, textB_len, List.length_take]
      omega
    rw [pAdd_v, w64 (n := (k : Int) + 1) (by omega) (by omega)]
    refine ⟨⟨k + 1, rfl, by omega, ?_, o⟩, by show (_ : Int).toNat < (_ : Int).toNat; omega⟩
    have e : textB (B.take (k + 1)) = textB (B.take k) ++ [chr B[k]] := by rw [take_snoc hkB]; unfold textB; rw [List.map_append]; rfl
    rw [e, bys_mk, bys_mk]
  have hkB : k = B.length := by omega
  rw [hkB, List.take_length]
  clear hc hk hkB
  rw [pBits_v, and_low (k := 3) (m := 7) (n := spare) (by decide) rfl, hq]
  refine pLenS_to ?_
  rw [textB_len, pMin_v, show min (q : Int) ((B.length : Nat) : Int) = ((min q B.length : Nat) : Int) by omega]
  refine pSlStr10_to (by rw [textB_len]; omega) ?_
  have hdq : B.drop (min q B.length) = B.drop q := by
    rcases Nat.le_total q B.length with g | g
    · rw [Nat.min_eq_left g]
    · rw [Nat.min_eq_right g, List.drop_of_length_le (Nat.le_refl _), List.drop_of_length_le g]
  rw [textB_drop, hdq]
  have hBq : (B.drop q).length ≤ 480 := by rw [List.length_drop]; omega
  have hB0 : s'.length = 0 → B.drop q = [] := fun h => by
    have : B = [] := List.length_eq_zero_iff.1 (by omega)
    rw [this, List.drop_nil]
  clear hq hdq
  generalize B.drop q = B1 at *
  refine ⟨fun t H' => t = str (textB B1) ∧ Owns H1 H' (.sl w 1 (bitsV B) :: .thing (rdT rb B1) :: ([.sl y 1 (txtsV (wordsT (natL l)))] ++ codeIts l b lv wv sv)), ?_, ?_⟩
  rotate_left
  · refine pLenS_to ?_
    rw [pEq_0]
    refine pCond_if (fun h => ?_) (fun _ => ⟨rfl, o⟩)
    rw [hB0 (by omega)] at o ⊢
    exact ⟨rfl, o⟩
  clear o
  rintro _ _ H9 ⟨rfl, o⟩
  have o : Owns H1 H9 (.thing (rdT rb B1) :: ([.sl y 1 (txtsV (wordsT (natL l)))] ++ codeIts l b lv wv sv)) := o.pick (List.sublist_cons_self _ _)
  clear hB0
  refine ⟨fun t i H' => ∃ (k : Nat) (B2 : List Bool), i = .int .i64 k ∧ t = str (textB B2) ∧ B2.length ≤ 480 ∧ Owns H1 H' (.thing (rdT rb B2) :: ([.sl y 1 (txtsV (wordsT (natL l)))] ++ codeIts l b lv wv sv)), fun _ i _ => match i with | .int _ x => (1000 - x).toNat | _ => 0, ⟨0, B1, rfl, rfl, hBq, o⟩, ?_⟩
  clear o hBq hbl hB480 hB htl
  rintro _ _ _ H10 ⟨k, B2, rfl, rfl, hB2, o⟩
  rw [pLt_v]
  refine pCond_if (fun hk => ?_) (fun _ => ⟨rfl, hx1.trans o.ext⟩)
  have hfind : ∀ {H' : Heap} {B' : List Bool} {K : Value → Heap → Prop}, Owns H1 H' (.thing (rdT rb B') :: ([.sl y 1 (txtsV (wordsT (natL l)))] ++ codeIts l b lv wv sv)) → (∀ s, hit (natL l) B2 s → K (.int .i64 (s : Nat)) H') → ((∀ s, ¬ hit (natL l) B2 s) → K (.int .i64 (open Classical in if more (natL l) (B2.take 15) then -2 else -1)) H') →
      pLenS (str (textB B2)) fun x79 => pMin x79 (.int .i64 15) fun x80 => pSlStr (str (textB B2)) none (some x80) fun x81 => CallsH Try.prog 21 #[y, x81] H' K := by
    intro H' B' K o k1 k2
    refine pLenS_to ?_
    rw [textB_len, pMin_v, show min ((B2.length : Nat) : Int) 15 = ((min B2.length 15 : Nat) : Int) by omega]
    refine pSlStr01_to (by rw [textB_len]; omega) ?_
    have e : B2.take (min B2.length 15) = B2.take 15 := by
      rcases Nat.le_total B2.length 15 with g | g
      · rw [Nat.min_eq_left g, List.take_of_length_le (Nat.le_refl _), List.take_of_length_le g]
      · rw [Nat.min_eq_right g]
    rw [textB_take, e]
    refine rfind_spec (o.sl (v := y) (by repeat (first | exact List.mem_cons_self | apply List.mem_cons_of_mem))) hnl hle (by rw [List.length_take]; omega) (fun s h => k1 s ((hit_take hle).1 h)) (fun h => k2 fun s g => h s ((hit_take hle).2 g))
  refine next_spec (B := B2) hok hsh o (by repeat (first | exact List.mem_cons_self | apply List.mem_cons_of_mem)) (by repeat (first | exact List.mem_cons_self | apply List.mem_cons_of_mem)) (by repeat (first | exact List.mem_cons_self | apply List.mem_cons_of_mem)) (fun s H11 hh o => ?_) (fun hno H11 o => ?_)
  · refine pExtract_to rfl ?_
    refine pExtract_to rfl ?_
    refine hfind o (fun s2 hh2 => ?_) (fun h => absurd hh (h s))
    have hse := hit_one hsh hle hh2 hh
    subst hse
    rw [pEq_0, decide_eq_false (by omega), pCond_false, pEq_0, decide_eq_false (by omega), pCond_false, pNe_0, decide_eq_false (by simp)]
    refine pOr_if (d := false) (fun _ => by rw [pNe_0, decide_eq_false (by simp)]; exact ⟨rfl, rfl⟩) ?_
    intro _
    rw [show (false || false) = false from rfl, pCond_false]
    have hlen := hit_len hh
    have hs2 := hh.1
    refine (o.sl (v := y) (by repeat (first | exact List.mem_cons_self | apply List.mem_cons_of_mem))).at_ (n := (natL l).length) (by rw [txtsV_len, wordsT_len', Nat.mul_one]) (by decide) (by omega) (by omega) fun p hp => ?_
    refine hp.load (o.sl (v := y) (by repeat (first | exact List.mem_cons_self | apply List.mem_cons_of_mem))) (w := str (textB (wordB (natL l) s2))) (by rw [Int.toNat_natCast, Nat.mul_one]; unfold txtsV wordsT; rw [List.getElem?_map, List.getElem?_map, List.getElem?_range hs2]; rfl) ?_
    refine pLenS_to ?_
    rw [textB_len, wordB_len]
    refine pSlStr10_to (by rw [textB_len]; omega) ?_
    rw [textB_drop]
    refine rLeft_spec (rd_at o (by repeat (first | exact List.mem_cons_self | apply List.mem_cons_of_mem))) ?_
    refine pLenS_to ?_
    rw [textB_len, pNe_0, decide_eq_false (by simp), pCond_false, pAdd_v, w64 (n := (k : Int) + 1) (by omega) (by omega)]
    exact ⟨⟨k + 1, _, rfl, rfl, by rw [List.length_drop]; omega, o⟩, by show (_ : Int).toNat < (_ : Int).toNat; omega⟩
  · refine pExtract_to rfl ?_
    refine pExtract_to rfl ?_
    refine hfind o (fun s2 hh2 => absurd hh2 (hno s2)) (fun _ => ?_)
    by_cases hm : more (natL l) (B2.take 15)
    · rw [if_pos hm, if_pos hm, pEq_0, decide_eq_true (by rfl), pCond_true, pEq_0, decide_eq_true (by rfl)]
      refine pAnd_true ?_
      rw [pEq_0, decide_eq_true (by rfl)]
      intro _
      refine pAnd_true ?_
      refine rLeft_spec (rd_at o (by repeat (first | exact List.mem_cons_self | apply List.mem_cons_of_mem))) ?_
      refine pLenS_to ?_
      rw [textB_len, pEq_0, decide_eq_true (by rfl)]
      intro _
      exact ⟨rfl, hx1.trans o.ext⟩
    · rw [if_neg hm, if_neg hm, pEq_0, decide_eq_false (by decide), pCond_false, pEq_0, decide_eq_true (by rfl), pCond_true, pEq_0, decide_eq_true (by rfl)]
      refine pAnd_true ?_
      rw [pEq_0, decide_eq_true (by rfl)]
      intro _
      refine pAnd_true ?_
      refine rLeft_spec (rd_at o (by repeat (first | exact List.mem_cons_self | apply List.mem_cons_of_mem))) ?_
      refine pLenS_to ?_
      rw [textB_len, pEq_0, decide_eq_true (by rfl)]
      intro _
      exact ⟨rfl, hx1.trans o.ext⟩
end Go.Proofs.Ytcbaklebiohedaa
