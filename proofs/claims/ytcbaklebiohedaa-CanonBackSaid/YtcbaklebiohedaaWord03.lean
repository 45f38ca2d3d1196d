/- The contracts of Word and Lengths; the law's speaks; words begin no other ones. -/
import Derived.Test.YtcbaklebiohedaaNew03
import Derived.Test.YtcbaklebiohedaaResLighterlaw03
namespace Go.Proofs.Ytcbaklebiohedaa
open Go Go.Vc Go.Proofs
set_option linter.unusedVariables false
set_option linter.unusedSimpArgs false
variable {H : Heap} {R : Value → Heap → Prop} {v : Value} {zs : List Int}
/-- a symbol's word, of any number: as a tuple of numbers -/
def wordP (ls : List Nat) (i : Int) : Nat × Nat := if 0 ≤ i ∧ i < ls.length then (revN (codeL ls i.toNat) (ls.getD i.toNat 0), ls.getD i.toNat 0) else (0, 0)
theorem word_nil {i : Int} (h : R (.tuple #[.int .u64 0, .int .i64 0]) H) : CallsH Try.prog 10 #[.pointer none, .int .i64 i] H R := by
  refine canon_Code_Word.vc _ _ _ _ ?_
  unfold canon_Code_Word.res
  rw [pEq_3n, pOr_true]
  intro _
  rw [pOr_true]
  intro _
  rw [pCond_true]
  exact h
theorem wordsV_len (ls : List Nat) : (wordsV ls).length = ls.length * 2 := by
  unfold wordsV
  rw [flat_len (n := 2) _ (by intro r hr; obtain ⟨s, _, rfl⟩ := List.mem_map.1 hr; rfl), List.length_map, List.length_range]
theorem flat_cell {n : Nat} {L : List (List Value)} {i j : Nat} {r : List Value} (hl : ∀ r ∈ L, r.length = n) (hi : L[i]? = some r) (hj : j < n) : L.flatten[i * n + j]? = r[j]? := by
  have hil := (List.getElem?_eq_some_iff.1 hi).1
  have hir := (List.getElem?_eq_some_iff.1 hi).2
  have e : L = L.take i ++ r :: L.drop (i + 1) := by rw [← hir, ← List.drop_eq_getElem_cons hil, List.take_append_drop]
  have hp : (L.take i).flatten.length = i * n := by
    rw [flat_len (L.take i) (fun x hx => hl x (List.mem_of_mem_take hx)), List.length_take, Nat.min_eq_left (by omega)]
  have hr : r.length = n := by rw [← hir]; exact hl _ (List.getElem_mem hil)
  rw [e, List.flatten_append, List.flatten_cons, List.getElem?_append_right (by omega), List.getElem?_append_left (by omega)]
  congr 1
  omega
theorem wordsV_at {ls : List Nat} {s j : Nat} (h : s < ls.length) (hj : j < 2) : (wordsV ls)[s * 2 + j]? = (wordV ls s)[j]? :=
  flat_cell (by intro r hr; obtain ⟨s, _, rfl⟩ := List.mem_map.1 hr; rfl) (by rw [List.getElem?_map, List.getElem?_range h]; rfl) hj
theorem word_spec {H0 : Heap} {L : List It} {b : Nat} {lv wv sv : Value} {i : Int} (o : Owns H0 H L) (h1 : It.box b (codeCells lv wv (countsL (natL zs)) sv) 65 ∈ L) (h2 : It.sl wv 2 (wordsV (natL zs)) ∈ L) (hlen : zs.length ≤ 288)
    (h : R (.tuple #[.int .u64 (wordP (natL zs) i).1, .int .i64 (wordP (natL zs) i).2]) H) : CallsH Try.prog 10 #[.pointer (some ⟨b, 0, none⟩), .int .i64 i] H R := by
  have hl : (natL zs).length ≤ 288 := by rw [natL_len]; exact hlen
  generalize natL zs = ls at *
  have hwl := wordsV_len ls
  refine canon_Code_Word.vc _ _ _ _ ?_
  unfold canon_Code_Word.res
  rw [pEq_3s]
  refine pOr_false ?_
  rw [pLt_v]
  intro _
  refine pOr_if (d := decide ((ls.length : Int) ≤ i)) (fun _ => ?_) ?_
  · rw [pNil_v, pFieldAddr_v, add_mk]
    refine o.bload (f := 0 + 1) h1 rfl ?_
    refine (o.sl h2).len hwl (by decide) ?_
    rw [pGe_v]
    exact ⟨rfl, rfl⟩
  intro _
  refine pCond_b (fun hb => ?_) (fun hb => ?_)
  · rw [Bool.or_eq_true, decide_eq_true_eq, decide_eq_true_eq] at hb
    have e : wordP ls i = (0, 0) := if_neg (by omega)
    rw [e] at h
    exact h
  · rw [Bool.or_eq_false_iff, decide_eq_false_iff_not, decide_eq_false_iff_not] at hb
    have e : wordP ls i = (revN (codeL ls i.toNat) (ls.getD i.toNat 0), ls.getD i.toNat 0) := if_pos (by omega)
    rw [e] at h
    have hi : i.toNat < ls.length := by omega
    rw [pNil_v, pFieldAddr_v, add_mk]
    refine o.bload (f := 0 + 1) h1 rfl ?_
    refine (o.sl h2).at_ hwl (by decide) (by omega) (by omega) fun p hp => ?_
    refine hp.field (f := 0) fun q hq => ?_
    refine hq.load (o.sl h2) (by rw [wordsV_at hi (by decide)]; rfl) ?_
    rw [pNil_v, pFieldAddr_v, add_mk]
    refine o.bload (f := 0 + 1) h1 rfl ?_
    refine (o.sl h2).at_ hwl (by decide) (by omega) (by omega) fun p hp => ?_
    refine hp.field (f := 1) fun q hq => ?_
    refine hq.load (o.sl h2) (by rw [wordsV_at hi (by decide)]; rfl) ?_
    exact h
theorem lens_nil (h : R (.slice none 0 0) H) : CallsH Try.prog 12 #[.pointer none] H R := by
  refine canon_Code_Lengths.vc _ _ _ ?_
  unfold canon_Code_Lengths.res
  rw [pEq_3n, pCond_true]
  exact h
theorem lens_spec {H0 : Heap} {L : List It} {b : Nat} {lv wv sv : Value} (o : Owns H0 H L) (h1 : It.box b (codeCells lv wv (countsL (natL zs)) sv) 65 ∈ L) (h2 : It.sl lv 1 (numsV zs) ∈ L) (hlen : zs.length ≤ 288)
    (h : ∀ y H', Owns H H' [.sl y 1 (numsV zs)] → R y H') : CallsH Try.prog 12 #[.pointer (some ⟨b, 0, none⟩)] H R := by
  refine canon_Code_Lengths.vc _ _ _ ?_
  unfold canon_Code_Lengths.res
  rw [pEq_3s, pCond_false, pNil_v, pFieldAddr_v]
  refine o.bload h1 rfl ?_
  exact clone_spec (o.sl h2) (by omega) h
theorem speaks03_spec (h : ∀ H', Ext H H' → R (.bool true) H') : CallsH Try.prog 8 #[] H R := by
  refine lighterlaw03_speaks.vc _ _ ?_
  unfold lighterlaw03_speaks.res
  refine (Owns.start (H := H)).build (n := 4) (vs := numsV [2, 1, 3, 3]) 1 (by decide) (fun K hK => ?_) rfl fun y H1 o => ?_
  · refine pBuild_one rfl (by decide) ?_
    refine pBuild_one rfl (by decide) ?_
    refine pBuild_one rfl (by decide) ?_
    refine pBuild_one rfl (by decide) ?_
    rw [pBuild_n]
    exact hK
  have hz : okZ [2, 1, 3, 3] := ⟨by decide, by decide⟩
  have hw : whyL [2, 1, 3, 3] false = 0 := by rw [why_ok hz]; decide
  refine newC_spec (o.sl (by repeat (first | exact List.mem_cons_self | apply List.mem_cons_of_mem))) (by decide) (fun H2 _ hne => absurd hw hne) fun H2 b lv wv sv o2 _ _ => ?_
  have o := o.call o2
  refine pExtract_to rfl ?_
  refine pExtract_to rfl ?_
  refine word_spec o (by repeat (first | exact List.mem_cons_self | apply List.mem_cons_of_mem)) (by repeat (first | exact List.mem_cons_self | apply List.mem_cons_of_mem)) (by decide) ?_
  have hwd : wordP (natL [2, 1, 3, 3]) 2 = (3, 3) := by decide
  rw [hwd]
  refine pExtract_to rfl ?_
  refine pExtract_to rfl ?_
  rw [pEq_0, decide_eq_true (by rfl)]
  refine pAnd_true ?_
  rw [pEq_0, decide_eq_true (by rfl)]
  intro _
  refine pAnd_true ?_
  rw [pEq_0, decide_eq_true (by rfl)]
  intro _
  exact h H2 o.ext
/-! ### no word begins another one -/
theorem revN_low (v k : Nat) : ∀ n, revN v (k + n) % 2 ^ n = revN (v / 2 ^ k) n
  | 0 => by rw [Nat.pow_zero, Nat.mod_one]; rfl
  | n + 1 => by
    have ih := revN_low v k n
    rw [← Nat.add_assoc, revN, revN, ← ih, Nat.div_div_eq_div_mul, ← Nat.pow_add, Nat.pow_succ]
    have h2 : v / 2 ^ (k + n) % 2 < 2 := Nat.mod_lt _ (by decide)
    generalize v / 2 ^ (k + n) % 2 = c at *
    generalize revN v (k + n) = x at *
    generalize 2 ^ n = P at *
    have e : (2 * x + c) % (2 * P) = c + 2 * (x % P) := by rw [Nat.mod_mul, show (2 * x + c) % 2 = c by omega, show (2 * x + c) / 2 = x by omega]
    rw [Nat.mul_comm P 2, e]
    omega
theorem revN_inj {a b : Nat} : ∀ {n : Nat}, revN a n = revN b n → a % 2 ^ n = b % 2 ^ n
  | 0, _ => by rw [Nat.pow_zero, Nat.mod_one, Nat.mod_one]
  | n + 1, h => by
    rw [revN, revN] at h
    have h1 : a / 2 ^ n % 2 < 2 := Nat.mod_lt _ (by decide)
    have h2 : b / 2 ^ n % 2 < 2 := Nat.mod_lt _ (by decide)
    have ih := revN_inj (a := a) (b := b) (n := n) (by omega)
    rw [Nat.mod_pow_succ, Nat.mod_pow_succ, ih]
    congr 2
    omega
theorem endC_pow {ls : List Nat} (h : shareL ls 15 ≤ 32768) {n : Nat} (hn : n ≤ 15) : endC ls n ≤ 2 ^ n := by
  have h15 := leftC_share ls
  rcases Int.lt_or_le (leftC ls n) 0 with g | g
  · have := leftC_neg ls g hn
    omega
  · unfold leftC at g
    omega
theorem code_pow {ls : List Nat} (h : shareL ls 15 ≤ 32768) (hle : ∀ k ∈ ls, k ≤ 15) {s : Nat} (hs : s < ls.length) (h1 : 1 ≤ ls.getD s 0) : codeL ls s < 2 ^ ls.getD s 0 := by
  have hg : ls.getD s 0 = ls[s] := by rw [List.getD_eq_getElem?_getD, List.getElem?_eq_getElem hs]; rfl
  exact Nat.lt_of_lt_of_le (code_lt hs h1) (endC_pow h (by rw [hg]; exact hle _ (List.getElem_mem hs)))
theorem word_apart {ls : List Nat} (h : shareL ls 15 ≤ 32768) (hle : ∀ k ∈ ls, k ≤ 15) {s t : Nat} (hs : s < ls.length) (ht : t < ls.length) (hne : s ≠ t) (h1 : 1 ≤ ls.getD s 0) (h2 : ls.getD s 0 ≤ ls.getD t 0) :
    revN (codeL ls s) (ls.getD s 0) ≠ revN (codeL ls t) (ls.getD t 0) % 2 ^ ls.getD s 0 := by
  intro he
  have hc := code_pow h hle hs h1
  have hd := code_pow h hle ht (by omega)
  have e : ls.getD t 0 = (ls.getD t 0 - ls.getD s 0) + ls.getD s 0 := by omega
  rw [e, revN_low] at he
  have he := revN_inj he
  rw [Nat.mod_eq_of_lt hc] at he
  have hq : codeL ls t / 2 ^ (ls.getD t 0 - ls.getD s 0) < 2 ^ ls.getD s 0 := by
    rw [Nat.div_lt_iff_lt_mul (Nat.two_pow_pos _), ← Nat.pow_add, Nat.add_comm, ← e]
    exact hd
  rw [Nat.mod_eq_of_lt hq] at he
  rcases Nat.lt_or_eq_of_le h2 with g | g
  · exact apart_longer hs ht h1 g he.symm
  · rw [g, Nat.sub_self, Nat.pow_zero, Nat.div_one] at he
    exact code_inj hs ht hne g he
theorem ok_le (hz : okZ zs) : ∀ k ∈ natL zs, k ≤ 15 := fun k hk => by
  obtain ⟨z, hz', rfl⟩ := List.mem_map.1 hk
  have := hz.2 z hz'
  omega
theorem why_share {loose : Bool} (hz : okZ zs) (h : whyL zs loose = 0) : shareL (natL zs) 15 ≤ 32768 := by
  rw [why_ok hz] at h
  split at h
  · cases h
  · omega
theorem wordP_in {ls : List Nat} {k : Nat} (h : k < ls.length) : wordP ls (k : Int) = (revN (codeL ls k) (ls.getD k 0), ls.getD k 0) := if_pos (by omega)
theorem getD_le {ls : List Nat} (hle : ∀ k ∈ ls, k ≤ 15) (k : Nat) : ls.getD k 0 ≤ 15 := by
  rcases Nat.lt_or_ge k ls.length with h | h
  · have hg : ls.getD k 0 = ls[k] := by rw [List.getD_eq_getElem?_getD, List.getElem?_eq_getElem h]; rfl
    rw [hg]; exact hle _ (List.getElem_mem h)
  · rw [List.getD_eq_getElem?_getD, List.getElem?_eq_none h]; exact Nat.zero_le _
theorem CanonApart_law (a : Option Addr) (len cap : Nat) (zs : List Int) (w0 : IntRow .i64 H a len cap zs) : CallsH Try.prog 3 #[.slice a len cap] H (LawOk H) := by
  obtain ⟨l, hl, hmx, hr, hs⟩ := int_rows w0
  have hmax : maxLen = 9223372036854775807 := rfl
  have hvl : (numsV l).length = l.length * 1 := by rw [numsV_len]; omega
  refine lighterlaw03_CanonApart.vc _ _ _ ?_
  unfold lighterlaw03_CanonApart.res
  refine speaks03_spec fun H1 hx1 => ?_
  rw [pNot_v, Bool.not_true, pCond_false]
  have hs := hs.ext hx1
  refine newC_spec hs (by omega) (fun H2 hx2 hne => ?_) fun H2 b lv wv sv o hok h0 => ?_
  · refine pExtract_to rfl ?_
    refine pExtract_to rfl ?_
    rw [pNe_0]
    simp only [ne_eq, hne, not_false_eq_true, decide_true, pCond_true]
    exact ⟨rfl, hx1.trans hx2⟩
  refine pExtract_to rfl ?_
  refine pExtract_to rfl ?_
  rw [pNe_0, decide_eq_false (by simp), pCond_false]
  have hs := hs.ext o.ext
  have hsh := why_share hok h0
  have hle := ok_le hok
  have hnl := natL_len l
  have hok1 := hok.1
  refine ⟨fun i H' => ∃ k : Nat, i = .int .i64 k ∧ H2 = H', fun i _ => match i with | .int _ x => (1000 - x).toNat | _ => 0, ⟨0, rfl, rfl⟩, ?_⟩
  rintro _ _ _ ⟨i, rfl, rfl⟩
  refine hs.len hvl (by decide) ?_
  rw [pLt_v]
  refine pCond_if (fun hi => ?_) (fun _ => ⟨rfl, hx1.trans o.ext⟩)
  refine ⟨fun i H' => ∃ k : Nat, i = .int .i64 k ∧ H2 = H', fun i _ => match i with | .int _ x => (1000 - x).toNat | _ => 0, ⟨0, rfl, rfl⟩, ?_⟩
  rintro _ _ _ ⟨k, rfl, rfl⟩
  refine hs.len hvl (by decide) ?_
  rw [pLt_v]
  refine pCond_if (fun hk => ?_) (fun _ => ?_)
  · refine word_spec o (by repeat (first | exact List.mem_cons_self | apply List.mem_cons_of_mem)) (by repeat (first | exact List.mem_cons_self | apply List.mem_cons_of_mem)) hok1 ?_
    refine pExtract_to rfl ?_
    refine pExtract_to rfl ?_
    refine word_spec o (by repeat (first | exact List.mem_cons_self | apply List.mem_cons_of_mem)) (by repeat (first | exact List.mem_cons_self | apply List.mem_cons_of_mem)) hok1 ?_
    refine pExtract_to rfl ?_
    refine pExtract_to rfl ?_
    rw [wordP_in (by omega), wordP_in (by omega)]
    generalize hls : natL l = ls at *
    have h15 := getD_le hle i
    have hap := fun h1 h2 h3 => word_apart hsh hle (s := i) (t := k) (by omega) (by omega) h1 h2 h3
    have hb2 := revN_lt (codeL ls k) (ls.getD k 0)
    have h15k := getD_le hle k
    have hb3 : 2 ^ ls.getD k 0 ≤ 2 ^ 15 := Nat.pow_le_pow_right (by decide) h15k
    dsimp only
    generalize ls.getD i 0 = n at *
    generalize ls.getD k 0 = m at *
    generalize revN (codeL ls k) m = y at *
    generalize revN (codeL ls i) n = x at *
    rw [pNe_0]
    refine pAnd_if (d := decide (0 < (n : Int))) (fun _ => by rw [pGt_v]; exact ⟨rfl, rfl⟩) ?_
    intro _
    refine pAnd_if (d := decide ((n : Int) ≤ (m : Int))) (fun _ => by rw [pGe_v]; exact ⟨rfl, rfl⟩) ?_
    intro _
    refine pAnd_if (d := decide (x = y % 2 ^ n)) (fun _ => ?_) ?_
    · rw [pShl_v]
      refine ⟨by omega, ?_⟩
      rw [pSub_v, pBits_v, mask_u64 (by omega) (by omega), pEq_0]
      refine ⟨?_, rfl⟩
      congr 1
      rw [Bool.eq_iff_iff, decide_eq_true_eq, decide_eq_true_eq]
      omega
    intro _
    rw [show (decide ((i : Int) ≠ (k : Int)) && decide (0 < (n : Int)) && decide ((n : Int) ≤ (m : Int)) && decide (x = y % 2 ^ n)) = false from ?_, pCond_false]
    · rw [pAdd_v, w64 (n := (k : Int) + 1) (by omega) (by omega)]
      exact ⟨⟨k + 1, rfl, rfl⟩, by show (_ : Int).toNat < (_ : Int).toNat; omega⟩
    · rw [← Bool.not_eq_true]
      intro hb
      simp only [Bool.and_eq_true, decide_eq_true_eq] at hb
      exact hap (by omega) (by omega) (by omega) hb.2
  · rw [pAdd_v, w64 (n := (i : Int) + 1) (by omega) (by omega)]
    exact ⟨⟨i + 1, rfl, rfl⟩, by show (_ : Int).toNat < (_ : Int).toNat; omega⟩
end Go.Proofs.Ytcbaklebiohedaa
