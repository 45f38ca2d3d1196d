/- The law CanonWords over heaps. -/
import Derived.Test.YtcbaklebiohedaaWords03
namespace Go.Proofs.Ytcbaklebiohedaa
open Go Go.Vc Go.Proofs
set_option linter.unusedVariables false
set_option linter.unusedSimpArgs false
variable {H : Heap} {R : Value → Heap → Prop} {v : Value} {zs : List Int}
theorem wordP_out {ls : List Nat} {i : Int} (h : ¬ (0 ≤ i ∧ i < ls.length)) : wordP ls i = (0, 0) := if_neg h
theorem wordsT_at {ls : List Nat} {s : Nat} (h : s < ls.length) : (txtsV (wordsT ls))[s]? = some (str (textB (wordB ls s))) := by
  unfold txtsV wordsT
  rw [List.getElem?_map, List.getElem?_map, List.getElem?_range h]; rfl
theorem wordsT_len (ls : List Nat) : (wordsT ls).length = ls.length := by simp [wordsT]
theorem dec_not {p : Prop} [Decidable p] : (!decide p) = decide ¬ p := by simp
theorem CanonWords_law (a : Option Addr) (len cap : Nat) (zs : List Int) (loose : Bool) (ask : Int) (w0 : IntRow .i64 H a len cap zs) (w2 : (Lit.int .i64 ask).wf = true) : CallsH Try.prog 4 #[.slice a len cap, .bool loose, .int .i64 ask] H (LawOk H) := by
  obtain ⟨l, hl, hmx, hr, hs⟩ := int_rows w0
  have hmax : maxLen = 9223372036854775807 := rfl
  have hvl : (numsV l).length = l.length * 1 := by rw [numsV_len]; omega
  refine lighterlaw03_CanonWords.vc _ _ _ _ _ ?_
  unfold lighterlaw03_CanonWords.res
  refine speaks03_spec fun H1 hx1 => ?_
  rw [pNot_v, Bool.not_true, pCond_false]
  have hs := hs.ext hx1
  refine newC_spec hs (by omega) (fun H2 hx2 hne => ?_) fun H2 b lv wv sv o hok h0 => ?_
  · refine pExtract_to rfl ?_
    refine pExtract_to rfl ?_
    refine why_spec (hs.ext hx2) (by omega) ?_
    generalize whyL l loose = e at *
    rw [pNe_0, decide_eq_false (by simp)]
    refine pOr_if (d := false) (fun _ => ?_) ?_
    · rw [pEq_0, pNe_3n, pNe_2, decide_eq_false (by simp [hne])]
      exact ⟨rfl, rfl⟩
    intro _
    rw [show (false || false) = false from rfl, pCond_false]
    refine word_nil ?_
    refine pExtract_to rfl ?_
    refine pExtract_to rfl ?_
    rw [pNe_0, decide_eq_true (by simp [hne]), pCond_true, pEq_0, decide_eq_true (by rfl)]
    refine pAnd_true ?_
    rw [pEq_0, decide_eq_true (by rfl)]
    intro _
    refine pAnd_true ?_
    refine lens_nil ?_
    rw [show pLen (.slice none 0 0) = fun K => K (.int .i64 0) from rfl]
    show pEq 0 _ _ _
    rw [pEq_0, decide_eq_true (by rfl)]
    intro _
    exact ⟨rfl, hx1.trans hx2⟩
  refine pExtract_to rfl ?_
  refine pExtract_to rfl ?_
  refine why_spec (hs.ext o.ext) (by omega) ?_
  rw [h0, pNe_0, decide_eq_false (by simp)]
  refine pOr_if (d := false) (fun _ => ?_) ?_
  · rw [pEq_0, pNe_3s, pNe_2]
    exact ⟨rfl, rfl⟩
  intro _
  rw [show (false || false) = false from rfl, pCond_false]
  have hok1 := hok.1
  have hnl := natL_len l
  refine word_spec o (by repeat (first | exact List.mem_cons_self | apply List.mem_cons_of_mem)) (by repeat (first | exact List.mem_cons_self | apply List.mem_cons_of_mem)) hok1 ?_
  refine pExtract_to rfl ?_
  refine pExtract_to rfl ?_
  rw [pNe_0, decide_eq_false (by simp), pCond_false]
  refine words_spec (hs.ext o.ext) hok fun y H3 o2 => ?_
  have o := o.call o2
  refine lens_spec o (lv := lv) (by repeat (first | exact List.mem_cons_self | apply List.mem_cons_of_mem)) (by repeat (first | exact List.mem_cons_self | apply List.mem_cons_of_mem)) hok1 fun g H4 o3 => ?_
  have o := o.call o3
  refine ⟨fun i H' => ∃ k : Nat, i = .int .i64 k ∧ k ≤ l.length ∧ Owns H1 H' ([.sl g 1 (numsV l)] ++ ([.sl y 1 (txtsV (wordsT (natL l)))] ++ codeIts l b lv wv sv)), fun i _ => match i with | .int _ x => (1000 - x).toNat | _ => 0, ⟨0, rfl, by omega, o⟩, ?_⟩
  clear o
  rintro _ _ H5 ⟨k, rfl, hk, o⟩
  refine (hs.ext o.ext).len hvl (by decide) ?_
  rw [pLt_v]
  refine pCond_if (fun hc => ?_) (fun hc => ?_)
  · have hkl : k < l.length := by omega
    have h15 := getD_le (ok_le hok) k
    refine word_spec o (by repeat (first | exact List.mem_cons_self | apply List.mem_cons_of_mem)) (by repeat (first | exact List.mem_cons_self | apply List.mem_cons_of_mem)) hok1 ?_
    refine pExtract_to rfl ?_
    refine pExtract_to rfl ?_
    rw [wordP_in (by omega)]
    refine (o.sl (v := y) (by repeat (first | exact List.mem_cons_self | apply List.mem_cons_of_mem))).at_ (n := (natL l).length) (by rw [txtsV_len, wordsT_len, Nat.mul_one]) (by decide) (by omega) (by omega) fun p hp => ?_
    refine hp.load (o.sl (v := y) (by repeat (first | exact List.mem_cons_self | apply List.mem_cons_of_mem))) (by rw [Int.toNat_natCast, Nat.mul_one, wordsT_at (by omega)]) ?_
    have hrl := revN_lt (codeL (natL l) k) ((natL l).getD k 0)
    have hp2 : 2 ^ (natL l).getD k 0 ≤ 2 ^ 15 := Nat.pow_le_pow_right (by decide) h15
    refine text_spec (by omega) (by omega) fun H6 hx => ?_
    have o := o.more hx
    refine ⟨?_, ?_⟩
    · exact hp.load (o.sl (v := y) (by repeat (first | exact List.mem_cons_self | apply List.mem_cons_of_mem))) (by rw [Int.toNat_natCast, Nat.mul_one, wordsT_at (by omega)]) rfl
    refine pNe1_to ?_
    rw [decide_eq_false (by simp [wordB])]
    refine pOr_if (d := false) (fun _ => ?_) ?_
    · refine (o.sl (v := g) (by repeat (first | exact List.mem_cons_self | apply List.mem_cons_of_mem))).at_ hvl (by decide) (by omega) (by omega) fun p hp => ?_
      refine hp.load (o.sl (v := g) (by repeat (first | exact List.mem_cons_self | apply List.mem_cons_of_mem))) (by rw [Int.toNat_natCast, Nat.mul_one, numsV_get hkl]) ?_
      refine (hs.ext o.ext).at_ hvl (by decide) (by omega) (by omega) fun p hp => ?_
      refine hp.load (hs.ext o.ext) (by rw [Int.toNat_natCast, Nat.mul_one, numsV_get hkl]) ?_
      rw [pNe_0, decide_eq_false (by simp)]
      exact ⟨rfl, rfl⟩
    intro _
    rw [show (false || false) = false from rfl, pCond_false, pAdd_v, w64 (n := (k : Int) + 1) (by omega) (by omega)]
    exact ⟨⟨k + 1, rfl, by omega, o⟩, by show (_ : Int).toNat < (_ : Int).toNat; omega⟩
  · rw [pLt_v]
    refine pOr_if (d := decide ((l.length : Int) ≤ ask)) (fun _ => ?_) ?_
    · refine (hs.ext o.ext).len hvl (by decide) ?_
      rw [pGe_v]
      exact ⟨rfl, rfl⟩
    intro _
    refine pCond_b (fun hb => ?_) (fun hb => ?_)
    · rw [Bool.or_eq_true, decide_eq_true_eq, decide_eq_true_eq] at hb
      rw [wordP_out (by omega), pEq_0, decide_eq_true (by rfl)]
      refine pAnd_true ?_
      rw [pEq_0, decide_eq_true (by rfl)]
      intro _
      exact ⟨rfl, hx1.trans o.ext⟩
    · refine (o.sl (v := g) (by repeat (first | exact List.mem_cons_self | apply List.mem_cons_of_mem))).len hvl (by decide) ?_
      refine (hs.ext o.ext).len hvl (by decide) ?_
      rw [pEq_0, decide_eq_true (by rfl)]
      exact ⟨rfl, hx1.trans o.ext⟩
end Go.Proofs.Ytcbaklebiohedaa
