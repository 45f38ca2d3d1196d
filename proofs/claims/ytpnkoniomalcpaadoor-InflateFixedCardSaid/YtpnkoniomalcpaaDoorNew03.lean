/- The contract of canon.New. -/
import Derived.Test.YtpnkoniomalcpaaDoorAssign
import Derived.Test.YtpnkoniomalcpaaDoorResC
namespace Go.Proofs.YtpnkoniomalcpaaDoor
-- only what is there
open Go Go.Vc Go.Proofs
set_option linter.unusedVariables false
set_option linter.unusedSimpArgs false
variable {H : Heap} {R : Value → Heap → Prop} {v : Value} {zs : List Int}
theorem callH_f {P : Program} {C : List Nat} {g : Nat} {first cap : Array Value} {args : List Value} {K : Value → Heap → Prop} (hm : memb g C = true) (h : CallsH P g (first.toList ++ args ++ cap.toList).toArray H K) : callH P C (.func (.func g) first cap) args H K := by
  show (bif memb g C then CallsH P g (first.toList ++ args ++ cap.toList).toArray H K else False)
  rw [hm]; exact h
def goodZ (zs : List Int) : Bool := zs.all fun z => decide (0 ≤ z ∧ z ≤ 15)
theorem goodZ_iff : goodZ zs = true ↔ ∀ z ∈ zs, 0 ≤ z ∧ z ≤ 15 := by simp [goodZ]
theorem bad_spec {z : Int} (h : R (.bool (!decide (0 ≤ z ∧ z ≤ 15))) H) : CallsH Tryd.prog 79 #[.int .i64 z] H R := by
  refine canon_New_f1.vc _ _ _ ?_
  unfold canon_New_f1.res
  rw [pLt_v]
  refine pOr_if (d := decide (15 < z)) (fun _ => by rw [pGt_v]; exact ⟨rfl, rfl⟩) ?_
  intro _
  have e : (decide (z < 0) || decide (15 < z)) = !decide (0 ≤ z ∧ z ≤ 15) := by
    rw [Bool.eq_iff_iff, Bool.or_eq_true, decide_eq_true_eq, decide_eq_true_eq, Bool.not_eq_true', decide_eq_false_iff_not]
    omega
  rw [e]; exact h
theorem anyBad_spec (hs : Sl H v 1 (numsV zs)) (hlen : zs.length ≤ maxLen) (h : R (.bool (!goodZ zs)) H) : CallsH Tryd.prog 80 #[v, .func (.func 79) #[] #[]] H R := by
  have hmax : maxLen = 9223372036854775807 := rfl
  have hvl : (numsV zs).length = zs.length * 1 := by rw [numsV_len]; omega
  refine slices_ContainsFunc_s_int_int.vc _ _ _ _ ?_
  unfold slices_ContainsFunc_s_int_int.res
  refine slices_IndexFunc_s_int_int.vc _ _ _ _ ?_
  unfold slices_IndexFunc_s_int_int.res
  refine hs.len hvl (by decide) ?_
  refine ⟨fun i H' => ∃ k : Nat, i = .int .i64 k ∧ k ≤ zs.length ∧ (∀ z ∈ zs.take k, 0 ≤ z ∧ z ≤ 15) ∧ H = H', fun i _ => match i with | .int _ x => (9223372036854775807 - x).toNat | _ => 0, ⟨0, rfl, by omega, by simp, rfl⟩, ?_⟩
  rintro _ _ _ ⟨k, rfl, hk, hok, rfl⟩
  rw [pLt_v]
  refine pCond_if (fun hc => ?_) (fun hc => ?_)
  · have hkn : k < zs.length := by omega
    refine hs.at_ hvl (by decide) (by omega) (by omega) fun p hp => ?_
    refine hp.load hs (w := .int .i64 zs[k]) (by rw [Int.toNat_natCast, Nat.mul_one, numsV_get hkn]) ?_
    refine callH_f (by kernel_rfl) ?_
    refine bad_spec ?_
    refine pCond_b (fun hb => ?_) (fun hb => ?_)
    · have : ¬ (0 ≤ zs[k] ∧ zs[k] ≤ 15) := by rw [Bool.not_eq_true', decide_eq_false_iff_not] at hb; exact hb
      show pGe _ _ _
      rw [pGe_v, decide_eq_true (by omega)]
      have e : goodZ zs = false := by
        rw [← Bool.not_eq_true, goodZ_iff]
        exact fun g => this (g _ (List.getElem_mem hkn))
      rw [e] at h
      exact h
    · have hz : 0 ≤ zs[k] ∧ zs[k] ≤ 15 := by simpa using hb
      rw [pAdd_v, w64 (n := (k : Int) + 1) (by omega) (by omega)]
      refine ⟨⟨k + 1, rfl, by omega, fun z hz' => ?_, rfl⟩, by show (_ : Int).toNat < (_ : Int).toNat; omega⟩
      rw [take_snoc hkn] at hz'
      rcases List.mem_append.1 hz' with g | g
      · exact hok z g
      · rw [List.mem_singleton.1 g]; exact hz
  · have : k = zs.length := by omega
    rw [this, List.take_length] at hok
    rw [goodZ_iff.2 hok] at h
    show pGe _ _ _
    rw [pGe_v, decide_eq_false (by decide)]
    exact h
theorem clone_spec (hs : Sl H v 1 (numsV zs)) (hlen : zs.length ≤ 1000) (h : ∀ y H', Owns H H' [.sl y 1 (numsV zs)] → R y H') : CallsH Tryd.prog 81 #[v] H R := by
  refine slices_Clone_s_int_int.vc _ _ _ ?_
  unfold slices_Clone_s_int_int.res
  have hcase : (∃ n c, v = .slice none n c ∧ zs = []) ∨ ∃ a n c, v = .slice (some a) n c := by
    rcases hs with ⟨rfl, h0⟩ | ⟨a, m, cap, rfl, _⟩
    · exact .inl ⟨_, _, rfl, by have := congrArg List.length h0; rw [numsV_len] at this; exact List.length_eq_zero_iff.1 this⟩
    · exact .inr ⟨a, m, cap, rfl⟩
  have hgo : pBuildSl H 3 0 [] [] fun x5 H_1 => pAppend H_1 3 1 8 [(.int .i64 0)] x5 v fun x7 H_2 => R x7 H_2 := by
    refine (Owns.start (H := H)).build0 1 (by decide) fun y H1 o => ?_
    refine o.app (by repeat (first | exact Sel.here | apply Sel.there)) (hs.ext o.ext) numsV_one (by rw [numsV_len]; show 2 * (0 + _) * 8 ≤ _; omega) fun z H2 o => ?_
    exact h z H2 o
  rcases hcase with ⟨n, c, rfl, rfl⟩ | ⟨a, n, c, rfl⟩
  · rw [pEq_4n, pCond_true]
    refine h _ _ ?_
    exact Owns.start.add (Ext.refl _) ⟨by decide, .inl ⟨rfl, rfl⟩⟩ (by intro k hk; exact absurd hk (by simp [It.foot, blkOf]))
  · rw [pEq_4s, pCond_false]
    exact hgo
/-- what a code owns -/
abbrev codeIts (zs : List Int) (b : Nat) (lv wv sv : Value) : List It :=
  [.box b (codeCells lv wv (countsL (natL zs)) sv) 139 , .sl lv 1 (numsV zs), .sl wv 2 (wordsV (natL zs)), .sl sv 1 (symsV (symsB (natL zs) 16))]
theorem leftC_share (ls : List Nat) : leftC ls 15 = 32768 - (shareL ls 15 : Nat) := by unfold leftC; rw [endC_share]; rfl
theorem newC_spec {loose : Bool} (hs : Sl H v 1 (numsV zs)) (hlen : zs.length ≤ maxLen)
    (hno : ∀ H', Ext H H' → whyL zs loose ≠ 0 → R (.tuple #[.pointer none, .int .i64 (whyL zs loose)]) H')
    (hyes : ∀ H' b lv wv sv, Owns H H' (codeIts zs b lv wv sv) → okZ zs → whyL zs loose = 0 → R (.tuple #[.pointer (some ⟨b, 0, none⟩), .int .i64 0]) H') : CallsH Tryd.prog 63 #[v, .bool loose] H R := by
  have hmax : maxLen = 9223372036854775807 := rfl
  have hvl : (numsV zs).length = zs.length * 1 := by rw [numsV_len]; omega
  refine canon_New.vc _ _ _ _ ?_
  unfold canon_New.res
  refine hs.len hvl (by decide) ?_
  rw [pGt_v]
  refine pOr_if (d := !goodZ zs) (fun _ => anyBad_spec hs hlen ⟨rfl, rfl⟩) ?_
  intro _
  have hbad : (decide (288 < (zs.length : Int)) || !goodZ zs) = true ↔ ¬ okZ zs := by
    rw [Bool.or_eq_true, decide_eq_true_eq, Bool.not_eq_true', ← Bool.not_eq_true, goodZ_iff]
    unfold okZ
    constructor
    · rintro (g | g) h
      · omega
      · exact g h.2
    · intro g
      by_cases g1 : 288 < (zs.length : Int)
      · exact .inl g1
      · exact .inr fun g2 => g ⟨by omega, g2⟩
  refine pCond_b (fun hb => ?_) (fun hb => ?_)
  · have h1 := why_no (loose := loose) (hbad.1 hb)
    have := hno H (Ext.refl H)
    rw [h1] at this
    exact this (by decide)
  have hok : okZ zs := by
    by_cases g : okZ zs
    · exact g
    · rw [hbad.2 g] at hb; cases hb
  have hwhy := why_ok (loose := loose) hok
  have hok1 := hok.1
  refine clone_spec hs (by omega) fun lv H1 o => ?_
  refine pBuild_one (o.sl (v := lv) (by repeat (first | exact List.mem_cons_self | apply List.mem_cons_of_mem))).one (by decide) ?_
  rw [pBuild_n]
  refine o.box fun b H2 o _ => ?_
  change Owns H H2 [.box b (codeCells lv (.slice none 0 0) (countsL []) (.slice none 0 0)) _, _] at o
  refine fill_spec hok o fun H3 r o hr => ?_
  rw [leftC_share] at hr
  rw [pLt_v]
  refine pCond_if (fun hc => ?_) (fun hc => ?_)
  · have hgt : 32768 < shareL (natL zs) 15 := by
      split at hr <;> omega
    rw [if_pos hgt] at hwhy
    have := hno H3 o.ext
    rw [hwhy] at this
    exact this (by decide)
  rw [pGt_v]
  rw [if_neg (by intro g; rw [if_pos g] at hr; omega)] at hr
  refine pAnd_if (d := !(loose && slackL (natL zs))) (fun hpos => ?_) ?_
  · refine pAnd_if (d := slackL (natL zs)) (fun _ => slack_spec hok o ⟨rfl, rfl⟩) ?_
    intro _
    rw [pNot_v]
    exact ⟨rfl, rfl⟩
  intro _
  rw [if_neg (show ¬ 32768 < shareL (natL zs) 15 by omega)] at hwhy
  refine pCond_b (fun hb => ?_) (fun hb => ?_)
  · rw [Bool.and_eq_true, decide_eq_true_eq, Bool.not_eq_true'] at hb
    rw [if_pos ⟨by omega, hb.2⟩] at hwhy
    have := hno H3 o.ext
    rw [hwhy] at this
    exact this (by decide)
  · have h0 : whyL zs loose = 0 := by
      rw [hwhy, if_neg]
      rintro ⟨g1, g2⟩
      rw [g2, decide_eq_true (by omega)] at hb
      cases hb
    refine assign_spec hok o fun H4 wv sv o => ?_
    exact hyes H4 b lv wv sv o hok h0
end Go.Proofs.YtpnkoniomalcpaaDoor
