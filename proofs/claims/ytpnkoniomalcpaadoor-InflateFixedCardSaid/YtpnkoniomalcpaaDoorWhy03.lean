/- The contract of lighterref03.Why. -/
import Derived.Test.YtpnkoniomalcpaaDoorCanon
import Derived.Test.YtpnkoniomalcpaaDoorResB
import Derived.Test.YtpnkoniomalcpaaDoorResC
namespace Go.Proofs.YtpnkoniomalcpaaDoor
-- only what is there
open Go Go.Vc Go.Proofs
set_option linter.unusedVariables false
set_option linter.unusedSimpArgs false
variable {H : Heap} {R : Value → Heap → Prop} {v : Value} {zs : List Int}
/-- how many lengths are not 0 -/
def nzL (ls : List Nat) : Nat := ls.countP fun k => decide (k ≠ 0)
theorem nzL_append (a b : List Nat) : nzL (a ++ b) = nzL a + nzL b := by unfold nzL; rw [List.countP_append]
def slackL (ls : List Nat) : Bool := decide (nzL ls = 0) || (decide (nzL ls = 1) && decide (cntL ls 1 = 1))
theorem dec_one (n : Nat) : decide ((n : Int) = 1) = decide (n = 1) := by rw [Bool.eq_iff_iff, decide_eq_true_eq, decide_eq_true_eq]; omega
theorem dec_zero (n : Nat) : decide ((n : Int) = 0) = decide (n = 0) := by rw [Bool.eq_iff_iff, decide_eq_true_eq, decide_eq_true_eq]; omega
/-- why lengths may not be -/
noncomputable def whyL (zs : List Int) (loose : Bool) : Int :=
  open Classical in if okZ zs then (if 32768 < shareL (natL zs) 15 then 5 else if shareL (natL zs) 15 < 32768 ∧ (loose && slackL (natL zs)) = false then 4 else 0) else 1
theorem why_no {loose : Bool} (h : ¬ okZ zs) : whyL zs loose = 1 := by unfold whyL; rw [if_neg h]
theorem why_ok {loose : Bool} (h : okZ zs) : whyL zs loose = if 32768 < shareL (natL zs) 15 then 5 else if shareL (natL zs) 15 < 32768 ∧ (loose && slackL (natL zs)) = false then 4 else 0 := by unfold whyL; rw [if_pos h]
theorem why_spec {loose : Bool} (hs : Sl H v 1 (numsV zs)) (hlen : zs.length ≤ maxLen) (h : R (.int .i64 (whyL zs loose)) H) : CallsH Tryd.prog 78 #[v, .bool loose] H R := by
  have hmax : maxLen = 9223372036854775807 := rfl
  have hvl : (numsV zs).length = zs.length * 1 := by rw [numsV_len]; omega
  refine lighterref03_Why.vc _ _ _ _ ?_
  unfold lighterref03_Why.res
  refine hs.len hvl (by decide) ?_
  rw [pGt_v]
  refine pCond_if (fun hc => by rw [why_no (fun g => by have := g.1; omega)] at h; exact h) (fun hc => ?_)
  refine ⟨fun i H' => ∃ k : Nat, i = .int .i64 k ∧ k ≤ zs.length ∧ (∀ z ∈ zs.take k, 0 ≤ z ∧ z ≤ 15) ∧ H = H', fun i _ => match i with | .int _ x => (1000 - x).toNat | _ => 0, ⟨0, rfl, by omega, by simp, rfl⟩, ?_⟩
  rintro _ _ _ ⟨k, rfl, hk, hok, rfl⟩
  refine hs.len hvl (by decide) ?_
  rw [pLt_v]
  refine pCond_if (fun hkl => ?_) (fun hkl => ?_)
  · have hkn : k < zs.length := by omega
    have hld : ∀ {K : Value → Prop}, K (.int .i64 zs[k]) → pIdxSl 1 v (.int .i64 (k : Int)) fun x => pLoad H x K := fun hK =>
      hs.at_ hvl (by decide) (by omega) (by omega) fun p hp => hp.load hs (w := .int .i64 zs[k]) (by rw [Int.toNat_natCast, Nat.mul_one, numsV_get hkn]) hK
    have hmem : zs[k] ∈ zs := List.getElem_mem hkn
    refine hld ?_
    rw [pLt_v]
    refine pOr_if (d := decide (15 < zs[k])) (fun _ => hld (by rw [pGt_v]; exact ⟨rfl, rfl⟩)) ?_
    intro _
    refine pCond_b (fun hb => ?_) (fun hb => ?_)
    · simp only [Bool.or_eq_true, decide_eq_true_eq] at hb
      rw [why_no (fun g => by have := g.2 _ hmem; omega)] at h
      exact h
    simp only [Bool.or_eq_false_iff, decide_eq_false_iff_not] at hb
    rw [pAdd_v, w64 (n := (k : Int) + 1) (by omega) (by omega)]
    refine ⟨⟨k + 1, rfl, by omega, ?_, rfl⟩, by show (_ : Int).toNat < (_ : Int).toNat; omega⟩
    rw [take_snoc hkn]
    intro z hz
    rcases List.mem_append.1 hz with hz | hz
    · exact hok z hz
    · rw [List.mem_singleton.1 hz]; omega
  have hkk : k = zs.length := by omega
  subst hkk
  rw [List.take_length] at hok
  have hokz : okZ zs := ⟨by omega, hok⟩
  rw [why_ok hokz] at h
  clear hkl hk
  refine ⟨fun s al on i H' => ∃ k : Nat, i = .int .i64 k ∧ k ≤ zs.length ∧ s = .int .i64 (shareL (natL (zs.take k)) 15 : Nat) ∧ al = .int .i64 (nzL (natL (zs.take k)) : Nat) ∧ on = .int .i64 (cntL (natL (zs.take k)) 1 : Nat) ∧ H = H', fun _ _ _ i _ => match i with | .int _ x => (1000 - x).toNat | _ => 0, ⟨0, rfl, by omega, rfl, rfl, rfl, rfl⟩, ?_⟩
  rintro _ _ _ _ _ _ ⟨k, rfl, hk, rfl, rfl, rfl, rfl⟩
  have hsl := shareL_le (natL (zs.take k)) 15
  rw [natL_len, List.length_take] at hsl
  have hsl2 : shareL (natL (zs.take k)) 15 ≤ 288 * 2 ^ 15 := Nat.le_trans hsl (Nat.mul_le_mul_right _ (by omega))
  have hnz : nzL (natL (zs.take k)) ≤ 288 := by
    have := List.countP_le_length (p := fun k : Nat => decide (k ≠ 0)) (l := natL (zs.take k))
    rw [natL_len, List.length_take] at this
    unfold nzL; omega
  have hc1 : cntL (natL (zs.take k)) 1 ≤ 288 := by
    have := List.countP_le_length (p := fun k : Nat => decide (k = 1)) (l := natL (zs.take k))
    rw [natL_len, List.length_take] at this
    unfold cntL; omega
  refine hs.len hvl (by decide) ?_
  rw [pLt_v]
  refine pCond_if (fun hkl => ?_) (fun hkl => ?_)
  · have hkn : k < zs.length := by omega
    have hld : ∀ {K : Value → Prop}, K (.int .i64 zs[k]) → pIdxSl 1 v (.int .i64 (k : Int)) fun x => pLoad H x K := fun hK =>
      hs.at_ hvl (by decide) (by omega) (by omega) fun p hp => hp.load hs (w := .int .i64 zs[k]) (by rw [Int.toNat_natCast, Nat.mul_one, numsV_get hkn]) hK
    have hz := hok _ (List.getElem_mem hkn)
    have hsn := natL_snoc hkn
    obtain ⟨q, hq⟩ : ∃ q : Nat, zs[k] = q := ⟨zs[k].toNat, by omega⟩
    rw [hq, Int.toNat_natCast] at hsn
    rw [hq] at hld hz
    refine ⟨fun s al on H' => s = .int .i64 (shareL (natL (zs.take (k + 1))) 15 : Nat) ∧ al = .int .i64 (nzL (natL (zs.take (k + 1))) : Nat) ∧ on = .int .i64 (cntL (natL (zs.take (k + 1))) 1 : Nat) ∧ H = H', ?_, ?_⟩
    · rintro _ _ _ _ _ ⟨rfl, rfl, rfl, rfl⟩
      rw [pAdd_v, w64 (n := (k : Int) + 1) (by omega) (by omega)]
      exact ⟨⟨k + 1, rfl, by omega, rfl, rfl, rfl, rfl⟩, by show (_ : Int).toNat < (_ : Int).toNat; omega⟩
    rw [hsn, shareL_append, nzL_append, cntL_append]
    refine hld ?_
    rw [pEq_0]
    refine pCond_if (fun hz0 => ?_) (fun hz0 => ?_)
    · have : q = 0 := by omega
      subst this
      exact ⟨rfl, rfl, rfl, rfl⟩
    refine ⟨fun p i H' => ∃ j : Nat, i = .int .i64 j ∧ j ≤ q ∧ p = .int .i64 (2 ^ (15 - j) : Nat) ∧ H = H', fun _ i _ => match i with | .int _ x => (1000 - x).toNat | _ => 0, ⟨0, rfl, by omega, rfl, rfl⟩, ?_⟩
    rintro _ _ _ _ ⟨j, rfl, hj, rfl, rfl⟩
    have hp2 : 2 ^ (15 - j) ≤ 2 ^ 15 := Nat.pow_le_pow_right (by decide) (by omega)
    refine hld ?_
    rw [pLt_v]
    refine pCond_if (fun hjq => ?_) (fun hjq => ?_)
    · have e : 2 ^ (15 - j) = 2 * 2 ^ (15 - (j + 1)) := by rw [show 15 - j = (15 - (j + 1)) + 1 by omega, Nat.pow_succ, Nat.mul_comm]
      rw [pQuo_v]
      refine ⟨by decide, ?_⟩
      rw [e] at hp2 ⊢
      generalize hP : 2 ^ (15 - (j + 1)) = P at *
      rw [Int.tdiv_eq_ediv_of_nonneg (Int.natCast_nonneg _), show ((2 * P : Nat) : Int) / 2 = (P : Int) by omega, w64 (n := (P : Int)) (by omega) (by omega), pAdd_v, w64 (n := (j : Int) + 1) (by omega) (by omega)]
      exact ⟨⟨j + 1, rfl, by omega, by rw [hP], rfl⟩, by show (_ : Int).toNat < (_ : Int).toNat; omega⟩
    have hje : j = q := by omega
    subst hje
    have es : shareL [j] 15 = 2 ^ (15 - j) := by unfold shareL; rw [List.map_cons, List.map_nil, List.sum_cons, List.sum_nil, if_pos (by omega), Nat.add_zero]
    have en : nzL [j] = 1 := by unfold nzL; rw [List.countP_cons, List.countP_nil, decide_eq_true (by omega)]; rfl
    rw [es, en]
    generalize 2 ^ (15 - j) = P at *
    rw [pAdd_v, w64 (n := ((shareL (natL (zs.take k)) 15 : Nat) : Int) + (P : Int)) (by omega) (by omega), pAdd_v, w64 (n := ((nzL (natL (zs.take k)) : Nat) : Int) + 1) (by omega) (by omega)]
    refine hld ?_
    rw [pEq_0]
    refine pCond_if (fun h1 => ?_) (fun h1 => ?_)
    · have : j = 1 := by omega
      subst this
      rw [pAdd_v, w64 (n := ((cntL (natL (zs.take k)) 1 : Nat) : Int) + 1) (by omega) (by omega)]
      exact ⟨rfl, rfl, rfl, rfl⟩
    · have ec : cntL [j] 1 = 0 := by unfold cntL; rw [List.countP_cons, List.countP_nil, decide_eq_false (by omega)]; rfl
      rw [ec]
      exact ⟨rfl, rfl, rfl, rfl⟩
  have hkk : k = zs.length := by omega
  subst hkk
  rw [List.take_length] at *
  generalize hS : shareL (natL zs) 15 = S at *
  rw [pGt_v]
  refine pCond_if (fun h5 => ?_) (fun h5 => ?_)
  · rw [if_pos (by omega)] at h; exact h
  rw [if_neg (by omega)] at h
  rw [pLt_v]
  refine pAnd_if (d := !(loose && slackL (natL zs))) (fun _ => ?_) ?_
  · refine pAnd_if (d := slackL (natL zs)) (fun _ => ?_) ?_
    · rw [pEq_0]
      refine pOr_if (d := decide (nzL (natL zs) = 1) && decide (cntL (natL zs) 1 = 1)) (fun _ => ?_) ?_
      · rw [pEq_0]
        refine pAnd_if (d := decide (cntL (natL zs) 1 = 1)) (fun _ => ?_) ?_
        · rw [pEq_0]
          exact ⟨by rw [dec_one], rfl⟩
        · intro _
          exact ⟨by rw [dec_one], rfl⟩
      · intro _
        refine ⟨?_, rfl⟩
        unfold slackL
        rw [dec_zero]
    · intro _
      rw [pNot_v]
      exact ⟨rfl, rfl⟩
  · intro _
    refine pCond_b (fun hb => ?_) (fun hb => ?_)
    · simp only [Bool.and_eq_true, decide_eq_true_eq, Bool.not_eq_true'] at hb
      rw [if_pos ⟨by omega, hb.2⟩] at h
      exact h
    · rw [if_neg (fun g => by
        rw [decide_eq_true (by omega), g.2] at hb
        simp at hb)] at h
      exact h
end Go.Proofs.YtpnkoniomalcpaaDoor
