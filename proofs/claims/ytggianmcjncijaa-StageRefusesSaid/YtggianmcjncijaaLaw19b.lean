/- The law StageRefuses over heaps. -/
import Derived.Test.YtggianmcjncijaaLaw19
namespace Go.Proofs.Ytggianmcjncijaa
open Go Go.Vc Go.Proofs
set_option linter.unusedVariables false
set_option linter.unusedSimpArgs false
variable {H H0 : Heap} {R : Value → Heap → Prop} {v : Value} {L : List It} {b fb at_ n : Nat} {M : Dk} {C : List UInt8}
def refMid (H_3 : Heap) (R : Value → Heap → Prop) (F : Heap → Prop) : Prop :=
 CallsH Try.prog 9 #[(.pointer none), (.int .i64 0), (.int .i64 1), (.int .i64 0)] H_3 fun x32 H_4 =>
 pExtract 0 x32 fun x33 =>
 pExtract 1 x32 fun x34 =>
 CallsH Try.prog 10 #[(.pointer none), (.int .i64 0), (.int .i64 0)] H_4 fun x37 H_5 =>
 pExtract 0 x37 fun x38 =>
 pExtract 1 x37 fun x39 =>
 pNe 0 x34 (.int .i64 1) fun x41 =>
 pOr x41 (fun J_6 =>
 pNe 0 x39 (.int .i64 1) fun x44 =>
 J_6 x44 H_5) H_5 fun x45 H_7 => ∀ _ : Env,
 pOr x45 (fun J_8 =>
 CallsH Try.prog 14 #[(.pointer none), (str [120])] H_7 fun x48 H_10 =>
 pNe 0 x48 (.int .i64 1) fun x49 =>
 J_8 x49 H_10) H_7 fun x50 H_9 => ∀ _ : Env,
 pOr x50 (fun J_11 =>
 CallsH Try.prog 13 #[(.pointer none)] H_9 fun x53 H_13 =>
 pNe 0 x53 (.int .i64 1) fun x54 =>
 J_11 x54 H_13) H_9 fun x55 H_12 => ∀ _ : Env,
 pOr x55 (fun J_14 =>
 CallsH Try.prog 12 #[(.pointer none), (.int .i64 0)] H_12 fun x58 H_16 =>
 pNe 0 x58 (.int .i64 1) fun x59 =>
 J_14 x59 H_16) H_12 fun x60 H_15 => ∀ _ : Env,
 pOr x60 (fun J_17 =>
 CallsH Try.prog 15 #[(.pointer none)] H_15 fun x63 H_19 =>
 CallsH Try.prog 16 #[(.pointer none)] H_19 fun x65 H_20 =>
 pAdd x63 x65 fun x66 =>
 pNe 0 x66 (.int .i64 0) fun x67 =>
 J_17 x67 H_20) H_15 fun x68 H_18 => ∀ _ : Env,
 pCond x68
 (R (.bool false) H_18)
 (F H_18)
theorem refMid_spec {F : Heap → Prop} (h : F H) : refMid H R F := by
  unfold refMid
  refine newF_bad (.inl rfl) ?_
  refine pExtract_to rfl ?_
  refine pExtract_to rfl ?_
  refine readF_nil ?_
  refine pExtract_to rfl ?_
  refine pExtract_to rfl ?_
  rw [pNe_0, decide_eq_false (by simp)]
  refine pOr_false ?_
  rw [pNe_0, decide_eq_false (by simp)]
  intro _
  refine pOr_false ?_
  refine append_nil ?_
  rw [pNe_0, decide_eq_false (by simp)]
  intro _
  refine pOr_false ?_
  refine syncF_nil ?_
  rw [pNe_0, decide_eq_false (by simp)]
  intro _
  refine pOr_false ?_
  refine cut_nil ?_
  rw [pNe_0, decide_eq_false (by simp)]
  intro _
  refine pOr_false ?_
  refine len_nil19 ?_
  refine room_nil ?_
  rw [pAdd_v, pNe_0, decide_eq_false (by decide)]
  intro _
  rw [pCond_false]
  exact h
theorem StageRefuses_law (a n s : Int) (w0 : (Lit.int .i64 a).wf = true) (w1 : (Lit.int .i64 n).wf = true) (w2 : (Lit.int .i64 s).wf = true) : CallsH Try.prog 5 #[.int .i64 a, .int .i64 n, .int .i64 s] H (LawOk H) := by
  have ha := wf64 w0
  have hn := wf64 w1
  have hs := wf64 w2
  refine lighterlaw19_StageRefuses.vc _ _ _ _ _ ?_
  unfold lighterlaw19_StageRefuses.res
  refine speaks19_spec fun H1 hx1 => ?_
  rw [pNot_v, Bool.not_true, pCond_false]
  refine new_spec (n := 8) (Owns.start (H := H1)) (by decide) (by decide) fun H2 b d => ?_
  refine pExtract_to rfl ?_
  refine pExtract_to rfl ?_
  have hM : (Dk.new 8).n = 8 := rfl
  by_cases hn1 : n < 1
  · refine newF_bad (.inr ⟨⟨b, rfl⟩, hn1⟩) ?_
    refine pExtract_to rfl ?_
    refine pExtract_to rfl ?_
    refine refMid_spec ?_
    rw [pLt_v, decide_eq_true hn1, pCond_true, pEq_0, decide_eq_true (by rfl)]
    refine pAnd_true ?_
    rw [pEq_3n]
    intro _
    exact ⟨rfl, hx1.trans d.ext⟩
  have hok : ∀ {H' : Heap} {K : Value → Heap → Prop}, K (.bool (decide (0 ≤ a ∧ a ≤ 8 ∧ n ≤ 8 - a ∧ 0 ≤ s ∧ s ≤ n * 64))) H' →
      pGe (.int .i64 a) (.int .i64 0) fun x78 =>
      pAnd x78 (fun J_23 =>
      pLe (.int .i64 a) (.int .i64 8) fun x81 =>
      J_23 x81 H') H' fun x82 H_24 => ∀ _ : Env,
      pAnd x82 (fun J_25 =>
      pSub (.int .i64 8) (.int .i64 a) fun x86 =>
      pLe (.int .i64 n) x86 fun x87 =>
      J_25 x87 H_24) H_24 fun x88 H_26 => ∀ _ : Env,
      pAnd x88 (fun J_27 =>
      pGe (.int .i64 s) (.int .i64 0) fun x91 =>
      J_27 x91 H_26) H_26 fun x92 H_28 => ∀ _ : Env,
      pAnd x92 (fun J_29 =>
      pLe (.int .i64 s) (.int .i64 512) fun x95 =>
      J_29 x95 H_28) H_28 fun x96 H_30 => ∀ _ : Env,
      pAnd x96 (fun J_31 =>
      pMul (.int .i64 64) (.int .i64 n) fun x100 =>
      pLe (.int .i64 s) x100 fun x101 =>
      J_31 x101 H_30) H_30 fun x102 H_32 => ∀ _ : Env, K x102 H_32 := by
    intro H' K hK
    rw [pGe_v]
    refine pAnd_if (d := decide (a ≤ 8)) (fun _ => by rw [pLe_v]; exact ⟨rfl, rfl⟩) ?_
    intro _
    refine pAnd_if (d := decide (n ≤ 8 - a)) (fun h => ?_) ?_
    · rw [Bool.and_eq_true, decide_eq_true_eq, decide_eq_true_eq] at h
      rw [pSub_v, w64 (n := 8 - a) (by omega) (by omega), pLe_v]
      exact ⟨rfl, rfl⟩
    intro _
    refine pAnd_if (d := decide (0 ≤ s)) (fun _ => by rw [pGe_v]; exact ⟨rfl, rfl⟩) ?_
    intro _
    refine pAnd_if (d := decide (s ≤ 512)) (fun _ => by rw [pLe_v]; exact ⟨rfl, rfl⟩) ?_
    intro _
    refine pAnd_if (d := decide (s ≤ n * 64)) (fun h => ?_) ?_
    · simp only [Bool.and_eq_true, decide_eq_true_eq] at h
      rw [pMul_v, w64 (n := 64 * n) (by omega) (by omega), pLe_v]
      refine ⟨?_, rfl⟩
      congr 2
      rw [Int.mul_comm]
    intro _
    rw [show (decide (0 ≤ a) && decide (a ≤ 8) && decide (n ≤ 8 - a) && decide (0 ≤ s) && decide (s ≤ 512) && decide (s ≤ n * 64)) = decide (0 ≤ a ∧ a ≤ 8 ∧ n ≤ 8 - a ∧ 0 ≤ s ∧ s ≤ n * 64) by
      rw [Bool.eq_iff_iff]
      simp only [Bool.and_eq_true, decide_eq_true_eq]
      omega]
    exact hK
  refine newF_spec ⟨hn.1, hn.2⟩ d (by omega) (fun hg => ?_) (fun g1 g2 g3 g4 g5 H3 fb d => ?_)
  · rw [hM] at hg
    refine pExtract_to rfl ?_
    refine pExtract_to rfl ?_
    refine refMid_spec ?_
    rw [pLt_v, decide_eq_false hn1, pCond_false]
    refine hok ?_
    rw [decide_eq_false (show ¬ (0 ≤ a ∧ a ≤ 8 ∧ n ≤ 8 - a ∧ 0 ≤ s ∧ s ≤ n * 64) from hg), pEq_0, decide_eq_false (by decide), pEq_2, decide_eq_true (by rfl)]
    refine pAnd_true ?_
    refine pOr_false ?_
    rw [pEq_0, decide_eq_true (by rfl)]
    refine pAnd_true ?_
    rw [pEq_3n]
    intro _
    intro _
    intro _
    refine pAnd_true ?_
    rw [pNot_v, Bool.not_false, pOr_true]
    intro _
    intro _
    exact ⟨rfl, hx1.trans d.ext⟩
  · rw [hM] at g2 g3
    refine pExtract_to rfl ?_
    refine pExtract_to rfl ?_
    refine refMid_spec ?_
    rw [pLt_v, decide_eq_false hn1, pCond_false]
    refine hok ?_
    obtain ⟨a', rfl⟩ : ∃ a' : Nat, a = a' := ⟨a.toNat, by omega⟩
    obtain ⟨n', rfl⟩ : ∃ n' : Nat, n = n' := ⟨n.toNat, by omega⟩
    obtain ⟨s', rfl⟩ : ∃ s' : Nat, s = s' := ⟨s.toNat, by omega⟩
    rw [Int.toNat_natCast, Int.toNat_natCast, Int.toNat_natCast] at d
    rw [decide_eq_true (show 0 ≤ (a' : Int) ∧ (a' : Int) ≤ 8 ∧ (n' : Int) ≤ 8 - (a' : Int) ∧ 0 ≤ (s' : Int) ∧ (s' : Int) ≤ (n' : Int) * 64 from ⟨g1, g2, g3, g4, g5⟩), pEq_0, decide_eq_true (show (0 : Int) = 0 from rfl), pEq_2, decide_eq_true (show true = true from rfl)]
    refine pAnd_true ?_
    rw [pOr_true]
    intro _
    intro _
    refine pAnd_true ?_
    rw [pNot_v, Bool.not_true]
    refine pOr_false ?_
    refine len_spec19 d ?_
    rw [pEq_0, decide_eq_true (show (s' : Int) = (s' : Int) from rfl)]
    refine pAnd_true ?_
    refine room_spec d (by omega) (by omega) ?_
    rw [pMul_v, w64 (n := 64 * (n' : Int)) (by omega) (by omega), pSub_v, w64 (n := 64 * (n' : Int) - (s' : Int)) (by omega) (by omega), pEq_0, decide_eq_true (by omega)]
    intro _
    intro _
    intro _
    exact ⟨rfl, hx1.trans d.ext⟩
end Go.Proofs.Ytggianmcjncijaa
