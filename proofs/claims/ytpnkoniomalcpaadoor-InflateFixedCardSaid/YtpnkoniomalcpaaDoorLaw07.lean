/- The laws of package inflate over heaps: InflateNone. -/
import Derived.Test.YtpnkoniomalcpaaDoorInf9
import Derived.Test.YtpnkoniomalcpaaDoorInfR
import Derived.Test.YtpnkoniomalcpaaDoorResA
namespace Go.Proofs.YtpnkoniomalcpaaDoor
open Go Go.Vc Go.Proofs
set_option linter.unusedVariables false
set_option linter.unusedSimpArgs false
variable {H H0 : Heap} {R : Value → Heap → Prop}
theorem run_one : ∃ D', run ⟨.hd, toBits [3, 0, 109, 111, 114, 101], []⟩ = ([], D', 0) ∧ D'.st.isDn = true ∧ toBytes ((alB D'.B).take (8 * (D'.B.length / 8))) = [109, 111, 114, 101] := by
  have e : toBits [3, 0, 109, 111, 114, 101] = true :: true :: false :: (fixWord 256 ++ (List.replicate 6 false ++ toBits [109, 111, 114, 101])) := by decide
  rw [e]
  have s1 := step_fixed (l := true) (C := fixWord 256 ++ (List.replicate 6 false ++ toBits [109, 111, 114, 101])) (W := [])
  have s2 := step_end (l := true) (W := []) (zs := fixL) (zd := fixD) (next_fix (s := 256) (C := List.replicate 6 false ++ toBits [109, 111, 114, 101]) (by decide))
  refine ⟨_, (Steps.step s1 (Steps.one s2)).fin rfl, rfl, by decide⟩
theorem run_two : ∃ D', run ⟨.hd, toBits [75, 4, 0], []⟩ = ([97], D', 0) ∧ D'.st.isDn = true := by
  have e : toBits [75, 4, 0] = true :: true :: false :: (fixWord 97 ++ (fixWord 256 ++ List.replicate 6 false)) := by decide
  rw [e]
  have s1 := step_fixed (l := true) (C := fixWord 97 ++ (fixWord 256 ++ List.replicate 6 false)) (W := [])
  have s2 := step_lit (l := true) (W := []) (zs := fixL) (zd := fixD) (x := 97) (next_fix (s := 97) (C := fixWord 256 ++ List.replicate 6 false) (by decide))
  have s3 := step_end (l := true) (W := [97]) (zs := fixL) (zd := fixD) (next_fix (s := 256) (C := List.replicate 6 false) (by decide))
  exact ⟨_, (Steps.step s1 (Steps.step s2 (Steps.one s3))).fin rfl, rfl⟩
theorem speaks07 (hG : Reads H ⟨0, 0, none⟩ ordV) (h : ∀ H', Ext H H' → R (.bool true) H') : CallsH Tryd.prog 7 #[] H R := by
  obtain ⟨D1, r1, d1, t1⟩ := run_one
  obtain ⟨D2, r2, d2⟩ := run_two
  refine lighterlaw07_speaks.vc _ _ ?_
  unfold lighterlaw07_speaks.res
  refine all_spec7 hG (Owns.start (H := H)) (by decide) (fun o D' H1 hr hd hx => ?_) (fun o D' H1 hr hd hx => ?_) (fun o D' e H1 hr he hx => ?_)
  rotate_left
  · rw [r1] at hr
    simp only [Prod.mk.injEq] at hr
    obtain ⟨-, rfl, -⟩ := hr
    rw [d1] at hd; cases hd
  · rw [r1] at hr
    simp only [Prod.mk.injEq] at hr
    exact absurd hr.2.2.symm he
  rw [r1] at hr
  simp only [Prod.mk.injEq] at hr
  obtain ⟨rfl, rfl, -⟩ := hr
  rw [t1]
  refine pExtract_to rfl ?_
  refine pExtract_to rfl ?_
  refine pExtract_to rfl ?_
  refine all_spec7 (hG.ext hx) (Owns.start (H := H1)) (by decide) (fun o D' H2 hr hd hx2 => ?_) (fun o D' H2 hr hd hx2 => ?_) (fun o D' e H2 hr he hx2 => ?_)
  rotate_left
  · rw [r2] at hr
    simp only [Prod.mk.injEq] at hr
    obtain ⟨-, rfl, -⟩ := hr
    rw [d2] at hd; cases hd
  · rw [r2] at hr
    simp only [Prod.mk.injEq] at hr
    exact absurd hr.2.2.symm he
  rw [r2] at hr
  simp only [Prod.mk.injEq] at hr
  obtain ⟨rfl, rfl, -⟩ := hr
  refine pExtract_to rfl ?_
  refine pExtract_to rfl ?_
  refine pExtract_to rfl ?_
  rw [pEq_0, decide_eq_true (p := (0 : Int) = 0) rfl]
  refine pAnd_true ?_
  refine pEq1_to ?_
  rw [decide_eq_true rfl]
  intro _
  refine pAnd_true ?_
  refine pEq1_to ?_
  rw [decide_eq_true rfl]
  intro _
  refine pAnd_true ?_
  rw [pEq_0, decide_eq_true (p := (0 : Int) = 0) rfl]
  intro _
  refine pAnd_true ?_
  refine pEq1_to ?_
  rw [decide_eq_true rfl]
  intro _
  exact h H2 (hx.trans hx2)
theorem InflateNone_law (s : List UInt8) (hG : Reads H ⟨0, 0, none⟩ ordV) (w0 : (ByteArray.mk s.toArray).size ≤ maxLen) : CallsH Tryd.prog 3 #[str s] H (LawOk H) := by
  refine lighterlaw07_InflateNone.vc _ _ _ ?_
  unfold lighterlaw07_InflateNone.res
  refine speaks07 hG fun H1 hx1 => ?_
  rw [pNot_v, Bool.not_true, pCond_false]
  refine feed_nil ?_
  refine pExtract_to rfl ?_
  refine pExtract_to rfl ?_
  refine new_spec7 (Owns.start (H := H1)) fun H2 b r => ?_
  have e0 : run (DM.add ⟨.hd, [], []⟩ (toBits [])) = ([], ⟨.hd, [], []⟩, 0) := run_empty
  refine feed_spec7 (s := []) (hG.ext hx1) r trivial (by decide) (by decide) (fun o D' H3 M hr r => ?_) (fun o D' e H3 M hr he d => ?_)
  rotate_left
  · rw [e0] at hr
    simp only [Prod.mk.injEq] at hr
    exact absurd hr.2.2.symm he
  rw [e0] at hr
  simp only [Prod.mk.injEq] at hr
  obtain ⟨rfl, rfl, -⟩ := hr
  refine pExtract_to rfl ?_
  refine pExtract_to rfl ?_
  have hx3 : Ext H1 H3 := by obtain ⟨q, _, bp, bv, _, _, rv, ring, _, _, o⟩ := r; exact o.ext
  have e1 : run ⟨.hd, toBits [], []⟩ = ([], ⟨.hd, [], []⟩, 0) := run_empty
  refine all_spec7 ((hG.ext hx1).ext hx3) (Owns.start (H := H3)) (by decide) (fun o D' H4 hr hd hx => ?_) (fun o D' H4 hr hd hx => ?_) (fun o D' e H4 hr he hx => ?_)
  · rw [e1] at hr
    simp only [Prod.mk.injEq] at hr
    obtain ⟨-, rfl, -⟩ := hr
    cases hd
  rotate_left
  · rw [e1] at hr
    simp only [Prod.mk.injEq] at hr
    exact absurd hr.2.2.symm he
  refine pExtract_to rfl ?_
  refine pExtract_to rfl ?_
  refine pExtract_to rfl ?_
  rw [pEq_0, decide_eq_true (p := (1 : Int) = 1) rfl]
  refine pAnd_true ?_
  refine done_nil ?_
  rw [pNot_v, Bool.not_false]
  intro _
  refine pAnd_true ?_
  refine rest_nil ?_
  refine pEq1_to ?_
  rw [decide_eq_true rfl]
  intro _
  refine pAnd_true ?_
  refine used_nil ?_
  rw [pEq_0, decide_eq_true (p := ((0 : Nat) : Int) = 0) rfl]
  intro _
  refine pAnd_true ?_
  rw [pEq_0, decide_eq_true (p := (0 : Int) = 0) rfl]
  intro _
  refine pAnd_true ?_
  refine pEq1_to ?_
  rw [decide_eq_true rfl]
  intro _
  refine pAnd_true ?_
  refine done_spec7 (r.more hx) ?_
  rw [pNot_v]
  intro _
  refine pAnd_true ?_
  rw [pEq_0, decide_eq_true (p := (2 : Int) = 2) rfl]
  intro _
  exact ⟨rfl, hx1.trans (hx3.trans hx)⟩
end Go.Proofs.YtpnkoniomalcpaaDoor
