/- The residuals of package slices's functions, printed by resid.py. -/
import Derived.Test.YtdaolhlfngfmgaaVcSeat
namespace Go.Proofs.Ytdaolhlfngfmgaa
open Go Go.Vc Go.Proofs
set_option linter.unusedVariables false
set_option maxHeartbeats 4000000
def slices_DeleteFunc_s_int_int.an : Ann := (.seq (.reg (.op 0 [] .nil)) (.seq (.reg (.op 0 [] (.op 1 [] (.op 2 [] (.op 3 [] .nil))))) (.seq (.seq (.reg (.op 0 [] (.op 1 [] .nil))) (.cond (.seq (.reg (.op 0 [] (.op 1 [] .nil))) .leaf) .leaf)) (.seq (.seq (.reg (.op 0 [] (.op 1 [] (.op 2 [] .nil)))) (.block (.loop [5, 6] [5, 6, 7, 16, 17, 18, 19, 20, 21, 22, 23, 24, 25, 26, 27, 28, 29, 30, 31, 32, 33, 34, 35] (.seq (.seq (.reg (.op 0 [] (.op 1 [] (.op 2 [] (.op 3 [] .nil))))) (.cond .leaf .leaf)) (.cut [5] [5, 7, 22, 23, 24, 25, 26, 27, 28, 29, 30, 31, 32, 33, 34, 35] (.block (.seq (.reg (.op 0 [] (.op 1 [] (.op 2 [] (.op 3 [] (.op 4 [] .nil)))))) (.seq (.reg (.op 0 [] (.op 1 [] (.op 2 [] (.op 3 [] .nil))))) (.cond (.seq (.reg (.op 0 [] (.op 1 [] (.op 2 [] (.op 3 [] (.op 4 [] .nil)))))) (.reg (.op 0 [] (.op 1 [] (.op 2 [] .nil))))) .leaf)))) (.reg (.op 0 [] (.op 1 [] (.op 2 [] .nil))))))))) (.seq (.reg (.op 0 [] (.op 1 [] (.op 2 [] (.op 3 [] .nil))))) (.seq (.reg (.op 0 [] (.op 1 [] (.op 2 [] (.op 3 [] .nil))))) .leaf))))))
/-- slices.DeleteFunc[[]int,int] -/
def slices_DeleteFunc_s_int_int.res (s0 : Value) (del1 : Value) (H0 : Heap) (R : Value → Heap → Prop) : Prop :=
 CallsH Try.prog 56 #[s0, del1] H0 fun x10 H_1 =>
 pEq 0 x10 (.int .i64 (-1)) fun x12 =>
 pCond x12
 (R s0 H_1)
 (pAdd x10 (.int .i64 1) fun x15 =>
 ∃ (I_2 : Value → Value → Heap → Prop) (m_3 : Value → Value → Heap → Nat), I_2 x10 x15 H_1 ∧
 ∀ _ : Env, ∀ i5 : Value, ∀ j6 : Value, ∀ H_4 : Heap, I_2 i5 j6 H_4 →
 pLen s0 fun x18 =>
 pLt j6 x18 fun x19 =>
 pCond x19
 (∃ J_5 : Value → Heap → Prop, (∀ _ : Env, ∀ i5' : Value, ∀ H_6 : Heap, J_5 i5' H_6 →
 pAdd j6 (.int .i64 1) fun x21 =>
 I_2 i5' x21 H_6 ∧ m_3 i5' x21 H_6 < m_3 i5 j6 H_4) ∧
 pIdxSl 1 s0 j6 fun x24 =>
 pLoad H_4 x24 fun x25 =>
 callH Try.prog Try.C del1 [x25] H_4 fun x28 H_7 =>
 pNot x28 fun x29 =>
 pCond x29
 (pIdxSl 1 s0 i5 fun x33 =>
 pStore H_7 x33 x25 fun _ H_8 =>
 pAdd i5 (.int .i64 1) fun x35 =>
 J_5 x35 H_8)
 (J_5 i5 H_7))
 (pSlSl 1 s0 (some i5) none fun x38 =>
 pClearS H_4 [(.int .i64 0)] x38 fun _ H_9 =>
 pSlSl 1 s0 none (some i5) fun x41 =>
 R x41 H_9))
set_option maxRecDepth 100000 in
theorem slices_DeleteFunc_s_int_int.vc (s0 : Value) (del1 : Value) (H0 : Heap) (R : Value → Heap → Prop) (h : slices_DeleteFunc_s_int_int.res s0 del1 H0 R) : CallsH Try.prog 35 #[s0, del1] H0 R := by
  have e : vcFn Try.prog Try.C Try.f35 slices_DeleteFunc_s_int_int.an [s0, del1] H0 R = slices_DeleteFunc_s_int_int.res s0 del1 H0 R := by kernel_rfl
  exact vcFn_sound Try.callable Try.mixed Try.func35 (by kernel_rfl) (e.mpr h)

def slices_IndexFunc_s_int_int.an : Ann := (.seq (.reg (.op 0 [] .nil)) (.seq (.seq (.reg (.op 0 [] (.op 1 [] (.op 2 [] .nil)))) (.block (.loop [8] [4, 5, 8, 9, 10, 11, 12, 13, 14, 15, 16, 17, 18] (.seq (.reg (.op 0 [] .nil)) (.seq (.cond .leaf .leaf) (.seq (.block (.seq (.reg (.op 0 [] (.op 1 [] .nil))) (.seq (.reg (.op 0 [] (.op 1 [] (.op 2 [] (.op 3 [] (.op 4 [] (.op 5 [] .nil))))))) (.cond (.seq (.reg (.op 0 [] (.op 1 [] .nil))) .leaf) .leaf)))) (.reg (.op 0 [] (.op 1 [] .nil))))))))) (.seq (.reg (.op 0 [] .nil)) .leaf)))
/-- slices.IndexFunc[[]int,int] -/
def slices_IndexFunc_s_int_int.res (s0 : Value) (f1 : Value) (H0 : Heap) (R : Value → Heap → Prop) : Prop :=
 pLen s0 fun x7 =>
 ∃ (I_1 : Value → Heap → Prop) (m_2 : Value → Heap → Nat), I_1 (.int .i64 0) H0 ∧
 ∀ _ : Env, ∀ x8 : Value, ∀ H_3 : Heap, I_1 x8 H_3 →
 pLt x8 x7 fun x9 =>
 pCond x9
 (pIdxSl 1 s0 x8 fun x14 =>
 pLoad H_3 x14 fun x15 =>
 callH Try.prog Try.C f1 [x15] H_3 fun x16 H_4 =>
 pCond x16
 (R x8 H_4)
 (pAdd x8 (.int .i64 1) fun x18 =>
 I_1 x18 H_4 ∧ m_2 x18 H_4 < m_2 x8 H_3))
 (R (.int .i64 (-1)) H_3)
set_option maxRecDepth 100000 in
theorem slices_IndexFunc_s_int_int.vc (s0 : Value) (f1 : Value) (H0 : Heap) (R : Value → Heap → Prop) (h : slices_IndexFunc_s_int_int.res s0 f1 H0 R) : CallsH Try.prog 56 #[s0, f1] H0 R := by
  have e : vcFn Try.prog Try.C Try.f56 slices_IndexFunc_s_int_int.an [s0, f1] H0 R = slices_IndexFunc_s_int_int.res s0 f1 H0 R := by kernel_rfl
  exact vcFn_sound Try.callable Try.mixed Try.func56 (by kernel_rfl) (e.mpr h)

end Go.Proofs.Ytdaolhlfngfmgaa
