/- The residuals of package lighterref26's functions, printed by resid.py. -/
import Derived.Test.YtelldphojhmhfaaVcSeat
namespace Go.Proofs.Ytelldphojhmhfaa
open Go Go.Vc Go.Proofs
set_option linter.unusedVariables false
set_option maxHeartbeats 4000000
def lighterref26_Spoil.an : Ann := (.seq (.reg (.op 0 [] .nil)) (.seq (.reg (.op 0 [] (.op 1 [] (.op 2 [] .nil)))) (.seq (.seq (.reg (.op 0 [] .nil)) (.block (.loop [8] [8, 9, 10, 11, 14, 15, 16, 17, 18, 19, 20, 21, 22, 23, 24, 25, 26, 27, 28, 29, 30, 31, 32, 33, 34, 35, 36, 37, 38, 39, 40, 41, 42, 43, 44, 45, 46, 47, 48, 49] (.seq (.seq (.reg (.op 0 [] (.op 1 [] .nil))) (.cond .leaf .leaf)) (.seq (.block (.seq (.reg (.op 0 [] (.op 1 [] .nil))) (.seq (.seq (.reg (.op 0 [] .nil)) (.block (.loop [9, 10] [9, 10, 19, 20, 21, 22, 23, 24, 25] (.seq (.seq (.reg (.op 0 [] (.op 1 [] (.op 2 [] .nil)))) (.cond .leaf .leaf)) (.seq (.block (.reg (.op 0 [] (.op 1 [] (.op 2 [] .nil))))) (.reg (.op 0 [] (.op 1 [] (.op 2 [] .nil))))))))) (.seq (.reg (.op 0 [] .nil)) (.block (.loop [11] [11, 26, 27, 28, 29, 30, 31, 32, 33, 34, 35, 36, 37, 38, 39, 40, 41, 42, 43, 44, 45, 46, 47, 48, 49] (.seq (.seq (.reg (.op 0 [] (.op 1 [] (.op 2 [] (.op 3 [] .nil))))) (.cond .leaf .leaf)) (.cut [] [32, 33, 34, 35, 36, 37, 38, 39, 40, 41, 42, 43, 44, 45, 46, 47, 48, 49] (.block (.seq (.reg (.op 0 [] (.op 1 [] (.op 2 [] (.op 3 [] (.grp 3 (.op 4 [] (.op 5 [] (.op 6 [] (.op 7 [] (.op 8 [] .nil))))) 9 .nil)))))) (.cond (.reg (.op 0 [] (.op 1 [] (.op 2 [] (.op 3 [] (.op 4 [] (.op 5 [] (.op 6 [] (.op 7 [] (.op 8 [] .nil)))))))))) .leaf))) (.reg (.op 0 [] (.op 1 [] (.op 2 [] .nil)))))))))))) (.reg (.op 0 [] (.op 1 [] (.op 2 [] .nil))))))))) (.seq (.reg (.op 0 [] (.op 1 [] (.op 2 [] .nil)))) .leaf))))
/-- lighter/lighterref26.Spoil -/
def lighterref26_Spoil.res (s0 : Value) (at1 : Value) (bits2 : Value) (H0 : Heap) (R : Value → Heap → Prop) : Prop :=
 CallsH Try.prog 21 #[s0] H0 fun x13 H_1 =>
 ∃ (I_2 : Value → Heap → Prop) (m_3 : Value → Heap → Nat), I_2 (.int .i64 0) H_1 ∧
 ∀ _ : Env, ∀ k8 : Value, ∀ H_4 : Heap, I_2 k8 H_4 →
 pLt k8 (.int .i64 32) fun x15 =>
 pCond x15
 (∃ (I_5 : Value → Value → Heap → Prop) (m_6 : Value → Value → Heap → Nat), I_5 bits2 (.int .i64 0) H_4 ∧
 ∀ _ : Env, ∀ v9 : Value, ∀ j10 : Value, ∀ H_7 : Heap, I_5 v9 j10 H_7 →
 pLt j10 k8 fun x21 =>
 pCond x21
 (pQuo v9 (.int .u32 2) fun x25 =>
 pAdd j10 (.int .i64 1) fun x23 =>
 I_5 x25 x23 H_7 ∧ m_6 x25 x23 H_7 < m_6 v9 j10 H_7)
 (∃ (I_8 : Value → Heap → Prop) (m_9 : Value → Heap → Nat), I_8 (.int .i64 0) H_7 ∧
 ∀ _ : Env, ∀ i11 : Value, ∀ H_10 : Heap, I_8 i11 H_10 →
 pLen x13 fun x28 =>
 pLt i11 x28 fun x29 =>
 pCond x29
 (∃ J_11 : Heap → Prop, (∀ _ : Env, ∀ H_12 : Heap, J_11 H_12 →
 pAdd i11 (.int .i64 1) fun x31 =>
 I_8 x31 H_12 ∧ m_9 x31 H_12 < m_9 i11 H_10) ∧
 pRem v9 (.int .u32 2) fun x33 =>
 pEq 0 x33 (.int .u32 1) fun x34 =>
 pAnd x34 (fun J_13 =>
 pSub i11 k8 fun x38 =>
 pEq 0 x38 at1 fun x40 =>
 J_13 x40 H_10) H_10 fun x41 H_14 => ∀ _ : Env,
 pCond x41
 (pIdxSl 1 x13 i11 fun x46 =>
 pLoad H_14 x46 fun x47 =>
 pSub (.int .i64 1) x47 fun x48 =>
 pIdxSl 1 x13 i11 fun x49 =>
 pStore H_14 x49 x48 fun _ H_15 =>
 J_11 H_15)
 (J_11 H_14))
 (pAdd k8 (.int .i64 1) fun x17 =>
 I_2 x17 H_10 ∧ m_3 x17 H_10 < m_3 k8 H_4)))
 (CallsH Try.prog 22 #[x13] H_4 fun x51 H_16 =>
 R x51 H_16)
set_option maxRecDepth 100000 in
theorem lighterref26_Spoil.vc (s0 : Value) (at1 : Value) (bits2 : Value) (H0 : Heap) (R : Value → Heap → Prop) (h : lighterref26_Spoil.res s0 at1 bits2 H0 R) : CallsH Try.prog 15 #[s0, at1, bits2] H0 R := by
  have e : vcFn Try.prog Try.C Try.f15 lighterref26_Spoil.an [s0, at1, bits2] H0 R = lighterref26_Spoil.res s0 at1 bits2 H0 R := by kernel_rfl
  exact vcFn_sound Try.callable Try.mixed Try.func15 (by kernel_rfl) (e.mpr h)

end Go.Proofs.Ytelldphojhmhfaa
