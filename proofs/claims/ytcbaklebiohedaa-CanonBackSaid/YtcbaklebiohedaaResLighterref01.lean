/- The residuals of package lighterref01's functions, printed by resid.py. -/
import Derived.Test.YtcbaklebiohedaaVcSeat
namespace Go.Proofs.Ytcbaklebiohedaa
open Go Go.Vc Go.Proofs
set_option linter.unusedVariables false
set_option maxHeartbeats 4000000
def lighterref01_Bits.an : Ann := (.seq (.reg (.op 0 [] .nil)) (.seq (.reg (.op 0 [] .nil)) (.seq (.seq (.reg (.op 0 [] .nil)) (.block (.loop [3, 4] [3, 4, 5, 6, 7, 8, 9, 10, 11, 12, 13, 14, 15, 16, 17, 18, 19, 20, 21, 22, 23, 24, 25, 26, 27] (.seq (.seq (.reg (.op 0 [] (.op 1 [] (.op 2 [] (.op 3 [] .nil))))) (.cond .leaf .leaf)) (.seq (.block (.seq (.reg (.op 0 [] (.op 1 [] (.op 2 [] (.op 3 [] (.op 4 [] .nil)))))) (.seq (.reg (.op 0 [] .nil)) (.block (.loop [3, 5, 6] [3, 5, 6, 17, 18, 19, 20, 21, 22, 23, 24, 25, 26, 27] (.seq (.seq (.reg (.op 0 [] (.op 1 [] .nil))) (.cond .leaf .leaf)) (.seq (.block (.seq (.reg (.op 0 [] (.op 1 [] (.op 2 [] (.op 3 [] (.op 4 [] (.op 5 [] .nil))))))) (.reg (.op 0 [] (.op 1 [] (.op 2 [] .nil)))))) (.reg (.op 0 [] (.op 1 [] (.op 2 [] .nil))))))))))) (.reg (.op 0 [] (.op 1 [] (.op 2 [] .nil))))))))) (.seq (.reg (.op 0 [] (.op 1 [] .nil))) .leaf))))
/-- lighter/lighterref01.Bits -/
def lighterref01_Bits.res (s0 : Value) (H0 : Heap) (R : Value → Heap → Prop) : Prop :=
 ∃ (I_1 : Value → Value → Heap → Prop) (m_2 : Value → Value → Heap → Nat), I_1 (.slice none 0 0) (.int .i64 0) H0 ∧
 ∀ _ : Env, ∀ out3 : Value, ∀ i4 : Value, ∀ H_3 : Heap, I_1 out3 i4 H_3 →
 pLenS s0 fun x9 =>
 pLt i4 x9 fun x10 =>
 pCond x10
 (pIdxStr s0 i4 fun x15 =>
 pConv .i64 x15 fun x16 =>
 ∃ (I_4 : Value → Value → Value → Heap → Prop) (m_5 : Value → Value → Value → Heap → Nat), I_4 out3 x16 (.int .i64 0) H_3 ∧
 ∀ _ : Env, ∀ out3' : Value, ∀ v5 : Value, ∀ k6 : Value, ∀ H_6 : Heap, I_4 out3' v5 k6 H_6 →
 pLt k6 (.int .i64 8) fun x18 =>
 pCond x18
 (pRem v5 (.int .i64 2) fun x23 =>
 pBuildSl H_6 3 1 [(.int .i64 0)] [(0, 1, x23)] fun x24 H_7 =>
 pAppend H_7 3 1 8 [(.int .i64 0)] out3' x24 fun x25 H_8 =>
 pQuo v5 (.int .i64 2) fun x27 =>
 pAdd k6 (.int .i64 1) fun x20 =>
 I_4 x25 x27 x20 H_8 ∧ m_5 x25 x27 x20 H_8 < m_5 out3' v5 k6 H_6)
 (pAdd i4 (.int .i64 1) fun x12 =>
 I_1 out3' x12 H_6 ∧ m_2 out3' x12 H_6 < m_2 out3 i4 H_3))
 (R out3 H_3)
set_option maxRecDepth 100000 in
theorem lighterref01_Bits.vc (s0 : Value) (H0 : Heap) (R : Value → Heap → Prop) (h : lighterref01_Bits.res s0 H0 R) : CallsH Try.prog 19 #[s0] H0 R := by
  have e : vcFn Try.prog Try.C Try.f19 lighterref01_Bits.an [s0] H0 R = lighterref01_Bits.res s0 H0 R := by kernel_rfl
  exact vcFn_sound Try.callable Try.mixed Try.func19 (by kernel_rfl) (e.mpr h)

end Go.Proofs.Ytcbaklebiohedaa
