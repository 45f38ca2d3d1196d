/- The residuals of package lighterref01's functions, printed by resid.py. -/
import Derived.Test.YtelldphojhmhfaaVcSeat
namespace Go.Proofs.Ytelldphojhmhfaa
open Go Go.Vc Go.Proofs
set_option linter.unusedVariables false
set_option maxHeartbeats 4000000
def lighterref01_Bits.an : Ann := (.seq (.reg (.op 0 [] .nil)) (.seq (.reg (.op 0 [] .nil)) (.seq (.seq (.reg (.op 0 [] .nil)) (.block (.loop [3, 4] [3, 4, 5, 6, 7, 8, 9, 10, 11, 12, 13, 14, 15, 16, 17, 18, 19, 20, 21, 22, 23, 24, 25, 26, 27] (.seq (.seq (.reg (.op 0 [] (.op 1 [] (.op 2 [] (.op 3 [] .nil))))) (.cond .leaf .leaf)) (.seq (.block (.seq (.reg (.op 0 [] (.op 1 [] (.op 2 [] (.op 3 [] (.op 4 [] .nil)))))) (.seq (.reg (.op 0 [] .nil)) (.block (.loop [3, 5, 6] [3, 5, 6, 17, 18, 19, 20, 21, 22, 23, 24, 25, 26, 27] (.seq (.seq (.reg (.op 0 [] (.op 1 [] .nil))) (.cond .leaf .leaf)) (.seq (.block (.seq (.reg (.op 0 [] (.op 1 [] (.op 2 [] (.op 3 [] (.op 4 [] (.op 5 [] .nil))))))) (.reg (.op 0 [] (.op 1 [] (.op 2 [] .nil)))))) (.reg (.op 0 [] (.op 1 [] (.op 2 [] .nil))))))))))) (.reg (.op 0 [] (.op 1 [] (.op 2 [] .nil))))))))) (.seq (.reg (.op 0 [] (.op 1 [] .nil))) .leaf))))
/-- lighter/lighterref01.Bits -/
def lighterref01_Bits.res (s0 : Value) (H0 : Heap) (R : Value → Heap → Prop) : Prop :=
 ∃ (I_1 : Value → Value → Heap → Prop) (m_2 : Value → Value → Heap → Nat), I_1 (.slice none 0 0) (.int .i64 0) H0 ∧
 ∀ _ : Env, ∀ out3 : Value, ∀ i4 : Value, ∀ H_3 : Heap, I_1 out3 i4 H_3 →
 pLenS s0 fun x9 =>
 pLt i4 x9 fun x10 =>
 pCond x10
 (pIdxStr s0 i4 fun x15 =>
 pConv .i64 x15 fun x16 =>
 ∃ (I_4 : Value → Value → Value → Heap → Prop) (m_5 : Value → Value → Value → Heap → Nat), I_4 out3 x16 (.int .i64 0) H_3 ∧
 ∀ _ : Env, ∀ out3' : Value, ∀ v5 : Value, ∀ k6 : Value, ∀ H_6 : Heap, I_4 out3' v5 k6 H_6 →
 pLt k6 (.int .i64 8) fun x18 =>
 pCond x18
 (pRem v5 (.int .i64 2) fun x23 =>
 pBuildSl H_6 3 1 [(.int .i64 0)] [(0, 1, x23)] fun x24 H_7 =>
 pAppend H_7 3 1 8 [(.int .i64 0)] out3' x24 fun x25 H_8 =>
 pQuo v5 (.int .i64 2) fun x27 =>
 pAdd k6 (.int .i64 1) fun x20 =>
 I_4 x25 x27 x20 H_8 ∧ m_5 x25 x27 x20 H_8 < m_5 out3' v5 k6 H_6)
 (pAdd i4 (.int .i64 1) fun x12 =>
 I_1 out3' x12 H_6 ∧ m_2 out3' x12 H_6 < m_2 out3 i4 H_3))
 (R out3 H_3)
set_option maxRecDepth 100000 in
theorem lighterref01_Bits.vc (s0 : Value) (H0 : Heap) (R : Value → Heap → Prop) (h : lighterref01_Bits.res s0 H0 R) : CallsH Try.prog 21 #[s0] H0 R := by
  have e : vcFn Try.prog Try.C Try.f21 lighterref01_Bits.an [s0] H0 R = lighterref01_Bits.res s0 H0 R := by kernel_rfl
  exact vcFn_sound Try.callable Try.mixed Try.func21 (by kernel_rfl) (e.mpr h)

def lighterref01_Bytes.an : Ann := (.seq (.reg (.op 0 [] .nil)) (.seq (.reg (.op 0 [] .nil)) (.seq (.seq (.reg (.op 0 [] .nil)) (.block (.loop [3, 4] [3, 4, 5, 6, 7, 8, 9, 10, 11, 12, 13, 14, 15, 16, 17, 18, 19, 20, 21, 22] (.seq (.seq (.reg (.op 0 [] (.op 1 [] (.op 2 [] (.op 3 [] (.op 4 [] .nil)))))) (.cond .leaf .leaf)) (.seq (.block (.reg (.op 0 [] (.op 1 [] (.op 2 [] (.op 3 [] (.op 4 [] (.op 5 [] (.op 6 [] (.op 7 [] (.op 8 [] (.op 9 [] (.op 10 [] (.op 11 [] .nil)))))))))))))) (.reg (.op 0 [] (.op 1 [] (.op 2 [] .nil))))))))) (.seq (.reg (.op 0 [] (.op 1 [] .nil))) .leaf))))
/-- lighter/lighterref01.Bytes -/
def lighterref01_Bytes.res (b0 : Value) (H0 : Heap) (R : Value → Heap → Prop) : Prop :=
 ∃ (I_1 : Value → Value → Heap → Prop) (m_2 : Value → Value → Heap → Nat), I_1 (str []) (.int .i64 0) H0 ∧
 ∀ _ : Env, ∀ s3 : Value, ∀ i4 : Value, ∀ H_3 : Heap, I_1 s3 i4 H_3 →
 pAdd i4 (.int .i64 8) fun x6 =>
 pLen b0 fun x8 =>
 pLe x6 x8 fun x9 =>
 pCond x9
 (pAdd i4 (.int .i64 8) fun x16 =>
 pSlSl 1 b0 (some i4) (some x16) fun x17 =>
 CallsH Try.prog 23 #[x17] H_3 fun x18 H_4 =>
 pConv .u8 x18 fun x19 =>
 pBuildSl H_4 5 1 [(.int .u8 0)] [(0, 1, x19)] fun x20 H_5 =>
 pStrOf H_5 x20 fun x21 =>
 pAdd s3 x21 fun x22 =>
 pAdd i4 (.int .i64 8) fun x11 =>
 I_1 x22 x11 H_5 ∧ m_2 x22 x11 H_5 < m_2 s3 i4 H_3)
 (R s3 H_3)
set_option maxRecDepth 100000 in
theorem lighterref01_Bytes.vc (b0 : Value) (H0 : Heap) (R : Value → Heap → Prop) (h : lighterref01_Bytes.res b0 H0 R) : CallsH Try.prog 22 #[b0] H0 R := by
  have e : vcFn Try.prog Try.C Try.f22 lighterref01_Bytes.an [b0] H0 R = lighterref01_Bytes.res b0 H0 R := by kernel_rfl
  exact vcFn_sound Try.callable Try.mixed Try.func22 (by kernel_rfl) (e.mpr h)

def lighterref01_Number.an : Ann := (.seq (.reg (.op 0 [] .nil)) (.seq (.reg (.op 0 [] .nil)) (.seq (.seq (.reg (.op 0 [] (.op 1 [] (.op 2 [] (.op 3 [] .nil))))) (.block (.loop [3, 4] [3, 4, 8, 9, 10, 11, 12, 13, 14, 15, 16, 17, 18, 19] (.seq (.seq (.reg (.op 0 [] (.op 1 [] .nil))) (.cond .leaf .leaf)) (.seq (.block (.reg (.op 0 [] (.op 1 [] (.op 2 [] (.op 3 [] (.op 4 [] (.op 5 [] (.op 6 [] (.op 7 [] (.op 8 [] .nil))))))))))) (.reg (.op 0 [] (.op 1 [] (.op 2 [] .nil))))))))) (.seq (.reg (.op 0 [] (.op 1 [] .nil))) .leaf))))
/-- lighter/lighterref01.Number -/
def lighterref01_Number.res (b0 : Value) (H0 : Heap) (R : Value → Heap → Prop) : Prop :=
 pLen b0 fun x6 =>
 pSub x6 (.int .i64 1) fun x7 =>
 ∃ (I_1 : Value → Value → Heap → Prop) (m_2 : Value → Value → Heap → Nat), I_1 (.int .u64 0) x7 H0 ∧
 ∀ _ : Env, ∀ n3 : Value, ∀ i4 : Value, ∀ H_3 : Heap, I_1 n3 i4 H_3 →
 pGe i4 (.int .i64 0) fun x9 =>
 pCond x9
 (pMul (.int .u64 2) n3 fun x13 =>
 pIdxSl 1 b0 i4 fun x16 =>
 pLoad H_3 x16 fun x17 =>
 pConv .u64 x17 fun x18 =>
 pAdd x13 x18 fun x19 =>
 pSub i4 (.int .i64 1) fun x11 =>
 I_1 x19 x11 H_3 ∧ m_2 x19 x11 H_3 < m_2 n3 i4 H_3)
 (R n3 H_3)
set_option maxRecDepth 100000 in
theorem lighterref01_Number.vc (b0 : Value) (H0 : Heap) (R : Value → Heap → Prop) (h : lighterref01_Number.res b0 H0 R) : CallsH Try.prog 23 #[b0] H0 R := by
  have e : vcFn Try.prog Try.C Try.f23 lighterref01_Number.an [b0] H0 R = lighterref01_Number.res b0 H0 R := by kernel_rfl
  exact vcFn_sound Try.callable Try.mixed Try.func23 (by kernel_rfl) (e.mpr h)

end Go.Proofs.Ytelldphojhmhfaa
