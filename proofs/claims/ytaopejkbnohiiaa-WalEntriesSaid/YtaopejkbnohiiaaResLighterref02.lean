/- The residuals of package lighterref02's functions, printed by resid.py. -/
import Derived.Test.YtaopejkbnohiiaaVcSeat
namespace Go.Proofs.Ytaopejkbnohiiaa
open Go Go.Vc Go.Proofs
set_option linter.unusedVariables false
set_option maxHeartbeats 4000000
def lighterref02_More.an : Ann := (.seq (.reg (.op 0 [] .nil)) (.seq (.reg (.op 0 [] (.op 1 [] (.op 2 [] .nil)))) (.seq (.seq (.reg (.op 0 [] .nil)) (.block (.loop [0, 5] [0, 5, 8, 9, 10, 11, 12, 13, 14, 15, 16, 17, 18, 19, 20] (.seq (.seq (.reg (.op 0 [] (.op 1 [] (.op 2 [] (.op 3 [] .nil))))) (.cond .leaf .leaf)) (.seq (.block (.reg (.op 0 [] (.op 1 [] (.op 2 [] (.op 3 [] (.op 4 [] (.op 5 [] (.op 6 [] (.op 7 [] .nil)))))))))) (.reg (.op 0 [] (.op 1 [] (.op 2 [] .nil))))))))) (.seq (.reg (.op 0 [] (.op 1 [] (.op 2 [] .nil)))) .leaf))))
/-- lighter/lighterref02.More -/
def lighterref02_More.res (sum0 : Value) (s1 : Value) (H0 : Heap) (R : Value → Heap → Prop) : Prop :=
 pSub (.int .u32 4294967295) sum0 fun x7 =>
 ∃ (I_1 : Value → Value → Heap → Prop) (m_2 : Value → Value → Heap → Nat), I_1 x7 (.int .i64 0) H0 ∧
 ∀ _ : Env, ∀ sum0' : Value, ∀ i5 : Value, ∀ H_3 : Heap, I_1 sum0' i5 H_3 →
 pLenS s1 fun x10 =>
 pLt i5 x10 fun x11 =>
 pCond x11
 (pIdxStr s1 i5 fun x17 =>
 pConv .u32 x17 fun x18 =>
 pBits .xor sum0' x18 fun x19 =>
 CallsH Try.prog 46 #[x19] H_3 fun x20 H_4 =>
 pAdd i5 (.int .i64 1) fun x13 =>
 I_1 x20 x13 H_4 ∧ m_2 x20 x13 H_4 < m_2 sum0' i5 H_3)
 (pSub (.int .u32 4294967295) sum0' fun x22 =>
 R x22 H_3)
set_option maxRecDepth 100000 in
theorem lighterref02_More.vc (sum0 : Value) (s1 : Value) (H0 : Heap) (R : Value → Heap → Prop) (h : lighterref02_More.res sum0 s1 H0 R) : CallsH Try.prog 26 #[sum0, s1] H0 R := by
  have e : vcFn Try.prog Try.C Try.f26 lighterref02_More.an [sum0, s1] H0 R = lighterref02_More.res sum0 s1 H0 R := by kernel_rfl
  exact vcFn_sound Try.callable Try.mixed Try.func26 (by kernel_rfl) (e.mpr h)

def lighterref02_Turn.an : Ann := (.seq (.reg (.op 0 [] .nil)) (.seq (.seq (.reg (.op 0 [] .nil)) (.block (.loop [0, 3] [0, 3, 4, 5, 6, 7, 8, 9, 10, 11, 12, 13, 14, 15, 16] (.seq (.seq (.reg (.op 0 [] (.op 1 [] .nil))) (.cond .leaf .leaf)) (.cut [0] [0, 4, 9, 10, 11, 12, 13, 14, 15, 16] (.block (.seq (.reg (.op 0 [] (.op 1 [] (.op 2 [] (.op 3 [] .nil))))) (.seq (.reg (.op 0 [] (.op 1 [] (.op 2 [] .nil)))) (.seq (.reg (.op 0 [] .nil)) (.cond (.reg (.op 0 [] (.op 1 [] (.op 2 [] .nil)))) .leaf))))) (.reg (.op 0 [] (.op 1 [] (.op 2 [] .nil))))))))) (.seq (.reg (.op 0 [] (.op 1 [] .nil))) .leaf)))
/-- lighter/lighterref02.Turn -/
def lighterref02_Turn.res (s0 : Value) (H0 : Heap) (R : Value → Heap → Prop) : Prop :=
 ∃ (I_1 : Value → Value → Heap → Prop) (m_2 : Value → Value → Heap → Nat), I_1 s0 (.int .i64 0) H0 ∧
 ∀ _ : Env, ∀ s0' : Value, ∀ i3 : Value, ∀ H_3 : Heap, I_1 s0' i3 H_3 →
 pLt i3 (.int .i64 8) fun x6 =>
 pCond x6
 (∃ J_4 : Value → Heap → Prop, (∀ _ : Env, ∀ s0'' : Value, ∀ H_5 : Heap, J_4 s0'' H_5 →
 pAdd i3 (.int .i64 1) fun x8 =>
 I_1 s0'' x8 H_5 ∧ m_2 s0'' x8 H_5 < m_2 s0' i3 H_3) ∧
 pRem s0' (.int .u32 2) fun x10 =>
 pEq 0 x10 (.int .u32 1) fun x11 =>
 pQuo s0' (.int .u32 2) fun x13 =>
 pCond x11
 (pBits .xor x13 (.int .u32 3988292384) fun x16 =>
 J_4 x16 H_3)
 (J_4 x13 H_3))
 (R s0' H_3)
set_option maxRecDepth 100000 in
theorem lighterref02_Turn.vc (s0 : Value) (H0 : Heap) (R : Value → Heap → Prop) (h : lighterref02_Turn.res s0 H0 R) : CallsH Try.prog 46 #[s0] H0 R := by
  have e : vcFn Try.prog Try.C Try.f46 lighterref02_Turn.an [s0] H0 R = lighterref02_Turn.res s0 H0 R := by kernel_rfl
  exact vcFn_sound Try.callable Try.mixed Try.func46 (by kernel_rfl) (e.mpr h)

end Go.Proofs.Ytaopejkbnohiiaa
