/- The residuals of package lighterref01's functions, printed by resid.py. -/
import Derived.Test.YtaopejkbnohiiaaVcSeat
namespace Go.Proofs.Ytaopejkbnohiiaa
open Go Go.Vc Go.Proofs
set_option linter.unusedVariables false
set_option maxHeartbeats 4000000
def lighterref01_Put.an : Ann := (.seq (.reg (.op 0 [] .nil)) (.seq (.reg (.op 0 [] .nil)) (.seq (.seq (.reg (.op 0 [] .nil)) (.block (.loop [0, 5, 6] [0, 5, 6, 7, 8, 9, 10, 11, 12, 13, 14, 15, 16, 17, 18, 19, 20, 21, 22, 23, 24] (.seq (.seq (.reg (.op 0 [] (.op 1 [] (.op 2 [] (.op 3 [] (.grp 3 (.op 4 [] (.op 5 [] .nil)) 6 .nil)))))) (.cond .leaf .leaf)) (.seq (.block (.seq (.reg (.op 0 [] (.op 1 [] (.op 2 [] (.op 3 [] (.op 4 [] (.op 5 [] (.op 6 [] (.op 7 [] .nil))))))))) (.reg (.op 0 [] (.op 1 [] (.op 2 [] .nil)))))) (.reg (.op 0 [] (.op 1 [] (.op 2 [] .nil))))))))) (.seq (.reg (.op 0 [] (.op 1 [] .nil))) .leaf))))
/-- lighter/lighterref01.Put -/
def lighterref01_Put.res (n0 : Value) (size1 : Value) (H0 : Heap) (R : Value → Heap → Prop) : Prop :=
 ∃ (I_1 : Value → Value → Value → Heap → Prop) (m_2 : Value → Value → Value → Heap → Nat), I_1 n0 (str []) (.int .i64 0) H0 ∧
 ∀ _ : Env, ∀ n0' : Value, ∀ s5 : Value, ∀ i6 : Value, ∀ H_3 : Heap, I_1 n0' s5 i6 H_3 →
 pLt i6 size1 fun x9 =>
 pAnd x9 (fun J_4 =>
 pLe size1 (.int .i64 8) fun x12 =>
 J_4 x12 H_3) H_3 fun x13 H_5 => ∀ _ : Env,
 pCond x13
 (pRem n0' (.int .u64 256) fun x18 =>
 pConv .u8 x18 fun x19 =>
 pBuildSl H_5 5 1 [(.int .u8 0)] [(0, 1, x19)] fun x20 H_6 =>
 pStrOf H_6 x20 fun x21 =>
 pAdd s5 x21 fun x22 =>
 pQuo n0' (.int .u64 256) fun x24 =>
 pAdd i6 (.int .i64 1) fun x15 =>
 I_1 x24 x22 x15 H_6 ∧ m_2 x24 x22 x15 H_6 < m_2 n0' s5 i6 H_3)
 (R s5 H_5)
set_option maxRecDepth 100000 in
theorem lighterref01_Put.vc (n0 : Value) (size1 : Value) (H0 : Heap) (R : Value → Heap → Prop) (h : lighterref01_Put.res n0 size1 H0 R) : CallsH Try.prog 25 #[n0, size1] H0 R := by
  have e : vcFn Try.prog Try.C Try.f25 lighterref01_Put.an [n0, size1] H0 R = lighterref01_Put.res n0 size1 H0 R := by kernel_rfl
  exact vcFn_sound Try.callable Try.mixed Try.func25 (by kernel_rfl) (e.mpr h)

end Go.Proofs.Ytaopejkbnohiiaa
