/- The residuals of package lighterref06's functions, printed by resid.py. -/
import Derived.Test.YtecmldekdgjpnaaVcSeat
namespace Go.Proofs.Ytecmldekdgjpnaa
open Go Go.Vc Go.Proofs
set_option linter.unusedVariables false
set_option maxHeartbeats 4000000
def lighterref06_Copy.an : Ann := (.seq (.reg (.op 0 [] (.op 1 [] .nil))) (.seq (.reg (.op 0 [] (.op 1 [] (.op 2 [] .nil)))) (.seq (.seq (.reg (.op 0 [] (.op 1 [] (.op 2 [] (.grp 2 (.op 3 [] (.op 4 [] .nil)) 5 (.op 6 [] (.grp 6 (.op 7 [] (.op 8 [] .nil)) 9 (.op 10 [] (.grp 10 (.op 11 [] (.op 12 [] (.op 13 [] (.op 14 [] .nil)))) 15 .nil))))))))) (.cond (.seq (.reg (.op 0 [] (.op 1 [] .nil))) .leaf) .leaf)) (.seq (.reg (.op 0 [] .nil)) (.seq (.seq (.reg (.op 0 [] .nil)) (.block (.loop [9, 10] [9, 10, 11, 30, 31, 32, 33, 34, 35, 36, 37, 38, 39, 40, 41, 42, 43, 44, 45, 46, 47, 48, 49, 50] (.seq (.seq (.reg (.op 0 [] (.op 1 [] (.op 2 [] .nil)))) (.cond .leaf .leaf)) (.seq (.block (.seq (.reg (.op 0 [] (.op 1 [] (.op 2 [] (.op 3 [] .nil))))) (.reg (.op 0 [] (.op 1 [] (.op 2 [] (.op 3 [] (.op 4 [] (.op 5 [] (.op 6 [] (.op 7 [] (.op 8 [] (.op 9 [] (.op 10 [] (.op 11 [] (.op 12 [] (.op 13 [] .nil))))))))))))))))) (.reg (.op 0 [] (.op 1 [] (.op 2 [] .nil))))))))) (.seq (.reg (.op 0 [] (.op 1 [] (.op 2 [] .nil)))) .leaf))))))
/-- lighter/lighterref06.Copy -/
def lighterref06_Copy.res (s0 : Value) (n1 : Value) (dist2 : Value) (H0 : Heap) (R : Value → Heap → Prop) : Prop :=
 CallsH Try.prog 16 #[s0, (.int .i64 32768)] H0 fun x13 H_1 =>
 pLt n1 (.int .i64 0) fun x15 =>
 pOr x15 (fun J_2 =>
 pGt n1 (.int .i64 258) fun x18 =>
 J_2 x18 H_1) H_1 fun x19 H_3 => ∀ _ : Env,
 pOr x19 (fun J_4 =>
 pLt dist2 (.int .i64 1) fun x22 =>
 J_4 x22 H_3) H_3 fun x23 H_5 => ∀ _ : Env,
 pOr x23 (fun J_6 =>
 pLenS x13 fun x27 =>
 pGt dist2 x27 fun x28 =>
 J_6 x28 H_5) H_5 fun x29 H_7 => ∀ _ : Env,
 pCond x29
 (R (.tuple #[(str []), (.bool false)]) H_7)
 (∃ (I_8 : Value → Value → Heap → Prop) (m_9 : Value → Value → Heap → Nat), I_8 (str []) (.int .i64 0) H_7 ∧
 ∀ _ : Env, ∀ out9 : Value, ∀ i10 : Value, ∀ H_10 : Heap, I_8 out9 i10 H_10 →
 pLt i10 n1 fun x32 =>
 pCond x32
 (pAdd x13 out9 fun x37 =>
 pLenS x37 fun x41 =>
 pSub x41 dist2 fun x43 =>
 pLenS x37 fun x45 =>
 pSub x45 dist2 fun x47 =>
 pAdd x47 (.int .i64 1) fun x48 =>
 pSlStr x37 (some x43) (some x48) fun x49 =>
 pAdd out9 x49 fun x50 =>
 pAdd i10 (.int .i64 1) fun x34 =>
 I_8 x50 x34 H_10 ∧ m_9 x50 x34 H_10 < m_9 out9 i10 H_10)
 (R (.tuple #[out9, (.bool true)]) H_10))
set_option maxRecDepth 100000 in
theorem lighterref06_Copy.vc (s0 : Value) (n1 : Value) (dist2 : Value) (H0 : Heap) (R : Value → Heap → Prop) (h : lighterref06_Copy.res s0 n1 dist2 H0 R) : CallsH Try.prog 14 #[s0, n1, dist2] H0 R := by
  have e : vcFn Try.prog Try.C Try.f14 lighterref06_Copy.an [s0, n1, dist2] H0 R = lighterref06_Copy.res s0 n1 dist2 H0 R := by kernel_rfl
  exact vcFn_sound Try.callable Try.mixed Try.func14 (by kernel_rfl) (e.mpr h)

def lighterref06_Last.an : Ann := (.seq (.reg (.op 0 [] .nil)) (.seq (.seq (.reg (.op 0 [] (.op 1 [] (.op 2 [] (.op 3 [] .nil))))) (.cond (.seq (.reg (.op 0 [] (.op 1 [] (.op 2 [] (.op 3 [] (.op 4 [] (.op 5 [] (.op 6 [] .nil)))))))) .leaf) .leaf)) (.seq (.reg (.op 0 [] (.op 1 [] .nil))) .leaf)))
/-- lighter/lighterref06.Last -/
def lighterref06_Last.res (s0 : Value) (n1 : Value) (H0 : Heap) (R : Value → Heap → Prop) : Prop :=
 pLenS s0 fun x6 =>
 pGt x6 n1 fun x8 =>
 pCond x8
 (pLenS s0 fun x11 =>
 pSub x11 n1 fun x13 =>
 pSlStr s0 (some x13) none fun x14 =>
 R x14 H0)
 (R s0 H0)
set_option maxRecDepth 100000 in
theorem lighterref06_Last.vc (s0 : Value) (n1 : Value) (H0 : Heap) (R : Value → Heap → Prop) (h : lighterref06_Last.res s0 n1 H0 R) : CallsH Try.prog 16 #[s0, n1] H0 R := by
  have e : vcFn Try.prog Try.C Try.f16 lighterref06_Last.an [s0, n1] H0 R = lighterref06_Last.res s0 n1 H0 R := by kernel_rfl
  exact vcFn_sound Try.callable Try.mixed Try.func16 (by kernel_rfl) (e.mpr h)

end Go.Proofs.Ytecmldekdgjpnaa
