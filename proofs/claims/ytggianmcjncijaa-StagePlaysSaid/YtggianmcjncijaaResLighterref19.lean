/- The residuals of package lighterref19's functions, printed by resid.py. -/
import Derived.Test.YtggianmcjncijaaVcSeat
namespace Go.Proofs.Ytggianmcjncijaa
open Go Go.Vc Go.Proofs
set_option linter.unusedVariables false
set_option maxHeartbeats 4000000
def lighterref19_Read.an : Ann := (.seq (.reg (.op 0 [] (.op 1 [] .nil))) (.seq (.seq (.reg (.op 0 [] (.op 1 [] (.op 2 [] (.grp 2 (.op 3 [] (.op 4 [] .nil)) 5 (.op 6 [] (.grp 6 (.op 7 [] (.op 8 [] (.op 9 [] (.op 10 [] .nil)))) 11 (.op 12 [] (.grp 12 (.op 13 [] (.op 14 [] (.op 15 [] (.op 16 [] (.op 17 [] (.op 18 [] .nil)))))) 19 .nil))))))))) (.cond (.seq (.reg (.op 0 [] (.op 1 [] .nil))) .leaf) .leaf)) (.seq (.reg (.op 0 [] (.op 1 [] (.op 2 [] (.op 3 [] (.op 4 [] (.op 5 [] (.op 6 [] (.op 7 [] .nil))))))))) .leaf)))
/-- lighter/lighterref19.Read -/
def lighterref19_Read.res (s0 : Value) (at1 : Value) (n2 : Value) (H0 : Heap) (R : Value → Heap → Prop) : Prop :=
 pLt at1 (.int .i64 0) fun x9 =>
 pOr x9 (fun J_1 =>
 pLt n2 (.int .i64 0) fun x12 =>
 J_1 x12 H0) H0 fun x13 H_2 => ∀ _ : Env,
 pOr x13 (fun J_3 =>
 pLenS s0 fun x17 =>
 pGt at1 x17 fun x18 =>
 J_3 x18 H_2) H_2 fun x19 H_4 => ∀ _ : Env,
 pOr x19 (fun J_5 =>
 pLenS s0 fun x23 =>
 pSub x23 at1 fun x25 =>
 pGt n2 x25 fun x26 =>
 J_5 x26 H_4) H_4 fun x27 H_6 => ∀ _ : Env,
 pCond x27
 (R (.tuple #[(str []), (.bool false)]) H_6)
 (pAdd at1 n2 fun x32 =>
 pSlStr s0 (some at1) (some x32) fun x33 =>
 R (.tuple #[x33, (.bool true)]) H_6)
set_option maxRecDepth 100000 in
theorem lighterref19_Read.vc (s0 : Value) (at1 : Value) (n2 : Value) (H0 : Heap) (R : Value → Heap → Prop) (h : lighterref19_Read.res s0 at1 n2 H0 R) : CallsH Try.prog 11 #[s0, at1, n2] H0 R := by
  have e : vcFn Try.prog Try.C Try.f11 lighterref19_Read.an [s0, at1, n2] H0 R = lighterref19_Read.res s0 at1 n2 H0 R := by kernel_rfl
  exact vcFn_sound Try.callable Try.mixed Try.func11 (by kernel_rfl) (e.mpr h)

end Go.Proofs.Ytggianmcjncijaa
