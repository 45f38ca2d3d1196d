/- The residuals of package lighterref05's functions, printed by resid.py. -/
import Derived.Test.YtfmbgnchedhneaaVcSeat
namespace Go.Proofs.Ytfmbgnchedhneaa
open Go Go.Vc Go.Proofs
set_option linter.unusedVariables false
set_option maxHeartbeats 4000000
def lighterref05_Good.an : Ann := (.seq (.reg (.op 0 [] (.op 1 [] .nil))) (.seq (.seq (.reg (.op 0 [] (.op 1 [] (.op 2 [] .nil)))) (.cond (.seq (.reg (.op 0 [] (.op 1 [] (.op 2 [] (.op 3 [] .nil))))) .leaf) .leaf)) (.seq (.reg (.op 0 [] (.op 1 [] (.op 2 [] (.op 3 [] (.grp 3 (.op 4 [] (.op 5 [] (.op 6 [] .nil))) 7 (.op 8 [] (.grp 8 (.op 9 [] (.op 10 [] (.op 11 [] .nil))) 12 (.op 13 [] (.grp 13 (.op 14 [] (.op 15 [] (.op 16 [] .nil))) 17 (.op 18 [] (.grp 18 (.op 19 [] (.op 20 [] (.op 21 [] .nil))) 22 (.op 23 [] .nil))))))))))))) .leaf)))
/-- lighter/lighterref05.Good -/
def lighterref05_Good.res (t0 : Value) (H0 : Heap) (R : Value → Heap → Prop) : Prop :=
 pBox H0 29 t0 fun t1 H_1 =>
 pFieldAddr 1 t1 fun x3 =>
 pLoad H_1 x3 fun x4 =>
 pEq 0 x4 (.int .i64 0) fun x5 =>
 pCond x5
 (pFieldAddr 2 t1 fun x6 =>
 pLoad H_1 x6 fun x7 =>
 pEq 0 x7 (.int .i64 0) fun x8 =>
 R x8 H_1)
 (pFieldAddr 0 t1 fun x9 =>
 pLoad H_1 x9 fun x10 =>
 pEq 0 x10 (.int .u8 0) fun x11 =>
 pAnd x11 (fun J_2 =>
 pFieldAddr 1 t1 fun x13 =>
 pLoad H_1 x13 fun x14 =>
 pGe x14 (.int .i64 3) fun x15 =>
 J_2 x15 H_1) H_1 fun x16 H_3 => ∀ _ : Env,
 pAnd x16 (fun J_4 =>
 pFieldAddr 1 t1 fun x18 =>
 pLoad H_3 x18 fun x19 =>
 pLe x19 (.int .i64 258) fun x20 =>
 J_4 x20 H_3) H_3 fun x21 H_5 => ∀ _ : Env,
 pAnd x21 (fun J_6 =>
 pFieldAddr 2 t1 fun x23 =>
 pLoad H_5 x23 fun x24 =>
 pGe x24 (.int .i64 1) fun x25 =>
 J_6 x25 H_5) H_5 fun x26 H_7 => ∀ _ : Env,
 pAnd x26 (fun J_8 =>
 pFieldAddr 2 t1 fun x28 =>
 pLoad H_7 x28 fun x29 =>
 pLe x29 (.int .i64 32768) fun x30 =>
 J_8 x30 H_7) H_7 fun x31 H_9 => ∀ _ : Env,
 R x31 H_9)
set_option maxRecDepth 100000 in
theorem lighterref05_Good.vc (t0 : Value) (H0 : Heap) (R : Value → Heap → Prop) (h : lighterref05_Good.res t0 H0 R) : CallsH Try.prog 5 #[t0] H0 R := by
  have e : vcFn Try.prog Try.C Try.f5 lighterref05_Good.an [t0] H0 R = lighterref05_Good.res t0 H0 R := by kernel_rfl
  exact vcFn_sound Try.callable Try.mixed Try.func5 (by kernel_rfl) (e.mpr h)

end Go.Proofs.Ytfmbgnchedhneaa
