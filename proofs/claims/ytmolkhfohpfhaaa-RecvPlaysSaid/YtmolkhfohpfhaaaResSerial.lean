/- The residuals of package serial's functions, printed by resid.py. -/
import Derived.Test.YtmolkhfohpfhaaaVcSeat
namespace Go.Proofs.Ytmolkhfohpfhaaa
open Go Go.Vc Go.Proofs
set_option linter.unusedVariables false
set_option maxHeartbeats 4000000
def serial_In.an : Ann := (.seq (.reg (.op 0 [] .nil)) (.seq (.reg (.op 0 [] (.op 1 [] (.op 2 [] (.grp 2 (.op 3 [] (.op 4 [] (.op 5 [] (.op 6 [] (.op 7 [] (.op 8 [] .nil)))))) 9 (.op 10 [] .nil)))))) .leaf))
/-- lighter/serial.In -/
def serial_In.res (a0 : Value) (first1 : Value) (n2 : Value) (H0 : Heap) (R : Value → Heap → Prop) : Prop :=
 pGt n2 (.int .i64 0) fun x8 =>
 pAnd x8 (fun J_1 =>
 pSub a0 first1 fun x12 =>
 pConv .i64 x12 fun x13 =>
 pLt x13 n2 fun x15 =>
 J_1 x15 H0) H0 fun x16 H_2 => ∀ _ : Env,
 R x16 H_2
set_option maxRecDepth 100000 in
theorem serial_In.vc (a0 : Value) (first1 : Value) (n2 : Value) (H0 : Heap) (R : Value → Heap → Prop) (h : serial_In.res a0 first1 n2 H0 R) : CallsH Try.prog 35 #[a0, first1, n2] H0 R := by
  have e : vcFn Try.prog Try.C Try.f35 serial_In.an [a0, first1, n2] H0 R = serial_In.res a0 first1 n2 H0 R := by kernel_rfl
  exact vcFn_sound Try.callable Try.mixed Try.func35 (by kernel_rfl) (e.mpr h)

def serial_Gap.an : Ann := (.seq (.reg (.op 0 [] .nil)) (.seq (.reg (.op 0 [] (.op 1 [] (.op 2 [] (.op 3 [] (.op 4 [] (.op 5 [] .nil))))))) .leaf))
/-- lighter/serial.Gap -/
def serial_Gap.res (a0 : Value) (b1 : Value) (H0 : Heap) (R : Value → Heap → Prop) : Prop :=
 pSub b1 a0 fun x7 =>
 pConv .i32 x7 fun x8 =>
 pConv .i64 x8 fun x9 =>
 R x9 H0
set_option maxRecDepth 100000 in
theorem serial_Gap.vc (a0 : Value) (b1 : Value) (H0 : Heap) (R : Value → Heap → Prop) (h : serial_Gap.res a0 b1 H0 R) : CallsH Try.prog 37 #[a0, b1] H0 R := by
  have e : vcFn Try.prog Try.C Try.f37 serial_Gap.an [a0, b1] H0 R = serial_Gap.res a0 b1 H0 R := by kernel_rfl
  exact vcFn_sound Try.callable Try.mixed Try.func37 (by kernel_rfl) (e.mpr h)

end Go.Proofs.Ytmolkhfohpfhaaa
