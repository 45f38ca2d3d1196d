/- The residuals of package cmp's functions, printed by resid.py. -/
import Derived.Test.YtaopejkbnohiiaaVcSeat
namespace Go.Proofs.Ytaopejkbnohiiaa
open Go Go.Vc Go.Proofs
set_option linter.unusedVariables false
set_option maxHeartbeats 4000000
def cmp_Compare_uint64.an : Ann := (.seq (.reg (.op 0 [] .nil)) (.seq (.reg (.op 0 [] (.op 1 [] (.op 2 [] .nil)))) (.seq (.reg (.op 0 [] (.op 1 [] (.op 2 [] .nil)))) (.seq (.seq (.reg (.op 0 [] .nil)) (.cond (.seq (.seq (.reg (.op 0 [] .nil)) (.cond (.seq (.reg (.op 0 [] .nil)) .leaf) .leaf)) (.seq (.reg (.op 0 [] .nil)) .leaf)) .leaf)) (.seq (.seq (.reg (.op 0 [] .nil)) (.cond (.seq (.reg (.op 0 [] .nil)) .leaf) .leaf)) (.seq (.seq (.reg (.op 0 [] (.op 1 [] (.op 2 [] .nil)))) (.cond (.seq (.reg (.op 0 [] .nil)) .leaf) .leaf)) (.seq (.seq (.reg (.op 0 [] (.op 1 [] (.op 2 [] .nil)))) (.cond (.seq (.reg (.op 0 [] .nil)) .leaf) .leaf)) (.seq (.reg (.op 0 [] .nil)) .leaf))))))))
/-- cmp.Compare[uint64] -/
def cmp_Compare_uint64.res (x0 : Value) (y1 : Value) (H0 : Heap) (R : Value → Heap → Prop) : Prop :=
 CallsH Try.prog 50 #[x0] H0 fun x8 H_1 =>
 CallsH Try.prog 50 #[y1] H_1 fun x10 H_2 =>
 pCond x8
 (pCond x10
 (R (.int .i64 0) H_2)
 (R (.int .i64 (-1)) H_2))
 (pCond x10
 (R (.int .i64 1) H_2)
 (pLt x0 y1 fun x16 =>
 pCond x16
 (R (.int .i64 (-1)) H_2)
 (pGt x0 y1 fun x19 =>
 pCond x19
 (R (.int .i64 1) H_2)
 (R (.int .i64 0) H_2))))
set_option maxRecDepth 100000 in
theorem cmp_Compare_uint64.vc (x0 : Value) (y1 : Value) (H0 : Heap) (R : Value → Heap → Prop) (h : cmp_Compare_uint64.res x0 y1 H0 R) : CallsH Try.prog 37 #[x0, y1] H0 R := by
  have e : vcFn Try.prog Try.C Try.f37 cmp_Compare_uint64.an [x0, y1] H0 R = cmp_Compare_uint64.res x0 y1 H0 R := by kernel_rfl
  exact vcFn_sound Try.callable Try.mixed Try.func37 (by kernel_rfl) (e.mpr h)

def cmp_isNaN_uint64.an : Ann := (.seq (.reg (.op 0 [] .nil)) (.seq (.reg (.op 0 [] (.op 1 [] (.op 2 [] (.op 3 [] .nil))))) .leaf))
/-- cmp.isNaN[uint64] -/
def cmp_isNaN_uint64.res (x0 : Value) (H0 : Heap) (R : Value → Heap → Prop) : Prop :=
 pNe 0 x0 x0 fun x5 =>
 R x5 H0
set_option maxRecDepth 100000 in
theorem cmp_isNaN_uint64.vc (x0 : Value) (H0 : Heap) (R : Value → Heap → Prop) (h : cmp_isNaN_uint64.res x0 H0 R) : CallsH Try.prog 50 #[x0] H0 R := by
  have e : vcFn Try.prog Try.C Try.f50 cmp_isNaN_uint64.an [x0] H0 R = cmp_isNaN_uint64.res x0 H0 R := by kernel_rfl
  exact vcFn_sound Try.callable Try.mixed Try.func50 (by kernel_rfl) (e.mpr h)

end Go.Proofs.Ytaopejkbnohiiaa
