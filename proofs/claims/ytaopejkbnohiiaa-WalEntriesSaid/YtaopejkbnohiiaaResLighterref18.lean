/- The residuals of package lighterref18's functions, printed by resid.py. -/
import Derived.Test.YtaopejkbnohiiaaVcSeat
namespace Go.Proofs.Ytaopejkbnohiiaa
open Go Go.Vc Go.Proofs
set_option linter.unusedVariables false
set_option maxHeartbeats 4000000
def lighterref18_Slot.an : Ann := (.seq (.reg (.op 0 [] .nil)) (.seq (.seq (.reg (.op 0 [] (.op 1 [] (.op 2 [] (.grp 2 (.op 3 [] (.op 4 [] (.op 5 [] .nil))) 6 .nil))))) (.cond (.seq (.reg (.op 0 [] .nil)) .leaf) .leaf)) (.cut [5] [5, 13, 14, 15, 16, 17, 18, 19, 20, 21, 22] (.drw [0, 1, 0, 4, 12, 28, 60, 127, 0, 511, 1023] (.op 0 [] (.op 2 [] (.op 3 [] (.op 4 [] (.op 8 [] (.fork (.op 1 [] (.op 5 [] (.op 6 [] (.op 7 [] (.op 9 [] (.op 10 [] .nil)))))) (.op 5 [] (.op 6 [] (.op 1 [6] (.op 7 [] (.op 9 [] (.op 10 [] .nil))))))))))))) (.seq (.reg (.op 0 [] (.op 1 [] (.op 2 [] (.op 3 [] (.op 4 [] (.op 5 [] (.op 6 [] (.op 7 [] .nil))))))))) (.seq (.reg (.op 0 [] (.op 1 [] (.op 2 [] (.op 3 [] (.op 4 [] (.op 5 [] (.op 6 [] .nil)))))))) .leaf)))))
/-- lighter/lighterref18.Slot -/
def lighterref18_Slot.res (n0 : Value) (s1 : Value) (H0 : Heap) (R : Value → Heap → Prop) : Prop :=
 pEq 0 n0 (.int .u64 0) fun x7 =>
 pOr x7 (fun J_1 =>
 pLenS s1 fun x10 =>
 pGt x10 (.int .i64 23) fun x11 =>
 J_1 x11 H0) H0 fun x12 H_2 => ∀ _ : Env,
 pCond x12
 (R (str []) H_2)
 (∃ J_3 : Value → Heap → Prop, (∀ _ : Env, ∀ b5 : Value, ∀ H_4 : Heap, J_3 b5 H_4 →
 pLenS b5 fun x25 =>
 pSub (.int .i64 60) x25 fun x26 =>
 pMakeSl H_4 5 1 [(.int .u8 0)] x26 x26 fun x27 H_5 =>
 pStrOf H_5 x27 fun x28 =>
 pAdd b5 x28 fun x29 =>
 CallsH Try.prog 26 #[(.int .u32 0), x29] H_5 fun x32 H_6 =>
 pConv .u64 x32 fun x33 =>
 CallsH Try.prog 25 #[x33, (.int .i64 4)] H_6 fun x34 H_7 =>
 pAdd x29 x34 fun x35 =>
 R x35 H_7) ∧
 pLenS s1 fun x16 =>
 pConv .u8 x16 fun x17 =>
 (CallsH Try.prog 25 #[n0, (.int .i64 8)] H_2 fun x14 H_8 =>
 pBuildSl H_8 5 1 [(.int .u8 0)] [(0, 1, x17)] fun x18 H_9 =>
 pStrOf H_9 x18 fun x19 =>
 pAdd x14 x19 fun x20 =>
 pAdd x20 s1 fun x22 =>
 J_3 x22 H_9) ∧
 (pBuildSl H_2 5 1 [(.int .u8 0)] [(0, 1, x17)] fun x18 H_10 =>
 pStrOf H_10 x18 fun x19 =>
 CallsH Try.prog 25 #[n0, (.int .i64 8)] H_10 fun x14 H_11 =>
 (pStrOf H_11 x18 fun r_ =>
 r_ = x19) ∧
 pAdd x14 x19 fun x20 =>
 pAdd x20 s1 fun x22 =>
 J_3 x22 H_11))
set_option maxRecDepth 100000 in
theorem lighterref18_Slot.vc (n0 : Value) (s1 : Value) (H0 : Heap) (R : Value → Heap → Prop) (h : lighterref18_Slot.res n0 s1 H0 R) : CallsH Try.prog 12 #[n0, s1] H0 R := by
  have e : vcFn Try.prog Try.C Try.f12 lighterref18_Slot.an [n0, s1] H0 R = lighterref18_Slot.res n0 s1 H0 R := by kernel_rfl
  exact vcFn_sound Try.callable Try.mixed Try.func12 (by kernel_rfl) (e.mpr h)

end Go.Proofs.Ytaopejkbnohiiaa
