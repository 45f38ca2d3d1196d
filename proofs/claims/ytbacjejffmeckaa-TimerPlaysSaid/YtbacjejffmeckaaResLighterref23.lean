/- The residuals of package lighterref23's functions, printed by resid.py. -/
import Derived.Test.YtbacjejffmeckaaVcSeat
namespace Go.Proofs.Ytbacjejffmeckaa
open Go Go.Vc Go.Proofs
set_option linter.unusedVariables false
set_option maxHeartbeats 4000000
def lighterref23_New.an : Ann := (.seq (.reg (.op 0 [] .nil)) (.cut [0] [0, 5, 6] (.seq (.reg (.op 0 [] (.op 1 [] .nil))) (.cond (.reg (.op 0 [] .nil)) .leaf)) (.cut [0] [0, 7, 8] (.seq (.reg (.op 0 [] (.op 1 [] .nil))) (.cond (.reg (.op 0 [] .nil)) .leaf)) (.cut [1] [1, 9, 10, 11, 12] (.seq (.reg (.op 0 [] (.op 1 [] (.op 2 [] .nil)))) (.cond (.reg (.op 0 [] (.op 1 [] .nil))) .leaf)) (.cut [1] [1, 13, 14] (.seq (.reg (.op 0 [] (.op 1 [] .nil))) (.cond (.reg (.op 0 [] .nil)) .leaf)) (.seq (.reg (.op 0 [] (.op 1 [] (.op 2 [] (.op 3 [] (.op 4 [] .nil)))))) .leaf))))))
/-- lighter/lighterref23.New -/
def lighterref23_New.res (first0 : Value) (most1 : Value) (H0 : Heap) (R : Value → Heap → Prop) : Prop :=
 pBox H0 29 (.agg #[(.int .i64 0), (.int .i64 0), (.int .i64 0), (.int .i64 0)]) fun x4 H_1 =>
 ∃ J_2 : Value → Heap → Prop, (∀ _ : Env, ∀ first0' : Value, ∀ H_3 : Heap, J_2 first0' H_3 →
 ∃ J_4 : Value → Heap → Prop, (∀ _ : Env, ∀ first0'' : Value, ∀ H_5 : Heap, J_4 first0'' H_5 →
 ∃ J_6 : Value → Heap → Prop, (∀ _ : Env, ∀ most1' : Value, ∀ H_7 : Heap, J_6 most1' H_7 →
 ∃ J_8 : Value → Heap → Prop, (∀ _ : Env, ∀ most1'' : Value, ∀ H_9 : Heap, J_8 most1'' H_9 →
 pBuild [(.int .i64 0), (.int .i64 0), (.int .i64 0), (.int .i64 0)] [(0, 1, first0''), (1, 1, most1''), (2, 1, first0''), (3, 1, (.int .i64 0))] fun x18 =>
 pStoreN H_9 4 x4 x18 fun _ H_10 =>
 pLoadN H_10 4 x4 fun r_11 =>
 R r_11 H_10) ∧
 pGt most1' (.int .i64 64) fun x14 =>
 pCond x14
 (J_8 (.int .i64 64) H_7)
 (J_8 most1' H_7)) ∧
 pLt most1 first0'' fun x11 =>
 pCond x11
 (J_6 first0'' H_5)
 (J_6 most1 H_5)) ∧
 pGt first0' (.int .i64 64) fun x8 =>
 pCond x8
 (J_4 (.int .i64 64) H_3)
 (J_4 first0' H_3)) ∧
 pLt first0 (.int .i64 1) fun x6 =>
 pCond x6
 (J_2 (.int .i64 1) H_1)
 (J_2 first0 H_1)
set_option maxRecDepth 100000 in
theorem lighterref23_New.vc (first0 : Value) (most1 : Value) (H0 : Heap) (R : Value → Heap → Prop) (h : lighterref23_New.res first0 most1 H0 R) : CallsH Try.prog 12 #[first0, most1] H0 R := by
  have e : vcFn Try.prog Try.C Try.f12 lighterref23_New.an [first0, most1] H0 R = lighterref23_New.res first0 most1 H0 R := by kernel_rfl
  exact vcFn_sound Try.callable Try.mixed Try.func12 (by kernel_rfl) (e.mpr h)

def lighterref23_Tick.an : Ann := (.seq (.reg (.op 0 [] (.op 1 [] (.op 2 [] .nil)))) (.seq (.seq (.reg (.op 0 [] (.op 1 [] (.op 2 [] .nil)))) (.cond (.seq (.reg (.op 0 [] (.op 1 [] (.op 2 [] .nil)))) .leaf) .leaf)) (.seq (.reg (.op 0 [] (.op 1 [] (.op 2 [] (.op 3 [] (.op 4 [] .nil)))))) (.seq (.seq (.reg (.op 0 [] (.op 1 [] (.op 2 [] .nil)))) (.cond (.seq (.reg (.op 0 [] (.op 1 [] (.op 2 [] .nil)))) .leaf) .leaf)) (.seq (.reg (.op 0 [] (.op 1 [] (.op 2 [] (.op 3 [] (.op 4 [] .nil)))))) (.cut [] [20, 21, 22, 23, 24, 25, 26, 27] (.seq (.reg (.op 0 [] (.op 1 [] (.op 2 [] (.op 3 [] (.op 4 [] .nil)))))) (.cond (.reg (.op 0 [] (.op 1 [] (.op 2 [] (.op 3 [] .nil))))) .leaf)) (.seq (.reg (.op 0 [] (.op 1 [] (.op 2 [] (.op 3 [] .nil))))) (.seq (.reg (.op 0 [] (.op 1 [] (.op 2 [] .nil)))) .leaf))))))))
/-- lighter/lighterref23.Tick -/
def lighterref23_Tick.res (t0 : Value) (H0 : Heap) (R : Value → Heap → Prop) : Prop :=
 pBox H0 29 t0 fun t1 H_1 =>
 pBox H_1 29 (.agg #[(.int .i64 0), (.int .i64 0), (.int .i64 0), (.int .i64 0)]) fun x2 H_2 =>
 pFieldAddr 3 t1 fun x4 =>
 pLoad H_2 x4 fun x5 =>
 pEq 0 x5 (.int .i64 0) fun x6 =>
 pCond x6
 (pLoadN H_2 4 t1 fun x7 =>
 pStoreN H_2 4 x2 x7 fun _ H_3 =>
 pLoadN H_3 4 x2 fun r_4 =>
 R (.tuple #[r_4, (.bool false)]) H_3)
 (pFieldAddr 3 t1 fun x8 =>
 pLoad H_2 x8 fun x9 =>
 pSub x9 (.int .i64 1) fun x10 =>
 pFieldAddr 3 t1 fun x11 =>
 pStore H_2 x11 x10 fun _ H_5 =>
 pFieldAddr 3 t1 fun x12 =>
 pLoad H_5 x12 fun x13 =>
 pGt x13 (.int .i64 0) fun x14 =>
 pCond x14
 (pLoadN H_5 4 t1 fun x15 =>
 pStoreN H_5 4 x2 x15 fun _ H_6 =>
 pLoadN H_6 4 x2 fun r_7 =>
 R (.tuple #[r_7, (.bool false)]) H_6)
 (pFieldAddr 2 t1 fun x16 =>
 pLoad H_5 x16 fun x17 =>
 pMul x17 (.int .i64 2) fun x18 =>
 pFieldAddr 2 t1 fun x19 =>
 pStore H_5 x19 x18 fun _ H_8 =>
 ∃ J_9 : Heap → Prop, (∀ _ : Env, ∀ H_10 : Heap, J_9 H_10 →
 pFieldAddr 2 t1 fun x28 =>
 pLoad H_10 x28 fun x29 =>
 pFieldAddr 3 t1 fun x30 =>
 pStore H_10 x30 x29 fun _ H_11 =>
 pLoadN H_11 4 t1 fun x31 =>
 pStoreN H_11 4 x2 x31 fun _ H_12 =>
 pLoadN H_12 4 x2 fun r_13 =>
 R (.tuple #[r_13, (.bool true)]) H_12) ∧
 pFieldAddr 2 t1 fun x20 =>
 pLoad H_8 x20 fun x21 =>
 pFieldAddr 1 t1 fun x22 =>
 pLoad H_8 x22 fun x23 =>
 pGt x21 x23 fun x24 =>
 pCond x24
 (pFieldAddr 1 t1 fun x25 =>
 pLoad H_8 x25 fun x26 =>
 pFieldAddr 2 t1 fun x27 =>
 pStore H_8 x27 x26 fun _ H_14 =>
 J_9 H_14)
 (J_9 H_8)))
set_option maxRecDepth 100000 in
theorem lighterref23_Tick.vc (t0 : Value) (H0 : Heap) (R : Value → Heap → Prop) (h : lighterref23_Tick.res t0 H0 R) : CallsH Try.prog 15 #[t0] H0 R := by
  have e : vcFn Try.prog Try.C Try.f15 lighterref23_Tick.an [t0] H0 R = lighterref23_Tick.res t0 H0 R := by kernel_rfl
  exact vcFn_sound Try.callable Try.mixed Try.func15 (by kernel_rfl) (e.mpr h)

end Go.Proofs.Ytbacjejffmeckaa
