/- The residuals of package timer's functions, printed by resid.py. -/
import Derived.Test.YtbacjejffmeckaaVcSeat
namespace Go.Proofs.Ytbacjejffmeckaa
open Go Go.Vc Go.Proofs
set_option linter.unusedVariables false
set_option maxHeartbeats 4000000
def timer_New.an : Ann := (.seq (.reg (.op 0 [] .nil)) (.seq (.reg (.op 0 [] (.op 1 [] (.op 2 [] (.op 3 [] .nil))))) (.seq (.reg (.op 0 [] (.op 1 [] (.op 2 [] (.op 3 [] (.op 4 [] (.op 5 [] (.op 6 [] (.op 7 [] (.op 8 [] .nil)))))))))) .leaf)))
/-- lighter/timer.New -/
def timer_New.res (first0 : Value) (most1 : Value) (H0 : Heap) (R : Value → Heap → Prop) : Prop :=
 pMax first0 (.int .i64 1) fun x6 =>
 pMin x6 (.int .i64 64) fun x7 =>
 pMax most1 x7 fun x11 =>
 pMin x11 (.int .i64 64) fun x12 =>
 pBuild [(.int .i64 0), (.int .i64 0), (.int .i64 0), (.int .i64 0)] [(0, 1, x7), (1, 1, x12), (2, 1, x7)] fun x14 =>
 pBox H0 36 x14 fun x15 H_1 =>
 R x15 H_1
set_option maxRecDepth 100000 in
theorem timer_New.vc (first0 : Value) (most1 : Value) (H0 : Heap) (R : Value → Heap → Prop) (h : timer_New.res first0 most1 H0 R) : CallsH Try.prog 7 #[first0, most1] H0 R := by
  have e : vcFn Try.prog Try.C Try.f7 timer_New.an [first0, most1] H0 R = timer_New.res first0 most1 H0 R := by kernel_rfl
  exact vcFn_sound Try.callable Try.mixed Try.func7 (by kernel_rfl) (e.mpr h)

def timer_Timer_Start.an : Ann := (.seq (.reg (.op 0 [] (.op 1 [] .nil))) (.cond (.reg (.op 0 [] (.op 1 [] (.op 2 [] (.op 3 [] (.op 4 [] (.op 5 [] (.op 6 [] (.op 7 [] .nil))))))))) .leaf))
/-- (*lighter/timer.Timer).Start -/
def timer_Timer_Start.res (t0 : Value) (H0 : Heap) (R : Value → Heap → Prop) : Prop :=
 pNe 3 t0 (.pointer none) fun x3 =>
 pCond x3
 (pNil t0 fun x6 =>
 pFieldAddr 2 x6 fun x7 =>
 pLoad H0 x7 fun x8 =>
 pNil t0 fun x9 =>
 pFieldAddr 3 x9 fun x10 =>
 pStore H0 x10 x8 fun _ H_1 =>
 R (.tuple #[]) H_1)
 (R (.tuple #[]) H0)
set_option maxRecDepth 100000 in
theorem timer_Timer_Start.vc (t0 : Value) (H0 : Heap) (R : Value → Heap → Prop) (h : timer_Timer_Start.res t0 H0 R) : CallsH Try.prog 8 #[t0] H0 R := by
  have e : vcFn Try.prog Try.C Try.f8 timer_Timer_Start.an [t0] H0 R = timer_Timer_Start.res t0 H0 R := by kernel_rfl
  exact vcFn_sound Try.callable Try.mixed Try.func8 (by kernel_rfl) (e.mpr h)

def timer_Timer_Tick.an : Ann := (.seq (.reg (.op 0 [] .nil)) (.seq (.seq (.reg (.op 0 [] (.op 1 [] (.op 2 [] .nil)))) (.cond (.seq (.reg (.op 0 [] .nil)) .leaf) .leaf)) (.seq (.seq (.reg (.op 0 [] (.op 1 [] (.op 2 [] (.op 3 [] (.op 4 [] (.op 5 [] (.op 6 [] (.op 7 [] .nil))))))))) (.seq (.reg (.op 0 [] (.op 1 [] (.op 2 [] (.op 3 [] (.op 4 [] .nil)))))) (.cond (.seq (.reg (.op 0 [] .nil)) .leaf) .leaf))) (.seq (.drw [0, 0, 2, 6, 14, 30, 0, 64, 192, 448, 1022, 2047, 4095, 8191] (.op 0 [] (.op 1 [] (.op 2 [] (.op 3 [] (.op 4 [] (.op 5 [] (.op 6 [] (.op 7 [] (.op 8 [] (.op 9 [] (.op 10 [] (.op 11 [] (.op 12 [] (.op 13 [] .nil))))))))))))))) (.seq (.reg (.op 0 [] (.op 1 [] (.op 2 [] (.op 3 [] (.op 4 [] (.op 5 [] (.op 6 [] (.op 7 [] .nil))))))))) (.seq (.reg (.op 0 [] .nil)) .leaf))))))
/-- (*lighter/timer.Timer).Tick -/
def timer_Timer_Tick.res (t0 : Value) (H0 : Heap) (R : Value → Heap → Prop) : Prop :=
 CallsH Try.prog 11 #[t0] H0 fun x4 H_1 =>
 pNot x4 fun x5 =>
 pCond x5
 (R (.bool false) H_1)
 (pNil t0 fun x7 =>
 pFieldAddr 3 x7 fun x8 =>
 pLoad H_1 x8 fun x9 =>
 pSub x9 (.int .i64 1) fun x10 =>
 pNil t0 fun x11 =>
 pFieldAddr 3 x11 fun x12 =>
 pStore H_1 x12 x10 fun _ H_2 =>
 pNil t0 fun x14 =>
 pFieldAddr 3 x14 fun x15 =>
 pLoad H_2 x15 fun x16 =>
 pGt x16 (.int .i64 0) fun x17 =>
 pCond x17
 (R (.bool false) H_2)
 (pNil t0 fun x20 =>
 pFieldAddr 2 x20 fun x21 =>
 pLoad H_2 x21 fun x22 =>
 pMul (.int .i64 2) x22 fun x23 =>
 pNil t0 fun x25 =>
 pFieldAddr 1 x25 fun x26 =>
 pLoad H_2 x26 fun x27 =>
 pMin x23 x27 fun x28 =>
 pNil t0 fun x29 =>
 pFieldAddr 2 x29 fun x30 =>
 pStore H_2 x30 x28 fun _ H_3 =>
 pNil t0 fun x33 =>
 pFieldAddr 2 x33 fun x34 =>
 pLoad H_3 x34 fun x35 =>
 pNil t0 fun x36 =>
 pFieldAddr 3 x36 fun x37 =>
 pStore H_3 x37 x35 fun _ H_4 =>
 R (.bool true) H_4))
set_option maxRecDepth 100000 in
theorem timer_Timer_Tick.vc (t0 : Value) (H0 : Heap) (R : Value → Heap → Prop) (h : timer_Timer_Tick.res t0 H0 R) : CallsH Try.prog 9 #[t0] H0 R := by
  have e : vcFn Try.prog Try.C Try.f9 timer_Timer_Tick.an [t0] H0 R = timer_Timer_Tick.res t0 H0 R := by kernel_rfl
  exact vcFn_sound Try.callable Try.mixed Try.func9 (by kernel_rfl) (e.mpr h)

def timer_Timer_Wait.an : Ann := (.seq (.reg (.op 0 [] .nil)) (.seq (.seq (.reg (.op 0 [] (.op 1 [] .nil))) (.cond (.seq (.reg (.op 0 [] .nil)) .leaf) .leaf)) (.seq (.reg (.op 0 [] (.op 1 [] (.op 2 [] (.op 3 [] (.op 4 [] .nil)))))) .leaf)))
/-- (*lighter/timer.Timer).Wait -/
def timer_Timer_Wait.res (t0 : Value) (H0 : Heap) (R : Value → Heap → Prop) : Prop :=
 pEq 3 t0 (.pointer none) fun x4 =>
 pCond x4
 (R (.int .i64 0) H0)
 (pNil t0 fun x6 =>
 pFieldAddr 2 x6 fun x7 =>
 pLoad H0 x7 fun x8 =>
 R x8 H0)
set_option maxRecDepth 100000 in
theorem timer_Timer_Wait.vc (t0 : Value) (H0 : Heap) (R : Value → Heap → Prop) (h : timer_Timer_Wait.res t0 H0 R) : CallsH Try.prog 10 #[t0] H0 R := by
  have e : vcFn Try.prog Try.C Try.f10 timer_Timer_Wait.an [t0] H0 R = timer_Timer_Wait.res t0 H0 R := by kernel_rfl
  exact vcFn_sound Try.callable Try.mixed Try.func10 (by kernel_rfl) (e.mpr h)

def timer_Timer_On.an : Ann := (.seq (.reg (.op 0 [] .nil)) (.seq (.reg (.op 0 [] (.op 1 [] (.op 2 [] (.grp 2 (.op 3 [] (.op 4 [] (.op 5 [] (.op 6 [] (.op 7 [] .nil))))) 8 (.op 9 [] .nil)))))) .leaf))
/-- (*lighter/timer.Timer).On -/
def timer_Timer_On.res (t0 : Value) (H0 : Heap) (R : Value → Heap → Prop) : Prop :=
 pNe 3 t0 (.pointer none) fun x4 =>
 pAnd x4 (fun J_1 =>
 pNil t0 fun x7 =>
 pFieldAddr 3 x7 fun x8 =>
 pLoad H0 x8 fun x9 =>
 pGt x9 (.int .i64 0) fun x10 =>
 J_1 x10 H0) H0 fun x11 H_2 => ∀ _ : Env,
 R x11 H_2
set_option maxRecDepth 100000 in
theorem timer_Timer_On.vc (t0 : Value) (H0 : Heap) (R : Value → Heap → Prop) (h : timer_Timer_On.res t0 H0 R) : CallsH Try.prog 11 #[t0] H0 R := by
  have e : vcFn Try.prog Try.C Try.f11 timer_Timer_On.an [t0] H0 R = timer_Timer_On.res t0 H0 R := by kernel_rfl
  exact vcFn_sound Try.callable Try.mixed Try.func11 (by kernel_rfl) (e.mpr h)

def timer_Timer_Stop.an : Ann := (.seq (.reg (.op 0 [] (.op 1 [] .nil))) (.cond (.reg (.op 0 [] (.op 1 [] (.op 2 [] (.op 3 [] .nil))))) .leaf))
/-- (*lighter/timer.Timer).Stop -/
def timer_Timer_Stop.res (t0 : Value) (H0 : Heap) (R : Value → Heap → Prop) : Prop :=
 pNe 3 t0 (.pointer none) fun x3 =>
 pCond x3
 (pNil t0 fun x5 =>
 pFieldAddr 3 x5 fun x6 =>
 pStore H0 x6 (.int .i64 0) fun _ H_1 =>
 R (.tuple #[]) H_1)
 (R (.tuple #[]) H0)
set_option maxRecDepth 100000 in
theorem timer_Timer_Stop.vc (t0 : Value) (H0 : Heap) (R : Value → Heap → Prop) (h : timer_Timer_Stop.res t0 H0 R) : CallsH Try.prog 13 #[t0] H0 R := by
  have e : vcFn Try.prog Try.C Try.f13 timer_Timer_Stop.an [t0] H0 R = timer_Timer_Stop.res t0 H0 R := by kernel_rfl
  exact vcFn_sound Try.callable Try.mixed Try.func13 (by kernel_rfl) (e.mpr h)

def timer_Timer_Reset.an : Ann := (.seq (.reg (.op 0 [] (.op 1 [] .nil))) (.cond (.reg (.op 0 [] (.op 1 [] (.op 2 [] (.op 3 [] (.op 4 [] (.op 5 [] (.op 6 [] (.op 7 [] .nil))))))))) .leaf))
/-- (*lighter/timer.Timer).Reset -/
def timer_Timer_Reset.res (t0 : Value) (H0 : Heap) (R : Value → Heap → Prop) : Prop :=
 pNe 3 t0 (.pointer none) fun x3 =>
 pCond x3
 (pNil t0 fun x6 =>
 pFieldAddr 0 x6 fun x7 =>
 pLoad H0 x7 fun x8 =>
 pNil t0 fun x9 =>
 pFieldAddr 2 x9 fun x10 =>
 pStore H0 x10 x8 fun _ H_1 =>
 R (.tuple #[]) H_1)
 (R (.tuple #[]) H0)
set_option maxRecDepth 100000 in
theorem timer_Timer_Reset.vc (t0 : Value) (H0 : Heap) (R : Value → Heap → Prop) (h : timer_Timer_Reset.res t0 H0 R) : CallsH Try.prog 14 #[t0] H0 R := by
  have e : vcFn Try.prog Try.C Try.f14 timer_Timer_Reset.an [t0] H0 R = timer_Timer_Reset.res t0 H0 R := by kernel_rfl
  exact vcFn_sound Try.callable Try.mixed Try.func14 (by kernel_rfl) (e.mpr h)

end Go.Proofs.Ytbacjejffmeckaa
