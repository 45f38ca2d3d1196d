/- The residuals of package window's functions, printed by resid.py. -/
import Derived.Test.YtecmldekdgjpnaaVcSeat
namespace Go.Proofs.Ytecmldekdgjpnaa
open Go Go.Vc Go.Proofs
set_option linter.unusedVariables false
set_option maxHeartbeats 4000000
def window_Window_Add.an : Ann := (.seq (.reg (.op 0 [] (.op 1 [] (.op 2 [] .nil)))) (.block (.loop [7] [4, 7, 8, 9, 10, 11, 12, 13, 14, 15] (.seq (.reg (.op 0 [] .nil)) (.seq (.cond .leaf .leaf) (.seq (.block (.seq (.reg (.op 0 [] (.op 1 [] .nil))) (.reg (.op 0 [] (.op 1 [] (.op 2 [] (.op 3 [] (.op 4 [] .nil)))))))) (.reg (.op 0 [] (.op 1 [] .nil)))))))))
/-- (*lighter/window.Window).Add -/
def window_Window_Add.res (w0 : Value) (s1 : Value) (H0 : Heap) (R : Value → Heap → Prop) : Prop :=
 pLenS s1 fun x6 =>
 ∃ (I_1 : Value → Heap → Prop) (m_2 : Value → Heap → Nat), I_1 (.int .i64 0) H0 ∧
 ∀ _ : Env, ∀ x7 : Value, ∀ H_3 : Heap, I_1 x7 H_3 →
 pLt x7 x6 fun x8 =>
 pCond x8
 (pIdxStr s1 x7 fun x13 =>
 CallsH Try.prog 13 #[w0, x13] H_3 fun x14 H_4 =>
 pAdd x7 (.int .i64 1) fun x15 =>
 I_1 x15 H_4 ∧ m_2 x15 H_4 < m_2 x7 H_3)
 (R (.tuple #[]) H_3)
set_option maxRecDepth 100000 in
theorem window_Window_Add.vc (w0 : Value) (s1 : Value) (H0 : Heap) (R : Value → Heap → Prop) (h : window_Window_Add.res w0 s1 H0 R) : CallsH Try.prog 10 #[w0, s1] H0 R := by
  have e : vcFn Try.prog Try.C Try.f10 window_Window_Add.an [w0, s1] H0 R = window_Window_Add.res w0 s1 H0 R := by kernel_rfl
  exact vcFn_sound Try.callable Try.mixed Try.func10 (by kernel_rfl) (e.mpr h)

def window_Window_Copy.an : Ann := (.seq (.reg (.op 0 [] (.op 1 [] .nil))) (.seq (.seq (.reg (.op 0 [] (.op 1 [] (.op 2 [] (.grp 2 (.op 3 [] (.op 4 [] .nil)) 5 (.op 6 [] (.grp 6 (.op 7 [] (.op 8 [] .nil)) 9 (.op 10 [] (.grp 10 (.op 11 [] (.op 12 [] (.op 13 [] (.op 14 [] .nil)))) 15 .nil))))))))) (.cond (.seq (.reg (.op 0 [] (.op 1 [] .nil))) .leaf) .leaf)) (.seq (.reg (.op 0 [] (.op 1 [] (.op 2 [] .nil)))) (.seq (.seq (.reg (.op 0 [] (.op 1 [] (.op 2 [] .nil)))) (.block (.loop [30] [9, 30, 31, 32, 33, 34, 35, 36, 37, 38, 39, 40, 41, 42, 43, 44, 45, 46, 47, 48] (.seq (.reg (.op 0 [] .nil)) (.seq (.cond .leaf .leaf) (.seq (.block (.seq (.reg (.op 0 [] (.op 1 [] .nil))) (.seq (.reg (.op 0 [] (.op 1 [] (.op 2 [] (.op 3 [] (.op 4 [] (.op 5 [] (.op 6 [] (.op 7 [] (.op 8 [] (.op 9 [] .nil))))))))))) (.reg (.op 0 [] (.op 1 [] (.op 2 [] (.op 3 [] (.op 4 [] (.op 5 [] .nil)))))))))) (.reg (.op 0 [] (.op 1 [] .nil))))))))) (.seq (.reg (.op 0 [] (.op 1 [] (.op 2 [] (.op 3 [] .nil))))) .leaf)))))
/-- (*lighter/window.Window).Copy -/
def window_Window_Copy.res (w0 : Value) (n1 : Value) (dist2 : Value) (H0 : Heap) (R : Value → Heap → Prop) : Prop :=
 pLt n1 (.int .i64 0) fun x11 =>
 pOr x11 (fun J_1 =>
 pGt n1 (.int .i64 258) fun x14 =>
 J_1 x14 H0) H0 fun x15 H_2 => ∀ _ : Env,
 pOr x15 (fun J_3 =>
 pLt dist2 (.int .i64 1) fun x18 =>
 J_3 x18 H_2) H_2 fun x19 H_4 => ∀ _ : Env,
 pOr x19 (fun J_5 =>
 CallsH Try.prog 17 #[w0] H_4 fun x23 H_7 =>
 pGt dist2 x23 fun x24 =>
 J_5 x24 H_7) H_4 fun x25 H_6 => ∀ _ : Env,
 pCond x25
 (R (.tuple #[(str []), (.bool false)]) H_6)
 (pMakeSl H_6 5 1 [(.int .u8 0)] n1 n1 fun x27 H_8 =>
 pLen x27 fun x29 =>
 ∃ (I_9 : Value → Heap → Prop) (m_10 : Value → Heap → Nat), I_9 (.int .i64 0) H_8 ∧
 ∀ _ : Env, ∀ x30 : Value, ∀ H_11 : Heap, I_9 x30 H_11 →
 pLt x30 x29 fun x31 =>
 pCond x31
 (CallsH Try.prog 15 #[w0, dist2] H_11 fun x38 H_12 =>
 pExtract 0 x38 fun x39 =>
 pExtract 1 x38 fun x40 =>
 pIdxSl 1 x27 x30 fun x41 =>
 pStore H_12 x41 x39 fun _ H_13 =>
 pIdxSl 1 x27 x30 fun x45 =>
 pLoad H_13 x45 fun x46 =>
 CallsH Try.prog 13 #[w0, x46] H_13 fun x47 H_14 =>
 pAdd x30 (.int .i64 1) fun x48 =>
 I_9 x48 H_14 ∧ m_10 x48 H_14 < m_10 x30 H_11)
 (pStrOf H_11 x27 fun x50 =>
 R (.tuple #[x50, (.bool true)]) H_11))
set_option maxRecDepth 100000 in
theorem window_Window_Copy.vc (w0 : Value) (n1 : Value) (dist2 : Value) (H0 : Heap) (R : Value → Heap → Prop) (h : window_Window_Copy.res w0 n1 dist2 H0 R) : CallsH Try.prog 11 #[w0, n1, dist2] H0 R := by
  have e : vcFn Try.prog Try.C Try.f11 window_Window_Copy.an [w0, n1, dist2] H0 R = window_Window_Copy.res w0 n1 dist2 H0 R := by kernel_rfl
  exact vcFn_sound Try.callable Try.mixed Try.func11 (by kernel_rfl) (e.mpr h)

def window_Window_Text.an : Ann := (.seq (.reg (.op 0 [] .nil)) (.seq (.seq (.reg (.op 0 [] (.op 1 [] .nil))) (.cond (.seq (.reg (.op 0 [] .nil)) .leaf) .leaf)) (.seq (.reg (.op 0 [] .nil)) (.cut [3] [3, 6, 7, 8, 9, 10, 11, 12, 13, 14, 15, 16] (.seq (.reg (.op 0 [] (.op 1 [] (.op 2 [] (.op 3 [] (.op 4 [] (.op 5 [] .nil))))))) (.cond (.reg (.op 0 [] (.op 1 [] (.op 2 [] (.op 3 [] (.op 4 [] (.op 5 [] .nil))))))) .leaf)) (.seq (.drw [0, 1, 3, 7, 0, 31, 63, 0, 128, 384, 896, 0, 3968, 8064, 16383, 32767] (.op 0 [] (.op 1 [] (.op 2 [] (.op 3 [] (.op 4 [] (.op 5 [] (.op 6 [] (.op 7 [] (.op 8 [] (.op 9 [] (.op 10 [] (.op 11 [] (.op 12 [] (.op 13 [] (.op 14 [] (.op 15 [] .nil))))))))))))))))) .leaf)))))
/-- (*lighter/window.Window).Text -/
def window_Window_Text.res (w0 : Value) (H0 : Heap) (R : Value → Heap → Prop) : Prop :=
 pEq 3 w0 (.pointer none) fun x5 =>
 pCond x5
 (R (str []) H0)
 (∃ J_1 : Value → Heap → Prop, (∀ _ : Env, ∀ at3 : Value, ∀ H_2 : Heap, J_1 at3 H_2 →
 pNil w0 fun x18 =>
 pFieldAddr 0 x18 fun x19 =>
 pLoad H_2 x19 fun x20 =>
 pSlSl 1 x20 (some at3) none fun x22 =>
 pStrOf H_2 x22 fun x23 =>
 pNil w0 fun x25 =>
 pFieldAddr 0 x25 fun x26 =>
 pLoad H_2 x26 fun x27 =>
 pSlSl 1 x27 none (some at3) fun x29 =>
 pStrOf H_2 x29 fun x30 =>
 pAdd x23 x30 fun x31 =>
 R x31 H_2) ∧
 pNil w0 fun x7 =>
 pFieldAddr 0 x7 fun x8 =>
 pLoad H0 x8 fun x9 =>
 pLen x9 fun x10 =>
 pEq 0 x10 (.int .i64 32768) fun x11 =>
 pCond x11
 (pNil w0 fun x13 =>
 pFieldAddr 1 x13 fun x14 =>
 pLoad H0 x14 fun x15 =>
 pRem x15 (.int .i64 32768) fun x16 =>
 J_1 x16 H0)
 (J_1 (.int .i64 0) H0))
set_option maxRecDepth 100000 in
theorem window_Window_Text.vc (w0 : Value) (H0 : Heap) (R : Value → Heap → Prop) (h : window_Window_Text.res w0 H0 R) : CallsH Try.prog 12 #[w0] H0 R := by
  have e : vcFn Try.prog Try.C Try.f12 window_Window_Text.an [w0] H0 R = window_Window_Text.res w0 H0 R := by kernel_rfl
  exact vcFn_sound Try.callable Try.mixed Try.func12 (by kernel_rfl) (e.mpr h)

def window_Window_Put.an : Ann := (.seq (.seq (.reg (.op 0 [] (.op 1 [] .nil))) (.cond .leaf .leaf)) (.cut [] [6, 7, 8, 9, 10, 11, 12, 13, 14, 15, 16, 17, 18, 19, 20, 21, 22, 23, 24, 25, 26, 27, 28, 29, 30, 31, 32] (.seq (.reg (.op 0 [] (.op 1 [] (.op 2 [] (.op 3 [] (.op 4 [] (.op 5 [] .nil))))))) (.cond (.reg (.op 0 [] (.op 1 [] (.op 2 [] (.op 3 [] (.op 4 [] (.op 5 [] (.op 6 [] (.op 7 [] (.op 8 [] (.op 9 [] (.op 10 [] .nil)))))))))))) (.drw [0, 1, 3, 7, 0, 16, 48, 112, 240, 0, 1023, 2047] (.op 0 [] (.op 1 [] (.op 2 [] (.op 3 [] (.op 4 [] (.op 5 [] (.op 6 [] (.op 7 [] (.op 8 [] (.op 9 [] (.op 10 [] (.op 11 [] .nil))))))))))))))) (.reg (.op 0 [] (.op 1 [] (.op 2 [] (.op 3 [] (.op 4 [] (.op 5 [] (.op 6 [] (.op 7 [] .nil)))))))))))
/-- (*lighter/window.Window).Put -/
def window_Window_Put.res (w0 : Value) (b1 : Value) (H0 : Heap) (R : Value → Heap → Prop) : Prop :=
 pEq 3 w0 (.pointer none) fun x5 =>
 pCond x5
 (R (.tuple #[]) H0)
 (∃ J_1 : Heap → Prop, (∀ _ : Env, ∀ H_2 : Heap, J_1 H_2 →
 pNil w0 fun x34 =>
 pFieldAddr 1 x34 fun x35 =>
 pLoad H_2 x35 fun x36 =>
 pAdd x36 (.int .i64 1) fun x37 =>
 pNil w0 fun x38 =>
 pFieldAddr 1 x38 fun x39 =>
 pStore H_2 x39 x37 fun _ H_3 =>
 R (.tuple #[]) H_3) ∧
 pNil w0 fun x7 =>
 pFieldAddr 0 x7 fun x8 =>
 pLoad H0 x8 fun x9 =>
 pLen x9 fun x10 =>
 pLt x10 (.int .i64 32768) fun x11 =>
 pCond x11
 (pNil w0 fun x14 =>
 pFieldAddr 0 x14 fun x15 =>
 pLoad H0 x15 fun x16 =>
 pBuildSl H0 5 1 [(.int .u8 0)] [(0, 1, b1)] fun x18 H_4 =>
 pAppend H_4 5 1 1 [(.int .u8 0)] x16 x18 fun x19 H_5 =>
 pNil w0 fun x20 =>
 pFieldAddr 0 x20 fun x21 =>
 pStore H_5 x21 x19 fun _ H_6 =>
 J_1 H_6)
 (pNil w0 fun x23 =>
 pFieldAddr 0 x23 fun x24 =>
 pLoad H0 x24 fun x25 =>
 pNil w0 fun x27 =>
 pFieldAddr 1 x27 fun x28 =>
 pLoad H0 x28 fun x29 =>
 pRem x29 (.int .i64 32768) fun x30 =>
 pIdxSl 1 x25 x30 fun x32 =>
 pStore H0 x32 b1 fun _ H_7 =>
 J_1 H_7))
set_option maxRecDepth 100000 in
theorem window_Window_Put.vc (w0 : Value) (b1 : Value) (H0 : Heap) (R : Value → Heap → Prop) (h : window_Window_Put.res w0 b1 H0 R) : CallsH Try.prog 13 #[w0, b1] H0 R := by
  have e : vcFn Try.prog Try.C Try.f13 window_Window_Put.an [w0, b1] H0 R = window_Window_Put.res w0 b1 H0 R := by kernel_rfl
  exact vcFn_sound Try.callable Try.mixed Try.func13 (by kernel_rfl) (e.mpr h)

def window_Window_Back.an : Ann := (.seq (.reg (.op 0 [] (.op 1 [] .nil))) (.seq (.seq (.reg (.op 0 [] (.op 1 [] (.op 2 [] (.grp 2 (.op 3 [] (.op 4 [] (.op 5 [] (.op 6 [] .nil)))) 7 .nil))))) (.cond (.seq (.reg (.op 0 [] (.op 1 [] .nil))) .leaf) .leaf)) (.seq (.drw [0, 1, 3, 7, 0, 16, 48, 112, 0, 496, 1008, 2047, 4095, 8191, 16383] (.op 0 [] (.op 1 [] (.op 2 [] (.op 3 [] (.op 4 [] (.op 5 [] (.op 6 [] (.op 7 [] (.op 8 [] (.op 9 [] (.op 10 [] (.op 11 [] (.op 12 [] (.op 13 [] (.op 14 [] .nil)))))))))))))))) .leaf)))
/-- (*lighter/window.Window).Back -/
def window_Window_Back.res (w0 : Value) (dist1 : Value) (H0 : Heap) (R : Value → Heap → Prop) : Prop :=
 pLt dist1 (.int .i64 1) fun x7 =>
 pOr x7 (fun J_1 =>
 CallsH Try.prog 17 #[w0] H0 fun x11 H_3 =>
 pGt dist1 x11 fun x12 =>
 J_1 x12 H_3) H0 fun x13 H_2 => ∀ _ : Env,
 pCond x13
 (R (.tuple #[(.int .u8 0), (.bool false)]) H_2)
 (pNil w0 fun x15 =>
 pFieldAddr 0 x15 fun x16 =>
 pLoad H_2 x16 fun x17 =>
 pNil w0 fun x19 =>
 pFieldAddr 1 x19 fun x20 =>
 pLoad H_2 x20 fun x21 =>
 pSub x21 dist1 fun x23 =>
 pRem x23 (.int .i64 32768) fun x24 =>
 pIdxSl 1 x17 x24 fun x25 =>
 pLoad H_2 x25 fun x26 =>
 R (.tuple #[x26, (.bool true)]) H_2)
set_option maxRecDepth 100000 in
theorem window_Window_Back.vc (w0 : Value) (dist1 : Value) (H0 : Heap) (R : Value → Heap → Prop) (h : window_Window_Back.res w0 dist1 H0 R) : CallsH Try.prog 15 #[w0, dist1] H0 R := by
  have e : vcFn Try.prog Try.C Try.f15 window_Window_Back.an [w0, dist1] H0 R = window_Window_Back.res w0 dist1 H0 R := by kernel_rfl
  exact vcFn_sound Try.callable Try.mixed Try.func15 (by kernel_rfl) (e.mpr h)

def window_Window_Len.an : Ann := (.seq (.reg (.op 0 [] .nil)) (.seq (.seq (.reg (.op 0 [] (.op 1 [] .nil))) (.cond (.seq (.reg (.op 0 [] .nil)) .leaf) .leaf)) (.seq (.reg (.op 0 [] (.op 1 [] (.op 2 [] (.op 3 [] (.op 4 [] (.op 5 [] .nil))))))) .leaf)))
/-- (*lighter/window.Window).Len -/
def window_Window_Len.res (w0 : Value) (H0 : Heap) (R : Value → Heap → Prop) : Prop :=
 pEq 3 w0 (.pointer none) fun x4 =>
 pCond x4
 (R (.int .i64 0) H0)
 (pNil w0 fun x6 =>
 pFieldAddr 0 x6 fun x7 =>
 pLoad H0 x7 fun x8 =>
 pLen x8 fun x9 =>
 R x9 H0)
set_option maxRecDepth 100000 in
theorem window_Window_Len.vc (w0 : Value) (H0 : Heap) (R : Value → Heap → Prop) (h : window_Window_Len.res w0 H0 R) : CallsH Try.prog 17 #[w0] H0 R := by
  have e : vcFn Try.prog Try.C Try.f17 window_Window_Len.an [w0] H0 R = window_Window_Len.res w0 H0 R := by kernel_rfl
  exact vcFn_sound Try.callable Try.mixed Try.func17 (by kernel_rfl) (e.mpr h)

def window_Window_Total.an : Ann := (.seq (.reg (.op 0 [] .nil)) (.seq (.seq (.reg (.op 0 [] (.op 1 [] .nil))) (.cond (.seq (.reg (.op 0 [] .nil)) .leaf) .leaf)) (.seq (.reg (.op 0 [] (.op 1 [] (.op 2 [] (.op 3 [] (.op 4 [] .nil)))))) .leaf)))
/-- (*lighter/window.Window).Total -/
def window_Window_Total.res (w0 : Value) (H0 : Heap) (R : Value → Heap → Prop) : Prop :=
 pEq 3 w0 (.pointer none) fun x4 =>
 pCond x4
 (R (.int .i64 0) H0)
 (pNil w0 fun x6 =>
 pFieldAddr 1 x6 fun x7 =>
 pLoad H0 x7 fun x8 =>
 R x8 H0)
set_option maxRecDepth 100000 in
theorem window_Window_Total.vc (w0 : Value) (H0 : Heap) (R : Value → Heap → Prop) (h : window_Window_Total.res w0 H0 R) : CallsH Try.prog 18 #[w0] H0 R := by
  have e : vcFn Try.prog Try.C Try.f18 window_Window_Total.an [w0] H0 R = window_Window_Total.res w0 H0 R := by kernel_rfl
  exact vcFn_sound Try.callable Try.mixed Try.func18 (by kernel_rfl) (e.mpr h)

def window_Window_Match.an : Ann := (.seq (.reg (.op 0 [] .nil)) (.seq (.seq (.reg (.op 0 [] (.op 1 [] (.op 2 [] (.grp 2 (.op 3 [] (.op 4 [] (.op 5 [] (.op 6 [] .nil)))) 7 .nil))))) (.cond (.seq (.reg (.op 0 [] .nil)) .leaf) .leaf)) (.seq (.reg (.op 0 [] .nil)) (.seq (.block (.loop [7] [7, 8, 17, 18, 19, 20, 21, 22, 23, 24, 25, 26, 27, 28, 29, 30, 31, 32, 33, 34, 35, 36, 37, 38, 39, 40, 41, 42, 43, 44] (.seq (.seq (.reg (.op 0 [] (.op 1 [] (.op 2 [] (.op 3 [] (.op 4 [] .nil)))))) (.cond .leaf .leaf)) (.block (.seq (.reg (.op 0 [] .nil)) (.cut [8] [8, 22, 23, 24, 25, 26, 27, 28, 29, 30, 31, 32, 33, 34, 35, 36, 37] (.seq (.reg (.op 0 [] (.op 1 [] (.op 2 [] .nil)))) (.cond (.reg (.op 0 [] (.op 1 [] (.op 2 [] (.op 3 [] (.op 4 [] (.op 5 [] (.op 6 [] (.op 7 [] (.op 8 [] .nil)))))))))) (.reg (.op 0 [] (.op 1 [] (.op 2 [] (.op 3 [] (.op 4 [] (.op 5 [] .nil))))))))) (.seq (.seq (.reg (.op 0 [] (.op 1 [] (.op 2 [] (.op 3 [] (.op 4 [] .nil)))))) (.cond .leaf .leaf)) (.reg (.op 0 [] (.op 1 [] (.op 2 [] .nil))))))))))) (.seq (.reg (.op 0 [] (.op 1 [] .nil))) .leaf)))))
/-- (*lighter/window.Window).Match -/
def window_Window_Match.res (w0 : Value) (dist1 : Value) (s2 : Value) (H0 : Heap) (R : Value → Heap → Prop) : Prop :=
 pLt dist1 (.int .i64 1) fun x10 =>
 pOr x10 (fun J_1 =>
 CallsH Try.prog 17 #[w0] H0 fun x14 H_3 =>
 pGt dist1 x14 fun x15 =>
 J_1 x15 H_3) H0 fun x16 H_2 => ∀ _ : Env,
 pCond x16
 (R (.int .i64 0) H_2)
 (∃ (I_4 : Value → Heap → Prop) (m_5 : Value → Heap → Nat), I_4 (.int .i64 0) H_2 ∧
 ∀ _ : Env, ∀ n7 : Value, ∀ H_6 : Heap, I_4 n7 H_6 →
 pLenS s2 fun x19 =>
 pMin x19 (.int .i64 258) fun x20 =>
 pLt n7 x20 fun x21 =>
 pCond x21
 (∃ J_7 : Value → Heap → Prop, (∀ _ : Env, ∀ b8 : Value, ∀ H_8 : Heap, J_7 b8 H_8 →
 pIdxStr s2 n7 fun x41 =>
 pNe 0 b8 x41 fun x42 =>
 pCond x42
 (R n7 H_8)
 (pAdd n7 (.int .i64 1) fun x44 =>
 I_4 x44 H_8 ∧ m_5 x44 H_8 < m_5 n7 H_6)) ∧
 pLt n7 dist1 fun x24 =>
 pCond x24
 (pSub dist1 n7 fun x29 =>
 CallsH Try.prog 15 #[w0, x29] H_6 fun x30 H_9 =>
 pExtract 0 x30 fun x31 =>
 pExtract 1 x30 fun x32 =>
 J_7 x31 H_9)
 (pSub n7 dist1 fun x36 =>
 pIdxStr s2 x36 fun x37 =>
 J_7 x37 H_6))
 (R n7 H_6))
set_option maxRecDepth 100000 in
theorem window_Window_Match.vc (w0 : Value) (dist1 : Value) (s2 : Value) (H0 : Heap) (R : Value → Heap → Prop) (h : window_Window_Match.res w0 dist1 s2 H0 R) : CallsH Try.prog 24 #[w0, dist1, s2] H0 R := by
  have e : vcFn Try.prog Try.C Try.f24 window_Window_Match.an [w0, dist1, s2] H0 R = window_Window_Match.res w0 dist1 s2 H0 R := by kernel_rfl
  exact vcFn_sound Try.callable Try.mixed Try.func24 (by kernel_rfl) (e.mpr h)

def window_Window_Copied.an : Ann := (.seq (.reg (.op 0 [] .nil)) (.seq (.seq (.reg (.op 0 [] (.op 1 [] .nil))) (.cond (.seq (.reg (.op 0 [] .nil)) .leaf) .leaf)) (.seq (.reg (.op 0 [] (.op 1 [] (.op 2 [] (.op 3 [] (.op 4 [] .nil)))))) (.seq (.reg (.op 0 [] (.op 1 [] (.op 2 [] (.op 3 [] (.op 4 [] (.op 5 [] (.op 6 [] .nil)))))))) (.seq (.reg (.op 0 [] .nil)) .leaf)))))
/-- (*lighter/window.Window).Copied -/
def window_Window_Copied.res (w0 : Value) (H0 : Heap) (R : Value → Heap → Prop) : Prop :=
 pEq 3 w0 (.pointer none) fun x5 =>
 pCond x5
 (R (.pointer none) H0)
 (pNil w0 fun x7 =>
 pLoadN H0 2 x7 fun x8 =>
 pBox H0 25 (.agg #[(.slice none 0 0), (.int .i64 0)]) fun c3 H_1 =>
 pStoreN H_1 2 c3 x8 fun _ H_2 =>
 pNil w0 fun x10 =>
 pFieldAddr 0 x10 fun x11 =>
 pLoad H_2 x11 fun x12 =>
 pAppend H_2 5 1 1 [(.int .u8 0)] (.slice none 0 0) x12 fun x13 H_3 =>
 pFieldAddr 0 c3 fun x14 =>
 pStore H_3 x14 x13 fun _ H_4 =>
 R c3 H_4)
set_option maxRecDepth 100000 in
theorem window_Window_Copied.vc (w0 : Value) (H0 : Heap) (R : Value → Heap → Prop) (h : window_Window_Copied.res w0 H0 R) : CallsH Try.prog 25 #[w0] H0 R := by
  have e : vcFn Try.prog Try.C Try.f25 window_Window_Copied.an [w0] H0 R = window_Window_Copied.res w0 H0 R := by kernel_rfl
  exact vcFn_sound Try.callable Try.mixed Try.func25 (by kernel_rfl) (e.mpr h)

end Go.Proofs.Ytecmldekdgjpnaa
