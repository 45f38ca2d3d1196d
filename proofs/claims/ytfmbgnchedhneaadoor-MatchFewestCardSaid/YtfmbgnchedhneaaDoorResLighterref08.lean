/- The residuals of package lighterref08's functions, printed by resid.py. -/
import Derived.Test.YtfmbgnchedhneaaDoorVcSeat
namespace Go.Proofs.YtfmbgnchedhneaaDoor
open Go Go.Vc Go.Proofs
set_option linter.unusedVariables false
set_option maxHeartbeats 4000000
def lighterref08_Longest.an : Ann := (.seq (.reg (.op 0 [] (.op 1 [] .nil))) (.seq (.reg (.op 0 [] (.op 1 [] (.op 2 [] (.op 3 [] .nil))))) (.seq (.reg (.op 0 [] (.op 1 [] .nil))) (.seq (.seq (.reg (.op 0 [] .nil)) (.block (.loop [7, 8, 9] [7, 8, 9, 10, 14, 15, 16, 17, 18, 19, 20, 21, 22, 23, 24, 25, 26, 27, 28, 29, 30, 31, 32, 33, 34, 35, 36, 37, 38, 39, 40, 41, 42, 43, 44, 45, 46, 47, 48, 49, 50, 51, 52] (.seq (.seq (.reg (.op 0 [] (.op 1 [] (.op 2 [] (.op 3 [] (.op 4 [] (.grp 4 (.op 5 [] (.op 6 [] .nil)) 7 .nil))))))) (.cond .leaf .leaf)) (.cut [7, 8] [7, 8, 10, 24, 25, 26, 27, 28, 29, 30, 31, 32, 33, 34, 35, 36, 37, 38, 39, 40, 41, 42, 43, 44, 45, 46, 47, 48, 49, 50, 51, 52] (.block (.seq (.reg (.op 0 [] .nil)) (.seq (.block (.loop [10] [10, 24, 25, 26, 27, 28, 29, 30, 31, 32, 33, 34, 35, 36, 37, 38, 39, 40, 41, 42, 43, 44, 45, 46, 47] (.seq (.seq (.drw [0, 0, 2, 7, 15, 31, 63, 127, 255, 511, 511, 1535, 511, 7679, 511, 32255, 65535, 511, 511, 393727, 1048575, 2097151] (.op 0 [] (.op 1 [] (.op 2 [] (.op 3 [] (.op 4 [] (.grp 4 (.op 5 [] (.op 6 [] .nil)) 7 (.op 8 [] (.grp 8 (.op 9 [] (.op 10 [] (.op 11 [] (.op 12 [] (.op 13 [] (.op 14 [] (.op 15 [] (.op 16 [] (.op 17 [] (.op 18 [] (.op 19 [] (.op 20 [] .nil)))))))))))) 21 .nil))))))))) (.cond .leaf .leaf)) (.block (.reg (.op 0 [] (.op 1 [] (.op 2 [] .nil)))))))) (.seq (.reg (.op 0 [] (.op 1 [] (.op 2 [] .nil)))) (.cond (.reg (.op 0 [] (.op 1 [] (.op 2 [] (.op 3 [] .nil))))) .leaf))))) (.reg (.op 0 [] (.op 1 [] (.op 2 [] .nil))))))))) (.seq (.seq (.reg (.op 0 [] (.op 1 [] .nil))) (.cond (.seq (.reg (.op 0 [] (.op 1 [] .nil))) .leaf) .leaf)) (.seq (.reg (.op 0 [] (.op 1 [] (.op 2 [] (.op 3 [] .nil))))) .leaf))))))
/-- lighter/lighterref08.Longest -/
def lighterref08_Longest.res (ahead0 : Value) (s1 : Value) (H0 : Heap) (R : Value → Heap → Prop) : Prop :=
 pAdd ahead0 s1 fun x13 =>
 ∃ (I_1 : Value → Value → Value → Heap → Prop) (m_2 : Value → Value → Value → Heap → Nat), I_1 (.int .i64 0) (.int .i64 0) (.int .i64 1) H0 ∧
 ∀ _ : Env, ∀ best7 : Value, ∀ dist8 : Value, ∀ d9 : Value, ∀ H_3 : Heap, I_1 best7 dist8 d9 H_3 →
 pLenS ahead0 fun x16 =>
 pLe d9 x16 fun x17 =>
 pAnd x17 (fun J_4 =>
 pLe d9 (.int .i64 32768) fun x20 =>
 J_4 x20 H_3) H_3 fun x21 H_5 => ∀ _ : Env,
 pCond x21
 (∃ J_6 : Value → Value → Heap → Prop, (∀ _ : Env, ∀ best7' : Value, ∀ dist8' : Value, ∀ H_7 : Heap, J_6 best7' dist8' H_7 →
 pAdd d9 (.int .i64 1) fun x23 =>
 I_1 best7' dist8' x23 H_7 ∧ m_2 best7' dist8' x23 H_7 < m_2 best7 dist8 d9 H_3) ∧
 ∃ (I_8 : Value → Heap → Prop) (m_9 : Value → Heap → Nat), I_8 (.int .i64 0) H_5 ∧
 ∀ _ : Env, ∀ n10 : Value, ∀ H_10 : Heap, I_8 n10 H_10 →
 pLenS s1 fun x26 =>
 pLt n10 x26 fun x27 =>
 pAnd x27 (fun J_11 =>
 pLt n10 (.int .i64 258) fun x30 =>
 J_11 x30 H_10) H_10 fun x31 H_12 => ∀ _ : Env,
 pAnd x31 (fun J_13 =>
 pLenS ahead0 fun x35 =>
 pSub x35 d9 fun x37 =>
 pAdd x37 n10 fun x39 =>
 pIdxStr x13 x39 fun x40 =>
 pIdxStr s1 n10 fun x43 =>
 pEq 0 x40 x43 fun x44 =>
 J_13 x44 H_12) H_12 fun x45 H_14 => ∀ _ : Env,
 pCond x45
 (pAdd n10 (.int .i64 1) fun x47 =>
 I_8 x47 H_14 ∧ m_9 x47 H_14 < m_9 n10 H_10)
 (pGt n10 best7 fun x50 =>
 pCond x50
 (J_6 n10 d9 H_14)
 (J_6 best7 dist8 H_14)))
 (pLt best7 (.int .i64 3) fun x54 =>
 pCond x54
 (R (.tuple #[(.int .i64 0), (.int .i64 0)]) H_5)
 (R (.tuple #[best7, dist8]) H_5))
set_option maxRecDepth 100000 in
theorem lighterref08_Longest.vc (ahead0 : Value) (s1 : Value) (H0 : Heap) (R : Value → Heap → Prop) (h : lighterref08_Longest.res ahead0 s1 H0 R) : CallsH Tryd.prog 11 #[ahead0, s1] H0 R := by
  have e : vcFn Tryd.prog Tryd.C Tryd.f11 lighterref08_Longest.an [ahead0, s1] H0 R = lighterref08_Longest.res ahead0 s1 H0 R := by kernel_rfl
  exact vcFn_sound Tryd.callable Tryd.mixed Tryd.func11 (by kernel_rfl) (e.mpr h)

def lighterref08_Fewest.an : Ann := (.seq (.reg (.op 0 [] .nil)) (.seq (.reg (.op 0 [] (.op 1 [] (.op 2 [] (.op 3 [] (.op 4 [] .nil)))))) (.seq (.seq (.reg (.op 0 [] (.op 1 [] (.op 2 [] (.op 3 [] .nil))))) (.block (.loop [6] [6, 7, 8, 9, 17, 18, 19, 20, 21, 22, 23, 24, 25, 26, 27, 28, 29, 30, 31, 32, 33, 34, 35, 36, 37, 38, 39, 40, 41, 42, 43, 44, 45, 46, 47, 48, 49, 50, 51, 52, 53, 54, 55, 56, 57, 58, 59, 60, 61, 62, 63, 64, 65, 66, 67, 68] (.seq (.seq (.reg (.op 0 [] (.op 1 [] .nil))) (.cond .leaf .leaf)) (.seq (.block (.seq (.reg (.op 0 [] (.op 1 [] (.op 2 [] (.op 3 [] (.op 4 [] (.op 5 [] (.op 6 [] (.op 7 [] (.op 8 [] (.op 9 [] .nil))))))))))) (.seq (.drw [0, 0, 0, 6, 15, 0, 0, 96, 255, 511, 1023, 1023, 2047, 8191] (.op 0 [] (.op 1 [] (.op 2 [] (.op 3 [] (.op 4 [] (.op 5 [] (.op 6 [] (.op 7 [] (.op 8 [] (.op 9 [] (.op 10 [] (.op 11 [] (.op 12 [] (.op 13 [] .nil))))))))))))))) (.seq (.reg (.op 0 [] .nil)) (.block (.loop [9] [9, 42, 43, 44, 45, 46, 47, 48, 49, 50, 51, 52, 53, 54, 55, 56, 57, 58, 59, 60, 61, 62, 63, 64, 65, 66, 67, 68] (.seq (.seq (.reg (.op 0 [] (.op 1 [] (.op 2 [] .nil)))) (.cond .leaf .leaf)) (.cut [] [47, 48, 49, 50, 51, 52, 53, 54, 55, 56, 57, 58, 59, 60, 61, 62, 63, 64, 65, 66, 67, 68] (.block (.seq (.drw [0, 0, 0, 6, 15, 31, 63, 0, 0, 384, 896, 2047] (.op 0 [] (.op 1 [] (.op 2 [] (.op 3 [] (.op 4 [] (.op 5 [] (.op 6 [] (.op 7 [] (.op 8 [] (.op 9 [] (.op 10 [] (.op 11 [] .nil))))))))))))) (.cond (.reg (.op 0 [] (.op 1 [] (.op 2 [] (.op 3 [] (.op 4 [] (.op 5 [] (.op 6 [] (.op 7 [] (.op 8 [] (.op 9 [] (.op 10 [] .nil)))))))))))) .leaf))) (.reg (.op 0 [] (.op 1 [] (.op 2 [] .nil)))))))))))) (.reg (.op 0 [] (.op 1 [] (.op 2 [] .nil))))))))) (.seq (.reg (.op 0 [] (.op 1 [] (.op 2 [] (.op 3 [] .nil))))) .leaf))))
/-- lighter/lighterref08.Fewest -/
def lighterref08_Fewest.res (ahead0 : Value) (s1 : Value) (H0 : Heap) (R : Value → Heap → Prop) : Prop :=
 pLenS s1 fun x11 =>
 pAdd x11 (.int .i64 1) fun x12 =>
 pMakeSl H0 3 8 [(.int .i64 0)] x12 x12 fun x13 H_1 =>
 pLenS s1 fun x15 =>
 pSub x15 (.int .i64 1) fun x16 =>
 ∃ (I_2 : Value → Heap → Prop) (m_3 : Value → Heap → Nat), I_2 x16 H_1 ∧
 ∀ _ : Env, ∀ i6 : Value, ∀ H_4 : Heap, I_2 i6 H_4 →
 pGe i6 (.int .i64 0) fun x18 =>
 pCond x18
 (pAdd i6 (.int .i64 1) fun x25 =>
 pIdxSl 1 x13 x25 fun x26 =>
 pLoad H_4 x26 fun x27 =>
 pAdd x27 (.int .i64 1) fun x28 =>
 pIdxSl 1 x13 i6 fun x29 =>
 pStore H_4 x29 x28 fun _ H_5 =>
 pSlStr s1 none (some i6) fun x34 =>
 pAdd ahead0 x34 fun x35 =>
 pSlStr s1 (some i6) none fun x38 =>
 CallsH Tryd.prog 11 #[x35, x38] H_5 fun x39 H_6 =>
 pExtract 0 x39 fun x40 =>
 pExtract 1 x39 fun x41 =>
 ∃ (I_7 : Value → Heap → Prop) (m_8 : Value → Heap → Nat), I_7 (.int .i64 3) H_6 ∧
 ∀ _ : Env, ∀ k9 : Value, ∀ H_9 : Heap, I_7 k9 H_9 →
 pLe k9 x40 fun x44 =>
 pCond x44
 (∃ J_10 : Heap → Prop, (∀ _ : Env, ∀ H_11 : Heap, J_10 H_11 →
 pAdd k9 (.int .i64 1) fun x46 =>
 I_7 x46 H_11 ∧ m_8 x46 H_11 < m_8 k9 H_9) ∧
 pAdd i6 k9 fun x50 =>
 pIdxSl 1 x13 x50 fun x51 =>
 pLoad H_9 x51 fun x52 =>
 pAdd x52 (.int .i64 1) fun x53 =>
 pIdxSl 1 x13 i6 fun x56 =>
 pLoad H_9 x56 fun x57 =>
 pLt x53 x57 fun x58 =>
 pCond x58
 (pAdd i6 k9 fun x64 =>
 pIdxSl 1 x13 x64 fun x65 =>
 pLoad H_9 x65 fun x66 =>
 pAdd x66 (.int .i64 1) fun x67 =>
 pIdxSl 1 x13 i6 fun x68 =>
 pStore H_9 x68 x67 fun _ H_12 =>
 J_10 H_12)
 (J_10 H_9))
 (pSub i6 (.int .i64 1) fun x20 =>
 I_2 x20 H_9 ∧ m_3 x20 H_9 < m_3 i6 H_4))
 (pIdxSl 1 x13 (.int .i64 0) fun x70 =>
 pLoad H_4 x70 fun x71 =>
 R x71 H_4)
set_option maxRecDepth 100000 in
theorem lighterref08_Fewest.vc (ahead0 : Value) (s1 : Value) (H0 : Heap) (R : Value → Heap → Prop) (h : lighterref08_Fewest.res ahead0 s1 H0 R) : CallsH Tryd.prog 23 #[ahead0, s1] H0 R := by
  have e : vcFn Tryd.prog Tryd.C Tryd.f23 lighterref08_Fewest.an [ahead0, s1] H0 R = lighterref08_Fewest.res ahead0 s1 H0 R := by kernel_rfl
  exact vcFn_sound Tryd.callable Tryd.mixed Tryd.func23 (by kernel_rfl) (e.mpr h)

end Go.Proofs.YtfmbgnchedhneaaDoor
