/- The residuals of package lighterref17's functions, printed by resid.py. -/
import Derived.Test.YthadmceioakgnaaVcSeat
namespace Go.Proofs.Ythadmceioakgnaa
open Go Go.Vc Go.Proofs
set_option linter.unusedVariables false
set_option maxHeartbeats 4000000
def lighterref17_Sync.an : Ann := (.seq (.reg (.op 0 [] (.op 1 [] (.op 2 [] .nil)))) (.seq (.seq (.reg (.op 0 [] (.op 1 [] .nil))) (.cond (.seq (.reg (.op 0 [] (.op 1 [] (.op 2 [] .nil)))) .leaf) .leaf)) (.seq (.seq (.reg (.op 0 [] (.op 1 [] (.op 2 [] .nil)))) (.cond (.seq (.reg (.op 0 [] (.op 1 [] (.op 2 [] (.op 3 [] .nil))))) .leaf) .leaf)) (.seq (.reg (.op 0 [] (.op 1 [] (.op 2 [] (.op 3 [] (.op 4 [] .nil)))))) (.seq (.seq (.reg (.op 0 [] .nil)) (.block (.loop [5] [5, 18, 19, 20, 21, 22, 23, 24, 25, 26, 27, 28, 29, 30, 31, 32, 33, 34, 35, 36, 37, 38] (.seq (.seq (.reg (.op 0 [] (.op 1 [] (.op 2 [] (.op 3 [] (.op 4 [] .nil)))))) (.cond .leaf .leaf)) (.seq (.block (.drw [0, 0, 2, 0, 14, 30, 62, 0, 128, 0, 896, 1920, 3968, 8191, 16383] (.op 0 [] (.op 1 [] (.op 2 [] (.op 3 [] (.op 4 [] (.op 5 [] (.op 6 [] (.op 7 [] (.op 8 [] (.op 9 [] (.op 10 [] (.op 11 [] (.op 12 [] (.op 13 [] (.op 14 [] .nil))))))))))))))))) (.reg (.op 0 [] (.op 1 [] (.op 2 [] .nil))))))))) (.seq (.reg (.op 0 [] (.op 1 [] (.op 2 [] (.op 3 [] (.op 4 [] (.op 5 [] .nil))))))) .leaf))))))
/-- lighter/lighterref17.Sync -/
def lighterref17_Sync.res (d0 : Value) (H0 : Heap) (R : Value → Heap → Prop) : Prop :=
 pBox H0 47 d0 fun d1 H_1 =>
 pBox H_1 47 (.agg #[(.slice none 0 0), (.slice none 0 0), (.bool false), (.int .i64 0)]) fun x2 H_2 =>
 pFieldAddr 2 d1 fun x6 =>
 pLoad H_2 x6 fun x7 =>
 pCond x7
 (pLoadN H_2 4 d1 fun x8 =>
 pStoreN H_2 4 x2 x8 fun _ H_3 =>
 pLoadN H_3 4 x2 fun r_4 =>
 R (.tuple #[r_4, (.int .i64 14)]) H_3)
 (pFieldAddr 3 d1 fun x9 =>
 pLoad H_2 x9 fun x10 =>
 pEq 0 x10 (.int .i64 0) fun x11 =>
 pCond x11
 (pLoadN H_2 4 d1 fun x12 =>
 CallsH Try.prog 21 #[x12, (.slice none 0 0)] H_2 fun x13 H_5 =>
 pStoreN H_5 4 x2 x13 fun _ H_6 =>
 pLoadN H_6 4 x2 fun r_7 =>
 R (.tuple #[r_7, (.int .i64 14)]) H_6)
 (pBuildSl H_2 9 0 [] [] fun x14 H_8 =>
 pFieldAddr 0 d1 fun x15 =>
 pLoad H_8 x15 fun x16 =>
 pAppend H_8 9 1 16 [(str [])] x14 x16 fun x17 H_9 =>
 ∃ (I_10 : Value → Heap → Prop) (m_11 : Value → Heap → Nat), I_10 (.int .i64 0) H_9 ∧
 ∀ _ : Env, ∀ k5 : Value, ∀ H_12 : Heap, I_10 k5 H_12 →
 pFieldAddr 1 d1 fun x19 =>
 pLoad H_12 x19 fun x20 =>
 pLen x20 fun x21 =>
 pLt k5 x21 fun x22 =>
 pCond x22
 (pFieldAddr 1 d1 fun x26 =>
 pLoad H_12 x26 fun x27 =>
 pIdxSl 2 x27 k5 fun x29 =>
 pFieldAddr 0 x29 fun x30 =>
 pLoad H_12 x30 fun x31 =>
 pFieldAddr 1 d1 fun x32 =>
 pLoad H_12 x32 fun x33 =>
 pIdxSl 2 x33 k5 fun x35 =>
 pFieldAddr 1 x35 fun x36 =>
 pLoad H_12 x36 fun x37 =>
 pIdxSl 1 x17 x31 fun x38 =>
 pStore H_12 x38 x37 fun _ H_13 =>
 pAdd k5 (.int .i64 1) fun x24 =>
 I_10 x24 H_13 ∧ m_11 x24 H_13 < m_11 k5 H_12)
 (pFieldAddr 3 d1 fun x40 =>
 pLoad H_12 x40 fun x41 =>
 pBuild [(.slice none 0 0), (.slice none 0 0), (.bool false), (.int .i64 0)] [(0, 1, x17), (3, 1, x41)] fun x42 =>
 pStoreN H_12 4 x2 x42 fun _ H_14 =>
 pLoadN H_14 4 x2 fun r_15 =>
 R (.tuple #[r_15, (.int .i64 0)]) H_14)))
set_option maxRecDepth 100000 in
theorem lighterref17_Sync.vc (d0 : Value) (H0 : Heap) (R : Value → Heap → Prop) (h : lighterref17_Sync.res d0 H0 R) : CallsH Try.prog 20 #[d0] H0 R := by
  have e : vcFn Try.prog Try.C Try.f20 lighterref17_Sync.an [d0] H0 R = lighterref17_Sync.res d0 H0 R := by kernel_rfl
  exact vcFn_sound Try.callable Try.mixed Try.func20 (by kernel_rfl) (e.mpr h)

def lighterref17_Crash.an : Ann := (.seq (.reg (.op 0 [] (.op 1 [] .nil))) (.seq (.seq (.reg (.op 0 [] (.op 1 [] .nil))) (.cond (.seq (.reg (.op 0 [] (.op 1 [] .nil))) .leaf) .leaf)) (.seq (.reg (.op 0 [] (.op 1 [] (.op 2 [] (.op 3 [] (.op 4 [] .nil)))))) (.seq (.seq (.reg (.op 0 [] .nil)) (.block (.loop [6] [6, 7, 8, 9, 17, 18, 19, 20, 21, 22, 23, 24, 25, 26, 27, 28, 29, 30, 31, 32, 33, 34, 35, 36, 37, 38, 39, 40, 41, 42, 43, 44, 45, 46, 47, 48, 49, 50, 51, 52, 53, 54, 55, 56, 57, 58, 59, 60, 61, 62, 63, 64, 65, 66, 67, 68, 69, 70, 71, 72, 73, 74, 75, 76, 77, 78, 79, 80, 81, 82, 83, 84, 85, 86, 87, 88, 89, 90] (.seq (.seq (.reg (.op 0 [] (.op 1 [] (.op 2 [] (.op 3 [] (.op 4 [] .nil)))))) (.cond .leaf .leaf)) (.cut [] [7, 8, 9, 24, 25, 26, 27, 28, 29, 30, 31, 32, 33, 34, 35, 36, 37, 38, 39, 40, 41, 42, 43, 44, 45, 46, 47, 48, 49, 50, 51, 52, 53, 54, 55, 56, 57, 58, 59, 60, 61, 62, 63, 64, 65, 66, 67, 68, 69, 70, 71, 72, 73, 74, 75, 76, 77, 78, 79, 80, 81, 82, 83, 84, 85, 86, 87, 88, 89, 90] (.block (.seq (.reg (.op 0 [] .nil)) (.cut [7] [7, 24, 25, 26, 27, 28, 29, 30, 31, 32, 33, 34] (.seq (.reg (.op 0 [] (.op 1 [] (.op 2 [] (.op 3 [] .nil))))) (.cond (.reg (.op 0 [] (.op 1 [] (.op 2 [] (.op 3 [] (.op 4 [] (.op 5 [] (.op 6 [] (.op 7 [] .nil))))))))) .leaf)) (.seq (.drw [0, 0, 2, 0, 14, 30, 62, 127, 255, 0, 512, 0, 3584, 7680, 15872, 511, 65535] (.op 0 [] (.op 1 [] (.op 2 [] (.op 3 [] (.op 4 [] (.op 5 [] (.op 6 [] (.op 7 [] (.op 8 [] (.op 9 [] (.op 10 [] (.op 11 [] (.op 12 [] (.op 13 [] (.op 14 [] (.op 15 [] (.op 16 [] .nil)))))))))))))))))) (.cut [] [50, 51, 52, 53, 54, 55, 56, 57, 58, 59, 60] (.seq (.reg (.op 0 [] (.op 1 [] .nil))) (.cond (.reg (.op 0 [] (.op 1 [] (.op 2 [] (.op 3 [] (.op 4 [] (.op 5 [] (.op 6 [] (.op 7 [] (.op 8 [] (.op 9 [] .nil))))))))))) .leaf)) (.cut [] [61, 62, 63, 64, 65, 66, 67, 68, 69, 70, 71, 72, 73, 74, 75] (.seq (.reg (.op 0 [] (.op 1 [] .nil))) (.cond (.drw [0, 0, 2, 0, 14, 30, 62, 0, 128, 0, 512, 1920, 4095, 8191] (.op 0 [] (.op 1 [] (.op 2 [] (.op 3 [] (.op 4 [] (.op 5 [] (.op 6 [] (.op 7 [] (.op 8 [] (.op 9 [] (.op 10 [] (.op 11 [] (.op 12 [] (.op 13 [] .nil))))))))))))))) .leaf)) (.seq (.reg (.op 0 [] (.op 1 [] .nil))) (.cond (.drw [0, 0, 2, 0, 14, 30, 62, 0, 128, 0, 512, 1920, 4095, 8191] (.op 0 [] (.op 1 [] (.op 2 [] (.op 3 [] (.op 4 [] (.op 5 [] (.op 6 [] (.op 7 [] (.op 8 [] (.op 9 [] (.op 10 [] (.op 11 [] (.op 12 [] (.op 13 [] .nil))))))))))))))) .leaf)))))))) (.reg (.op 0 [] (.op 1 [] (.op 2 [] .nil))))))))) (.seq (.reg (.op 0 [] (.op 1 [] (.op 2 [] .nil)))) .leaf)))))
/-- lighter/lighterref17.Crash -/
def lighterref17_Crash.res (d0 : Value) (fates1 : Value) (H0 : Heap) (R : Value → Heap → Prop) : Prop :=
 pBox H0 47 d0 fun d2 H_1 =>
 pBox H_1 47 (.agg #[(.slice none 0 0), (.slice none 0 0), (.bool false), (.int .i64 0)]) fun x4 H_2 =>
 pFieldAddr 2 d2 fun x10 =>
 pLoad H_2 x10 fun x11 =>
 pCond x11
 (pLoadN H_2 4 d2 fun x12 =>
 pStoreN H_2 4 x4 x12 fun _ H_3 =>
 pLoadN H_3 4 x4 fun r_4 =>
 R r_4 H_3)
 (pBuildSl H_2 9 0 [] [] fun x13 H_5 =>
 pFieldAddr 0 d2 fun x14 =>
 pLoad H_5 x14 fun x15 =>
 pAppend H_5 9 1 16 [(str [])] x13 x15 fun x16 H_6 =>
 ∃ (I_7 : Value → Heap → Prop) (m_8 : Value → Heap → Nat), I_7 (.int .i64 0) H_6 ∧
 ∀ _ : Env, ∀ i6 : Value, ∀ H_9 : Heap, I_7 i6 H_9 →
 pFieldAddr 1 d2 fun x18 =>
 pLoad H_9 x18 fun x19 =>
 pLen x19 fun x20 =>
 pLt i6 x20 fun x21 =>
 pCond x21
 (∃ J_10 : Heap → Prop, (∀ _ : Env, ∀ H_11 : Heap, J_10 H_11 →
 pAdd i6 (.int .i64 1) fun x23 =>
 I_7 x23 H_11 ∧ m_8 x23 H_11 < m_8 i6 H_9) ∧
 ∃ J_12 : Value → Heap → Prop, (∀ _ : Env, ∀ f7 : Value, ∀ H_13 : Heap, J_12 f7 H_13 →
 pFieldAddr 1 d2 fun x36 =>
 pLoad H_13 x36 fun x37 =>
 pIdxSl 2 x37 i6 fun x39 =>
 pFieldAddr 0 x39 fun x40 =>
 pLoad H_13 x40 fun x41 =>
 pIdxSl 1 x16 x41 fun x42 =>
 pLoad H_13 x42 fun x43 =>
 pFieldAddr 1 d2 fun x44 =>
 pLoad H_13 x44 fun x45 =>
 pIdxSl 2 x45 i6 fun x47 =>
 pFieldAddr 1 x47 fun x48 =>
 pLoad H_13 x48 fun x49 =>
 ∃ J_14 : Heap → Prop, (∀ _ : Env, ∀ H_15 : Heap, J_14 H_15 →
 ∃ J_16 : Heap → Prop, (∀ _ : Env, ∀ H_17 : Heap, J_16 H_17 →
 pEq 0 f7 (.int .i64 3) fun x77 =>
 pCond x77
 (pFieldAddr 1 d2 fun x79 =>
 pLoad H_17 x79 fun x80 =>
 pIdxSl 2 x80 i6 fun x82 =>
 pFieldAddr 0 x82 fun x83 =>
 pLoad H_17 x83 fun x84 =>
 pSlStr x43 none (some (.int .i64 32)) fun x86 =>
 pSlStr x49 (some (.int .i64 32)) none fun x88 =>
 pAdd x86 x88 fun x89 =>
 pIdxSl 1 x16 x84 fun x90 =>
 pStore H_17 x90 x89 fun _ H_18 =>
 J_10 H_18)
 (J_10 H_17)) ∧
 pEq 0 f7 (.int .i64 2) fun x62 =>
 pCond x62
 (pFieldAddr 1 d2 fun x64 =>
 pLoad H_15 x64 fun x65 =>
 pIdxSl 2 x65 i6 fun x67 =>
 pFieldAddr 0 x67 fun x68 =>
 pLoad H_15 x68 fun x69 =>
 pSlStr x49 none (some (.int .i64 32)) fun x71 =>
 pSlStr x43 (some (.int .i64 32)) none fun x73 =>
 pAdd x71 x73 fun x74 =>
 pIdxSl 1 x16 x69 fun x75 =>
 pStore H_15 x75 x74 fun _ H_19 =>
 J_16 H_19)
 (J_16 H_15)) ∧
 pEq 0 f7 (.int .i64 1) fun x51 =>
 pCond x51
 (pFieldAddr 1 d2 fun x53 =>
 pLoad H_13 x53 fun x54 =>
 pIdxSl 2 x54 i6 fun x56 =>
 pFieldAddr 0 x56 fun x57 =>
 pLoad H_13 x57 fun x58 =>
 pIdxSl 1 x16 x58 fun x60 =>
 pStore H_13 x60 x49 fun _ H_20 =>
 J_14 H_20)
 (J_14 H_13)) ∧
 pLen fates1 fun x26 =>
 pLt i6 x26 fun x27 =>
 pCond x27
 (pIdxSl 1 fates1 i6 fun x30 =>
 pLoad H_9 x30 fun x31 =>
 pRem x31 (.int .i64 4) fun x32 =>
 pAdd x32 (.int .i64 4) fun x33 =>
 pRem x33 (.int .i64 4) fun x34 =>
 J_12 x34 H_9)
 (J_12 (.int .i64 0) H_9))
 (pBuild [(.slice none 0 0), (.slice none 0 0), (.bool false), (.int .i64 0)] [(0, 1, x16), (2, 1, (.bool true)), (3, 1, (.int .i64 (-1)))] fun x92 =>
 pStoreN H_9 4 x4 x92 fun _ H_21 =>
 pLoadN H_21 4 x4 fun r_22 =>
 R r_22 H_21))
set_option maxRecDepth 100000 in
theorem lighterref17_Crash.vc (d0 : Value) (fates1 : Value) (H0 : Heap) (R : Value → Heap → Prop) (h : lighterref17_Crash.res d0 fates1 H0 R) : CallsH Try.prog 21 #[d0, fates1] H0 R := by
  have e : vcFn Try.prog Try.C Try.f21 lighterref17_Crash.an [d0, fates1] H0 R = lighterref17_Crash.res d0 fates1 H0 R := by kernel_rfl
  exact vcFn_sound Try.callable Try.mixed Try.func21 (by kernel_rfl) (e.mpr h)

def lighterref17_Write.an : Ann := (.seq (.reg (.op 0 [] (.op 1 [] (.op 2 [] .nil)))) (.seq (.seq (.reg (.op 0 [] (.op 1 [] (.op 2 [] .nil)))) (.cond (.seq (.reg (.op 0 [] (.op 1 [] (.op 2 [] .nil)))) .leaf) .leaf)) (.seq (.seq (.reg (.op 0 [] (.op 1 [] .nil))) (.cond (.seq (.reg (.op 0 [] (.op 1 [] (.op 2 [] .nil)))) .leaf) .leaf)) (.seq (.seq (.reg (.op 0 [] (.op 1 [] (.op 2 [] (.grp 2 (.op 3 [] (.op 4 [] (.op 5 [] (.op 6 [] (.op 7 [] .nil))))) 8 .nil))))) (.cond (.seq (.reg (.op 0 [] (.op 1 [] (.op 2 [] .nil)))) .leaf) .leaf)) (.seq (.seq (.reg (.op 0 [] (.op 1 [] (.op 2 [] .nil)))) (.cond (.seq (.reg (.op 0 [] (.op 1 [] (.op 2 [] (.op 3 [] .nil))))) .leaf) .leaf)) (.cut [] [32, 33, 34, 35, 36, 37, 38] (.seq (.reg (.op 0 [] (.op 1 [] (.op 2 [] .nil)))) (.cond (.reg (.op 0 [] (.op 1 [] (.op 2 [] (.op 3 [] (.op 4 [] .nil)))))) .leaf)) (.seq (.reg (.op 0 [] .nil)) (.seq (.seq (.reg (.op 0 [] .nil)) (.block (.loop [8, 9] [8, 9, 39, 40, 41, 42, 43, 44, 45, 46, 47, 48, 49, 50, 51, 52, 53, 54, 55, 56, 57, 58, 59, 60, 61] (.seq (.seq (.reg (.op 0 [] (.op 1 [] (.op 2 [] (.op 3 [] (.op 4 [] .nil)))))) (.cond .leaf .leaf)) (.cut [8] [8, 46, 47, 48, 49, 50, 51, 52, 53, 54, 55, 56, 57, 58, 59, 60, 61] (.block (.seq (.reg (.op 0 [] (.op 1 [] (.op 2 [] (.op 3 [] (.op 4 [] (.op 5 [] (.op 6 [] (.op 7 [] .nil))))))))) (.cond (.reg (.op 0 [] (.op 1 [] (.op 2 [] (.op 3 [] (.op 4 [] (.op 5 [] (.op 6 [] (.op 7 [] (.op 8 [] .nil)))))))))) .leaf))) (.reg (.op 0 [] (.op 1 [] (.op 2 [] .nil))))))))) (.seq (.reg (.op 0 [] (.op 1 [] (.op 2 [] (.op 3 [] (.op 4 [] (.op 5 [] (.op 6 [] (.op 7 [] .nil))))))))) (.seq (.reg (.op 0 [] (.op 1 [] (.op 2 [] .nil)))) .leaf))))))))))
/-- lighter/lighterref17.Write -/
def lighterref17_Write.res (d0 : Value) (i1 : Value) (s2 : Value) (H0 : Heap) (R : Value → Heap → Prop) : Prop :=
 pBox H0 47 d0 fun d3 H_1 =>
 pBox H_1 47 (.agg #[(.slice none 0 0), (.slice none 0 0), (.bool false), (.int .i64 0)]) fun x6 H_2 =>
 pLenS s2 fun x11 =>
 pNe 0 x11 (.int .i64 64) fun x12 =>
 pCond x12
 (pLoadN H_2 4 d3 fun x13 =>
 pStoreN H_2 4 x6 x13 fun _ H_3 =>
 pLoadN H_3 4 x6 fun r_4 =>
 R (.tuple #[r_4, (.int .i64 1)]) H_3)
 (pFieldAddr 2 d3 fun x14 =>
 pLoad H_2 x14 fun x15 =>
 pCond x15
 (pLoadN H_2 4 d3 fun x16 =>
 pStoreN H_2 4 x6 x16 fun _ H_5 =>
 pLoadN H_5 4 x6 fun r_6 =>
 R (.tuple #[r_6, (.int .i64 14)]) H_5)
 (pLt i1 (.int .i64 0) fun x18 =>
 pOr x18 (fun J_7 =>
 pFieldAddr 0 d3 fun x21 =>
 pLoad H_2 x21 fun x22 =>
 pLen x22 fun x23 =>
 pGe i1 x23 fun x24 =>
 J_7 x24 H_2) H_2 fun x25 H_8 => ∀ _ : Env,
 pCond x25
 (pLoadN H_8 4 d3 fun x26 =>
 pStoreN H_8 4 x6 x26 fun _ H_9 =>
 pLoadN H_9 4 x6 fun r_10 =>
 R (.tuple #[r_10, (.int .i64 20)]) H_9)
 (pFieldAddr 3 d3 fun x27 =>
 pLoad H_8 x27 fun x28 =>
 pEq 0 x28 (.int .i64 0) fun x29 =>
 pCond x29
 (pLoadN H_8 4 d3 fun x30 =>
 CallsH Try.prog 21 #[x30, (.slice none 0 0)] H_8 fun x31 H_11 =>
 pStoreN H_11 4 x6 x31 fun _ H_12 =>
 pLoadN H_12 4 x6 fun r_13 =>
 R (.tuple #[r_13, (.int .i64 14)]) H_12)
 (∃ J_14 : Heap → Prop, (∀ _ : Env, ∀ H_15 : Heap, J_14 H_15 →
 ∃ (I_16 : Value → Value → Heap → Prop) (m_17 : Value → Value → Heap → Nat), I_16 (.slice none 0 0) (.int .i64 0) H_15 ∧
 ∀ _ : Env, ∀ c8 : Value, ∀ k9 : Value, ∀ H_18 : Heap, I_16 c8 k9 H_18 →
 pFieldAddr 1 d3 fun x40 =>
 pLoad H_18 x40 fun x41 =>
 pLen x41 fun x42 =>
 pLt k9 x42 fun x43 =>
 pCond x43
 (∃ J_19 : Value → Heap → Prop, (∀ _ : Env, ∀ c8' : Value, ∀ H_20 : Heap, J_19 c8' H_20 →
 pAdd k9 (.int .i64 1) fun x45 =>
 I_16 c8' x45 H_20 ∧ m_17 c8' x45 H_20 < m_17 c8 k9 H_18) ∧
 pFieldAddr 1 d3 fun x46 =>
 pLoad H_18 x46 fun x47 =>
 pIdxSl 2 x47 k9 fun x49 =>
 pFieldAddr 0 x49 fun x50 =>
 pLoad H_18 x50 fun x51 =>
 pNe 0 x51 i1 fun x53 =>
 pCond x53
 (pFieldAddr 1 d3 fun x55 =>
 pLoad H_18 x55 fun x56 =>
 pIdxSl 2 x56 k9 fun x58 =>
 pLoadN H_18 2 x58 fun x59 =>
 pBuildSl H_18 55 1 [(.int .i64 0), (str [])] [(0, 2, x59)] fun x60 H_21 =>
 pAppend H_21 55 2 24 [(.int .i64 0), (str [])] c8 x60 fun x61 H_22 =>
 J_19 x61 H_22)
 (J_19 c8 H_18))
 (pBuild [(.int .i64 0), (str [])] [(0, 1, i1), (1, 1, s2)] fun x65 =>
 pBuildSl H_18 55 1 [(.int .i64 0), (str [])] [(0, 2, x65)] fun x66 H_23 =>
 pAppend H_23 55 2 24 [(.int .i64 0), (str [])] c8 x66 fun x67 H_24 =>
 pFieldAddr 1 d3 fun x68 =>
 pStore H_24 x68 x67 fun _ H_25 =>
 pLoadN H_25 4 d3 fun x69 =>
 pStoreN H_25 4 x6 x69 fun _ H_26 =>
 pLoadN H_26 4 x6 fun r_27 =>
 R (.tuple #[r_27, (.int .i64 0)]) H_26)) ∧
 pFieldAddr 3 d3 fun x32 =>
 pLoad H_8 x32 fun x33 =>
 pGt x33 (.int .i64 0) fun x34 =>
 pCond x34
 (pFieldAddr 3 d3 fun x35 =>
 pLoad H_8 x35 fun x36 =>
 pSub x36 (.int .i64 1) fun x37 =>
 pFieldAddr 3 d3 fun x38 =>
 pStore H_8 x38 x37 fun _ H_28 =>
 J_14 H_28)
 (J_14 H_8)))))
set_option maxRecDepth 100000 in
theorem lighterref17_Write.vc (d0 : Value) (i1 : Value) (s2 : Value) (H0 : Heap) (R : Value → Heap → Prop) (h : lighterref17_Write.res d0 i1 s2 H0 R) : CallsH Try.prog 22 #[d0, i1, s2] H0 R := by
  have e : vcFn Try.prog Try.C Try.f22 lighterref17_Write.an [d0, i1, s2] H0 R = lighterref17_Write.res d0 i1 s2 H0 R := by kernel_rfl
  exact vcFn_sound Try.callable Try.mixed Try.func22 (by kernel_rfl) (e.mpr h)

end Go.Proofs.Ythadmceioakgnaa
