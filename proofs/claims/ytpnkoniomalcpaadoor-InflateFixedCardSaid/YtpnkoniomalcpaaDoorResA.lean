/- The residuals of functions, printed by resid.py. -/
import Derived.Test.YtpnkoniomalcpaaDoorVcSeat
namespace Go.Proofs.YtpnkoniomalcpaaDoor
open Go Go.Vc Go.Proofs
set_option linter.unusedVariables false
set_option maxHeartbeats 4000000
def lighterlaw07_InflateNone.an : Ann := (.seq (.reg (.op 0 [] .nil)) (.seq (.seq (.reg (.op 0 [] (.op 1 [] .nil))) (.cond (.seq (.reg (.op 0 [] .nil)) .leaf) .leaf)) (.seq (.reg (.op 0 [] .nil)) (.seq (.reg (.op 0 [] (.op 1 [] (.op 2 [] (.op 3 [] (.op 4 [] (.op 5 [] (.op 6 [] (.op 7 [] .nil))))))))) (.seq (.reg (.op 0 [] (.op 1 [] .nil))) (.seq (.reg (.op 0 [] (.op 1 [] (.op 2 [] (.op 3 [] (.op 4 [] (.op 5 [] (.op 6 [] .nil)))))))) (.seq (.reg (.op 0 [] (.op 1 [] (.op 2 [] (.op 3 [] (.op 4 [] (.op 5 [] (.op 6 [] (.op 7 [] .nil))))))))) (.seq (.reg (.op 0 [] (.op 1 [] (.op 2 [] (.grp 2 (.op 3 [] (.op 4 [] (.op 5 [] .nil))) 6 (.op 7 [] (.grp 7 (.op 8 [] (.op 9 [] (.op 10 [] .nil))) 11 (.op 12 [] (.grp 12 (.op 13 [] (.op 14 [] (.op 15 [] .nil))) 16 (.op 17 [] (.grp 17 (.op 18 [] (.op 19 [] .nil)) 20 (.op 21 [] (.grp 21 (.op 22 [] (.op 23 [] .nil)) 24 (.op 25 [] (.grp 25 (.op 26 [] (.op 27 [] (.op 28 [] .nil))) 29 (.op 30 [] (.grp 30 (.op 31 [] (.op 32 [] .nil)) 33 (.op 34 [] .nil)))))))))))))))))) .leaf))))))))
/-- lighter/lighterlaw07.InflateNone -/
def lighterlaw07_InflateNone.res (s0 : Value) (H0 : Heap) (R : Value → Heap → Prop) : Prop :=
 CallsH Tryd.prog 7 #[] H0 fun x12 H_1 =>
 pNot x12 fun x13 =>
 pCond x13
 (R (.bool false) H_1)
 (CallsH Tryd.prog 8 #[(.pointer none), s0] H_1 fun x17 H_2 =>
 pExtract 0 x17 fun x18 =>
 pExtract 1 x17 fun x19 =>
 CallsH Tryd.prog 9 #[] H_2 fun x20 H_3 =>
 CallsH Tryd.prog 8 #[x20, (str [])] H_3 fun x23 H_4 =>
 pExtract 0 x23 fun x24 =>
 pExtract 1 x23 fun x25 =>
 CallsH Tryd.prog 10 #[(str [])] H_4 fun x27 H_5 =>
 pExtract 0 x27 fun x28 =>
 pExtract 1 x27 fun x29 =>
 pExtract 2 x27 fun x30 =>
 pEq 0 x19 (.int .i64 1) fun x32 =>
 pAnd x32 (fun J_6 =>
 CallsH Tryd.prog 11 #[(.pointer none)] H_5 fun x35 H_8 =>
 pNot x35 fun x36 =>
 J_6 x36 H_8) H_5 fun x37 H_7 => ∀ _ : Env,
 pAnd x37 (fun J_9 =>
 CallsH Tryd.prog 12 #[(.pointer none)] H_7 fun x40 H_11 =>
 pEq 1 x40 (str []) fun x41 =>
 J_9 x41 H_11) H_7 fun x42 H_10 => ∀ _ : Env,
 pAnd x42 (fun J_12 =>
 CallsH Tryd.prog 13 #[(.pointer none)] H_10 fun x45 H_14 =>
 pEq 0 x45 (.int .i64 0) fun x46 =>
 J_12 x46 H_14) H_10 fun x47 H_13 => ∀ _ : Env,
 pAnd x47 (fun J_15 =>
 pEq 0 x25 (.int .i64 0) fun x50 =>
 J_15 x50 H_13) H_13 fun x51 H_16 => ∀ _ : Env,
 pAnd x51 (fun J_17 =>
 pEq 1 x24 (str []) fun x54 =>
 J_17 x54 H_16) H_16 fun x55 H_18 => ∀ _ : Env,
 pAnd x55 (fun J_19 =>
 CallsH Tryd.prog 11 #[x20] H_18 fun x58 H_21 =>
 pNot x58 fun x59 =>
 J_19 x59 H_21) H_18 fun x60 H_20 => ∀ _ : Env,
 pAnd x60 (fun J_22 =>
 pEq 0 x30 (.int .i64 2) fun x63 =>
 J_22 x63 H_20) H_20 fun x64 H_23 => ∀ _ : Env,
 R x64 H_23)
set_option maxRecDepth 100000 in
theorem lighterlaw07_InflateNone.vc (s0 : Value) (H0 : Heap) (R : Value → Heap → Prop) (h : lighterlaw07_InflateNone.res s0 H0 R) : CallsH Tryd.prog 3 #[s0] H0 R := by
  have e : vcFn Tryd.prog Tryd.C Tryd.f3 lighterlaw07_InflateNone.an [s0] H0 R = lighterlaw07_InflateNone.res s0 H0 R := by kernel_rfl
  exact vcFn_sound Tryd.callable Tryd.mixed Tryd.func3 (by kernel_rfl) (e.mpr h)

def lighterlaw07_InflateStored.an : Ann := (.seq (.reg (.op 0 [] .nil)) (.seq (.seq (.reg (.op 0 [] (.op 1 [] .nil))) (.cond (.seq (.reg (.op 0 [] .nil)) .leaf) .leaf)) (.seq (.reg (.op 0 [] (.op 1 [] (.op 2 [] (.op 3 [] (.op 4 [] (.op 5 [] .nil))))))) (.seq (.reg (.op 0 [] (.op 1 [] (.op 2 [] (.op 3 [] .nil))))) (.seq (.reg (.op 0 [] .nil)) (.seq (.seq (.reg (.op 0 [] .nil)) (.block (.loop [7, 8] [7, 8, 9, 23, 24, 25, 26, 27, 28, 29, 30, 31, 32, 33, 34, 35, 36, 37, 38, 39, 40, 41, 42, 43, 44, 45, 46, 47, 48, 49, 50, 51, 52, 53] (.seq (.seq (.reg (.op 0 [] (.op 1 [] (.op 2 [] (.op 3 [] .nil))))) (.cond .leaf .leaf)) (.seq (.block (.seq (.reg (.op 0 [] (.op 1 [] (.op 2 [] (.op 3 [] (.op 4 [] (.op 5 [] (.op 6 [] .nil)))))))) (.drw [0, 0, 2, 6, 14, 0, 32, 96, 238, 510, 0, 0, 0, 0, 12288, 31744, 65534, 131071, 262143] (.op 0 [] (.op 1 [] (.op 2 [] (.op 5 [] (.op 6 [] (.op 7 [] (.op 10 [] (.op 11 [] (.op 12 [] (.op 13 [] (.op 14 [] (.op 15 [] (.op 3 [] (.op 4 [] (.op 8 [] (.op 9 [] (.op 16 [] (.op 17 [] (.op 18 [] .nil)))))))))))))))))))))) (.reg (.op 0 [] (.op 1 [] (.op 2 [] (.op 3 [] .nil)))))))))) (.seq (.reg (.op 0 [] (.op 1 [] (.op 2 [] .nil)))) (.seq (.reg (.op 0 [] (.op 1 [] (.op 2 [] (.op 3 [] (.op 4 [] (.op 5 [] (.op 6 [] (.op 7 [] (.op 8 [] (.op 9 [] .nil))))))))))) (.seq (.reg (.op 0 [] (.op 1 [] (.op 2 [] (.grp 2 (.op 3 [] (.op 4 [] (.op 5 [] .nil))) 6 (.op 7 [] (.grp 7 (.op 8 [] (.op 9 [] .nil)) 10 (.op 11 [] (.grp 11 (.op 12 [] (.op 13 [] (.op 14 [] (.op 15 [] (.op 16 [] (.op 17 [] .nil)))))) 18 (.op 19 [] .nil)))))))))) .leaf)))))))))
/-- lighter/lighterlaw07.InflateStored -/
def lighterlaw07_InflateStored.res (text0 : Value) (cut1 : Value) (piece2 : Value) (H0 : Heap) (R : Value → Heap → Prop) : Prop :=
 CallsH Tryd.prog 7 #[] H0 fun x13 H_1 =>
 pNot x13 fun x14 =>
 pCond x14
 (R (.bool false) H_1)
 (pLenS text0 fun x17 =>
 pMin x17 (.int .i64 500) fun x18 =>
 pSlStr text0 none (some x18) fun x19 =>
 pBits .and cut1 (.int .i64 63) fun x21 =>
 pAdd (.int .i64 1) x21 fun x22 =>
 ∃ (I_2 : Value → Value → Heap → Prop) (m_3 : Value → Value → Heap → Nat), I_2 (str []) (.int .i64 0) H_1 ∧
 ∀ _ : Env, ∀ s7 : Value, ∀ at8 : Value, ∀ H_4 : Heap, I_2 s7 at8 H_4 →
 pLenS x19 fun x25 =>
 pLt at8 x25 fun x26 =>
 pCond x26
 (pLenS x19 fun x32 =>
 pSub x32 at8 fun x34 =>
 pMin x22 x34 fun x35 =>
 pConv .u64 x35 fun x38 =>
 pSub (.int .i64 65535) x35 fun x42 =>
 pConv .u64 x42 fun x43 =>
 pAdd at8 x35 fun x50 =>
 pSlStr x19 (some at8) (some x50) fun x51 =>
 CallsH Tryd.prog 14 #[x38, (.int .i64 2)] H_4 fun x39 H_5 =>
 pAdd (str [0]) x39 fun x40 =>
 CallsH Tryd.prog 14 #[x43, (.int .i64 2)] H_5 fun x44 H_6 =>
 pAdd x40 x44 fun x45 =>
 pAdd x45 x51 fun x52 =>
 pAdd s7 x52 fun x53 =>
 pAdd at8 x22 fun x29 =>
 I_2 x53 x29 H_6 ∧ m_3 x53 x29 H_6 < m_3 s7 at8 H_4)
 (pAdd s7 (str [1, 0, 0, 255, 255]) fun x55 =>
 pAdd x55 (str [114, 101, 115, 116]) fun x58 =>
 CallsH Tryd.prog 10 #[x58] H_4 fun x59 H_7 =>
 pExtract 0 x59 fun x60 =>
 pExtract 1 x59 fun x61 =>
 pExtract 2 x59 fun x62 =>
 pEq 0 x62 (.int .i64 0) fun x64 =>
 pAnd x64 (fun J_8 =>
 pEq 1 x60 x19 fun x68 =>
 J_8 x68 H_7) H_7 fun x69 H_9 => ∀ _ : Env,
 pAnd x69 (fun J_10 =>
 pEq 1 x61 (str [114, 101, 115, 116]) fun x72 =>
 J_10 x72 H_9) H_9 fun x73 H_11 => ∀ _ : Env,
 pAnd x73 (fun J_12 =>
 pAdd x55 (str [114, 101, 115, 116]) fun x76 =>
 pBits .and piece2 (.int .i64 15) fun x78 =>
 pAdd (.int .i64 1) x78 fun x79 =>
 CallsH Tryd.prog 15 #[x76, x79] H_11 fun x80 H_14 =>
 J_12 x80 H_14) H_11 fun x81 H_13 => ∀ _ : Env,
 R x81 H_13))
set_option maxRecDepth 100000 in
theorem lighterlaw07_InflateStored.vc (text0 : Value) (cut1 : Value) (piece2 : Value) (H0 : Heap) (R : Value → Heap → Prop) (h : lighterlaw07_InflateStored.res text0 cut1 piece2 H0 R) : CallsH Tryd.prog 4 #[text0, cut1, piece2] H0 R := by
  have e : vcFn Tryd.prog Tryd.C Tryd.f4 lighterlaw07_InflateStored.an [text0, cut1, piece2] H0 R = lighterlaw07_InflateStored.res text0 cut1 piece2 H0 R := by kernel_rfl
  exact vcFn_sound Tryd.callable Tryd.mixed Tryd.func4 (by kernel_rfl) (e.mpr h)

def lighterlaw07_InflateFixed.an : Ann := (.seq (.reg (.op 0 [] .nil)) (.seq (.seq (.reg (.op 0 [] (.op 1 [] .nil))) (.cond (.seq (.reg (.op 0 [] .nil)) .leaf) .leaf)) (.seq (.reg (.op 0 [] .nil)) (.seq (.reg (.op 0 [] .nil)) (.seq (.reg (.op 0 [] .nil)) (.seq (.reg (.op 0 [] .nil)) (.seq (.seq (.reg (.op 0 [] .nil)) (.block (.loop [6, 7, 8] [6, 7, 8, 9, 10, 11, 23, 24, 25, 26, 27, 28, 29, 30, 31, 32, 33, 34, 35, 36, 37, 38, 39, 40, 41, 42, 43, 44, 45, 46, 47, 48, 49, 50, 51, 52, 53, 54, 55, 56, 57, 58, 59, 60, 61, 62, 63, 64, 65, 66, 67, 68, 69, 70, 71, 72, 73, 74, 75, 76, 77, 78, 79, 80, 81, 82, 83, 84, 85, 86, 87, 88, 89, 90, 91, 92, 93] (.seq (.seq (.reg (.op 0 [] (.op 1 [] (.op 2 [] (.op 3 [] (.op 4 [] (.grp 4 (.op 5 [] (.op 6 [] .nil)) 7 .nil))))))) (.cond .leaf .leaf)) (.cut [6, 7] [6, 7, 9, 10, 11, 33, 34, 35, 36, 37, 38, 39, 40, 41, 42, 43, 44, 45, 46, 47, 48, 49, 50, 51, 52, 53, 54, 55, 56, 57, 58, 59, 60, 61, 62, 63, 64, 65, 66, 67, 68, 69, 70, 71, 72, 73, 74, 75, 76, 77, 78, 79, 80, 81, 82, 83, 84, 85, 86, 87, 88, 89, 90, 91, 92, 93] (.block (.seq (.reg (.op 0 [] (.op 1 [] (.op 2 [] (.op 3 [] (.op 4 [] (.op 5 [] .nil))))))) (.seq (.seq (.reg (.op 0 [] (.op 1 [] (.op 2 [] (.op 3 [] (.grp 3 (.op 4 [] (.op 5 [] (.op 6 [] (.op 7 [] .nil)))) 8 .nil)))))) (.cond .leaf .leaf)) (.seq (.reg (.op 0 [] (.op 1 [] (.op 2 [] (.op 3 [] (.op 4 [] .nil)))))) (.seq (.reg (.op 0 [] (.op 1 [] (.op 2 [] (.op 3 [] (.op 4 [] (.op 5 [] .nil))))))) (.seq (.seq (.reg (.op 0 [] (.op 1 [] (.op 2 [] .nil)))) (.cond (.seq (.reg (.op 0 [] (.op 1 [] (.op 2 [] (.op 3 [] .nil))))) .leaf) .leaf)) (.cut [10] [10, 62, 63, 64, 65] (.drw [0, 0, 2, 7, 0, 31] (.op 1 [] (.op 2 [] (.fork (.op 0 [2] (.fork (.op 3 [] (.op 4 [2] (.op 5 [] .nil))) (.op 4 [2] (.op 3 [] (.op 5 [] .nil))))) (.op 4 [2] (.op 0 [2] (.op 3 [] (.op 5 [] .nil)))))))) (.seq (.reg (.op 0 [] (.op 1 [] (.op 2 [] .nil)))) (.seq (.reg (.op 0 [] (.op 1 [] (.op 2 [] (.op 3 [] (.op 4 [] (.op 5 [] (.op 6 [] (.op 7 [] (.op 8 [] .nil)))))))))) (.cut [11] [11, 78, 79, 80, 81] (.drw [0, 0, 2, 7, 0, 31] (.op 1 [] (.op 2 [] (.fork (.op 0 [2] (.fork (.op 3 [] (.op 4 [2] (.op 5 [] .nil))) (.op 4 [2] (.op 3 [] (.op 5 [] .nil))))) (.op 4 [2] (.op 0 [2] (.op 3 [] (.op 5 [] .nil)))))))) (.seq (.reg (.op 0 [] (.op 1 [] (.op 2 [] .nil)))) (.reg (.op 0 [] (.op 1 [] (.op 2 [] (.op 3 [] (.op 4 [] (.op 5 [] (.op 6 [] (.op 7 [] (.op 8 [] .nil))))))))))))))))))))) (.reg (.op 0 [] (.op 1 [] (.op 2 [] .nil))))))))) (.seq (.reg (.op 0 [] .nil)) (.seq (.reg (.op 0 [] .nil)) (.seq (.reg (.op 0 [] (.op 1 [] .nil))) (.seq (.reg (.op 0 [] (.op 1 [] (.op 2 [] (.op 3 [] (.op 4 [] (.op 5 [] (.op 6 [] .nil)))))))) (.seq (.reg (.op 0 [] (.op 1 [] (.op 2 [] (.op 3 [] .nil))))) (.seq (.reg (.op 0 [] (.op 1 [] .nil))) (.seq (.reg (.op 0 [] .nil)) (.seq (.seq (.reg (.op 0 [] .nil)) (.block (.loop [16, 17] [4, 16, 17, 18, 19, 106, 107, 108, 109, 110, 111, 112, 113, 114, 115, 116, 117, 118, 119, 120, 121, 122, 123, 124, 125, 126, 127, 128, 129, 130, 131] (.seq (.seq (.reg (.op 0 [] (.op 1 [] (.op 2 [] (.op 3 [] .nil))))) (.cond .leaf .leaf)) (.seq (.block (.seq (.reg (.op 0 [] (.op 1 [] (.op 2 [] (.op 3 [] (.op 4 [] (.op 5 [] (.op 6 [] (.op 7 [] (.op 8 [] (.op 9 [] (.op 10 [] (.op 11 [] (.op 12 [] (.op 13 [] (.op 14 [] (.op 15 [] .nil))))))))))))))))) (.seq (.seq (.reg (.op 0 [] (.op 1 [] .nil))) (.cond (.seq (.reg (.op 0 [] .nil)) .leaf) .leaf)) (.reg (.op 0 [] (.op 1 [] (.op 2 [] (.op 3 [] .nil)))))))) (.reg (.op 0 [] (.op 1 [] (.op 2 [] (.op 3 [] .nil)))))))))) (.seq (.reg (.op 0 [] (.op 1 [] (.op 2 [] (.grp 2 (.op 3 [] (.op 4 [] (.op 5 [] .nil))) 6 (.op 7 [] (.grp 7 (.op 8 [] (.op 9 [] (.op 10 [] .nil))) 11 (.op 12 [] (.grp 12 (.op 13 [] (.op 14 [] (.op 15 [] (.op 16 [] (.op 17 [] .nil))))) 18 (.op 19 [] .nil)))))))))) .leaf))))))))))))))))
/-- lighter/lighterlaw07.InflateFixed -/
def lighterlaw07_InflateFixed.res (l0 : Value) (piece1 : Value) (H0 : Heap) (R : Value → Heap → Prop) : Prop :=
 CallsH Tryd.prog 7 #[] H0 fun x20 H_1 =>
 pNot x20 fun x21 =>
 pCond x21
 (R (.bool false) H_1)
 (pBox H_1 40 (.agg #[(.slice none 0 0), (.int .u64 0), (.int .i64 0)]) fun w5 H_2 =>
 CallsH Tryd.prog 16 #[w5, (.int .u64 3), (.int .i64 3)] H_2 fun x22 H_3 =>
 ∃ (I_4 : Value → Value → Value → Heap → Prop) (m_5 : Value → Value → Value → Heap → Nat), I_4 (.slice none 0 0) (.int .i64 0) (.int .i64 0) H_3 ∧
 ∀ _ : Env, ∀ good6 : Value, ∀ have7 : Value, ∀ i8 : Value, ∀ H_6 : Heap, I_4 good6 have7 i8 H_6 →
 pLen l0 fun x25 =>
 pLt i8 x25 fun x26 =>
 pAnd x26 (fun J_7 =>
 pLt i8 (.int .i64 60) fun x29 =>
 J_7 x29 H_6) H_6 fun x30 H_8 => ∀ _ : Env,
 pCond x30
 (∃ J_9 : Value → Value → Heap → Prop, (∀ _ : Env, ∀ good6' : Value, ∀ have7' : Value, ∀ H_10 : Heap, J_9 good6' have7' H_10 →
 pAdd i8 (.int .i64 1) fun x32 =>
 I_4 good6' have7' x32 H_10 ∧ m_5 good6' have7' x32 H_10 < m_5 good6 have7 i8 H_6) ∧
 pIdxSl 3 l0 i8 fun x35 =>
 pLoadN H_8 3 x35 fun x36 =>
 pBox H_8 44 (.agg #[(.int .u8 0), (.int .i64 0), (.int .i64 0)]) fun t9 H_11 =>
 pStoreN H_11 3 t9 x36 fun _ H_12 =>
 pLoadN H_12 3 t9 fun x37 =>
 CallsH Tryd.prog 17 #[x37] H_12 fun x38 H_13 =>
 pNot x38 fun x39 =>
 pOr x39 (fun J_14 =>
 pFieldAddr 2 t9 fun x41 =>
 pLoad H_13 x41 fun x42 =>
 pGt x42 have7 fun x44 =>
 J_14 x44 H_13) H_13 fun x45 H_15 => ∀ _ : Env,
 pCond x45
 (J_9 good6 have7 H_15)
 (pLoadN H_15 3 t9 fun x47 =>
 pBuildSl H_15 44 1 [(.int .u8 0), (.int .i64 0), (.int .i64 0)] [(0, 3, x47)] fun x48 H_16 =>
 pAppend H_16 44 3 24 [(.int .u8 0), (.int .i64 0), (.int .i64 0)] good6 x48 fun x49 H_17 =>
 pFieldAddr 1 t9 fun x51 =>
 pLoad H_17 x51 fun x52 =>
 pMax x52 (.int .i64 1) fun x53 =>
 pAdd have7 x53 fun x54 =>
 pFieldAddr 1 t9 fun x55 =>
 pLoad H_17 x55 fun x56 =>
 pEq 0 x56 (.int .i64 0) fun x57 =>
 pCond x57
 (pFieldAddr 0 t9 fun x58 =>
 pLoad H_17 x58 fun x59 =>
 pConv .i64 x59 fun x60 =>
 CallsH Tryd.prog 18 #[w5, x60] H_17 fun x61 H_18 =>
 J_9 x49 x54 H_18)
 (∃ J_19 : Value → Heap → Prop, (∀ _ : Env, ∀ x10 : Value, ∀ H_20 : Heap, J_19 x10 H_20 →
 pFieldAddr 0 x10 fun x66 =>
 pLoad H_20 x66 fun x67 =>
 CallsH Tryd.prog 18 #[w5, x67] H_20 fun x68 H_21 =>
 pFieldAddr 1 t9 fun x69 =>
 pLoad H_21 x69 fun x70 =>
 pFieldAddr 1 x10 fun x71 =>
 pLoad H_21 x71 fun x72 =>
 pSub x70 x72 fun x73 =>
 pConv .u64 x73 fun x74 =>
 pFieldAddr 2 x10 fun x75 =>
 pLoad H_21 x75 fun x76 =>
 CallsH Tryd.prog 16 #[w5, x74, x76] H_21 fun x77 H_22 =>
 ∃ J_23 : Value → Heap → Prop, (∀ _ : Env, ∀ y11 : Value, ∀ H_24 : Heap, J_23 y11 H_24 →
 pFieldAddr 0 y11 fun x82 =>
 pLoad H_24 x82 fun x83 =>
 CallsH Tryd.prog 22 #[w5, x83, (.int .i64 5)] H_24 fun x84 H_25 =>
 pFieldAddr 2 t9 fun x85 =>
 pLoad H_25 x85 fun x86 =>
 pFieldAddr 1 y11 fun x87 =>
 pLoad H_25 x87 fun x88 =>
 pSub x86 x88 fun x89 =>
 pConv .u64 x89 fun x90 =>
 pFieldAddr 2 y11 fun x91 =>
 pLoad H_25 x91 fun x92 =>
 CallsH Tryd.prog 16 #[w5, x90, x92] H_25 fun x93 H_26 =>
 J_9 x49 x54 H_26) ∧
 pFieldAddr 2 t9 fun x79 =>
 pLoad H_22 x79 fun x80 =>
 (CallsH Tryd.prog 21 #[] H_22 fun x78 H_27 =>
 (pLoad H_27 x79 fun r_ =>
 r_ = x80) ∧
 (CallsH Tryd.prog 19 #[x78, x80] H_27 fun x81 H_28 =>
 pBox H_28 50 (.agg #[(.int .i64 0), (.int .i64 0), (.int .i64 0)]) fun y11 H_29 =>
 (pLoad H_29 x79 fun r_ =>
 r_ = x80) ∧
 pStoreN H_29 3 y11 x81 fun _ H_30 =>
 J_23 y11 H_30) ∧
 (pBox H_27 50 (.agg #[(.int .i64 0), (.int .i64 0), (.int .i64 0)]) fun y11 H_31 =>
 (pLoad H_31 x79 fun r_ =>
 r_ = x80) ∧
 CallsH Tryd.prog 19 #[x78, x80] H_31 fun x81 H_32 =>
 pStoreN H_32 3 y11 x81 fun _ H_33 =>
 J_23 y11 H_33)) ∧
 (pBox H_22 50 (.agg #[(.int .i64 0), (.int .i64 0), (.int .i64 0)]) fun y11 H_34 =>
 (pLoad H_34 x79 fun r_ =>
 r_ = x80) ∧
 CallsH Tryd.prog 21 #[] H_34 fun x78 H_35 =>
 (pLoad H_35 x79 fun r_ =>
 r_ = x80) ∧
 CallsH Tryd.prog 19 #[x78, x80] H_35 fun x81 H_36 =>
 pStoreN H_36 3 y11 x81 fun _ H_37 =>
 J_23 y11 H_37)) ∧
 pFieldAddr 1 t9 fun x63 =>
 pLoad H_17 x63 fun x64 =>
 (CallsH Tryd.prog 20 #[] H_17 fun x62 H_38 =>
 (pLoad H_38 x63 fun r_ =>
 r_ = x64) ∧
 (CallsH Tryd.prog 19 #[x62, x64] H_38 fun x65 H_39 =>
 pBox H_39 50 (.agg #[(.int .i64 0), (.int .i64 0), (.int .i64 0)]) fun x10 H_40 =>
 (pLoad H_40 x63 fun r_ =>
 r_ = x64) ∧
 pStoreN H_40 3 x10 x65 fun _ H_41 =>
 J_19 x10 H_41) ∧
 (pBox H_38 50 (.agg #[(.int .i64 0), (.int .i64 0), (.int .i64 0)]) fun x10 H_42 =>
 (pLoad H_42 x63 fun r_ =>
 r_ = x64) ∧
 CallsH Tryd.prog 19 #[x62, x64] H_42 fun x65 H_43 =>
 pStoreN H_43 3 x10 x65 fun _ H_44 =>
 J_19 x10 H_44)) ∧
 (pBox H_17 50 (.agg #[(.int .i64 0), (.int .i64 0), (.int .i64 0)]) fun x10 H_45 =>
 (pLoad H_45 x63 fun r_ =>
 r_ = x64) ∧
 CallsH Tryd.prog 20 #[] H_45 fun x62 H_46 =>
 (pLoad H_46 x63 fun r_ =>
 r_ = x64) ∧
 CallsH Tryd.prog 19 #[x62, x64] H_46 fun x65 H_47 =>
 pStoreN H_47 3 x10 x65 fun _ H_48 =>
 J_19 x10 H_48))))
 (CallsH Tryd.prog 18 #[w5, (.int .i64 256)] H_8 fun x94 H_49 =>
 CallsH Tryd.prog 23 #[w5] H_49 fun x95 H_50 =>
 CallsH Tryd.prog 24 #[w5] H_50 fun x96 H_51 =>
 CallsH Tryd.prog 25 #[(str []), good6] H_51 fun x99 H_52 =>
 pExtract 0 x99 fun x100 =>
 pExtract 1 x99 fun x101 =>
 pBits .and piece1 (.int .i64 7) fun x103 =>
 pAdd (.int .i64 1) x103 fun x104 =>
 CallsH Tryd.prog 9 #[] H_52 fun x105 H_53 =>
 ∃ (I_54 : Value → Value → Heap → Prop) (m_55 : Value → Value → Heap → Nat), I_54 (str []) (.int .i64 0) H_53 ∧
 ∀ _ : Env, ∀ got16 : Value, ∀ at17 : Value, ∀ H_56 : Heap, I_54 got16 at17 H_56 →
 pLenS x96 fun x108 =>
 pLt at17 x108 fun x109 =>
 pCond x109
 (pAdd at17 x104 fun x119 =>
 pLenS x96 fun x121 =>
 pMin x119 x121 fun x122 =>
 pSlStr x96 (some at17) (some x122) fun x123 =>
 CallsH Tryd.prog 8 #[x105, x123] H_56 fun x124 H_57 =>
 pExtract 0 x124 fun x125 =>
 pExtract 1 x124 fun x126 =>
 pNe 0 x126 (.int .i64 0) fun x128 =>
 pCond x128
 (R (.bool false) H_57)
 (pAdd got16 x125 fun x131 =>
 pAdd at17 x104 fun x112 =>
 I_54 x131 x112 H_57 ∧ m_55 x131 x112 H_57 < m_55 got16 at17 H_56))
 (CallsH Tryd.prog 11 #[x105] H_56 fun x133 H_58 =>
 pAnd x133 (fun J_59 =>
 pEq 1 got16 x100 fun x137 =>
 J_59 x137 H_58) H_58 fun x138 H_60 => ∀ _ : Env,
 pAnd x138 (fun J_61 =>
 CallsH Tryd.prog 12 #[x105] H_60 fun x141 H_63 =>
 pEq 1 x141 (str []) fun x142 =>
 J_61 x142 H_63) H_60 fun x143 H_62 => ∀ _ : Env,
 pAnd x143 (fun J_64 =>
 CallsH Tryd.prog 13 #[x105] H_62 fun x146 H_66 =>
 pLenS x96 fun x148 =>
 pEq 0 x146 x148 fun x149 =>
 J_64 x149 H_66) H_62 fun x150 H_65 => ∀ _ : Env,
 R x150 H_65)))
set_option maxRecDepth 100000 in
theorem lighterlaw07_InflateFixed.vc (l0 : Value) (piece1 : Value) (H0 : Heap) (R : Value → Heap → Prop) (h : lighterlaw07_InflateFixed.res l0 piece1 H0 R) : CallsH Tryd.prog 5 #[l0, piece1] H0 R := by
  have e : vcFn Tryd.prog Tryd.C Tryd.f5 lighterlaw07_InflateFixed.an [l0, piece1] H0 R = lighterlaw07_InflateFixed.res l0 piece1 H0 R := by kernel_rfl
  exact vcFn_sound Tryd.callable Tryd.mixed Tryd.func5 (by kernel_rfl) (e.mpr h)

def lighterlaw07_InflateCopies.an : Ann := (.seq (.reg (.op 0 [] .nil)) (.seq (.seq (.reg (.op 0 [] (.op 1 [] .nil))) (.cond (.seq (.reg (.op 0 [] .nil)) .leaf) .leaf)) (.seq (.reg (.op 0 [] (.op 1 [] (.op 2 [] (.op 3 [] .nil))))) (.seq (.reg (.op 0 [] (.op 1 [] (.op 2 [] (.op 3 [] (.op 4 [] (.op 5 [] (.op 6 [] (.op 7 [] (.op 8 [] (.op 9 [] (.op 10 [] (.op 11 [] (.op 12 [] (.op 13 [] .nil))))))))))))))) (.seq (.reg (.op 0 [] (.op 1 [] .nil))) (.seq (.reg (.op 0 [] (.op 1 [] (.op 2 [] (.op 3 [] (.op 4 [] (.op 5 [] (.op 6 [] (.op 7 [] (.op 8 [] (.op 9 [] .nil))))))))))) (.seq (.reg (.op 0 [] (.op 1 [] (.op 2 [] .nil)))) (.seq (.reg (.op 0 [] (.op 1 [] (.op 2 [] (.op 3 [] (.op 4 [] (.op 5 [] (.op 6 [] (.op 7 [] (.op 8 [] (.op 9 [] .nil))))))))))) (.seq (.seq (.reg (.op 0 [] (.op 1 [] (.op 2 [] (.op 3 [] (.op 4 [] (.op 5 [] (.grp 5 (.op 6 [] (.op 7 [] (.op 8 [] (.op 9 [] (.op 10 [] (.op 11 [] (.op 12 [] (.op 13 [] .nil)))))))) 14 .nil)))))))) (.cond (.seq (.reg (.op 0 [] .nil)) .leaf) .leaf)) (.seq (.reg (.op 0 [] (.op 1 [] (.op 2 [] (.op 3 [] (.op 4 [] (.op 5 [] (.op 6 [] (.op 7 [] (.op 8 [] (.op 9 [] .nil))))))))))) (.seq (.seq (.reg (.op 0 [] (.op 1 [] (.op 2 [] (.op 3 [] (.grp 3 (.op 4 [] (.op 5 [] (.op 6 [] .nil))) 7 (.op 8 [] (.grp 8 (.op 9 [] (.op 10 [] (.op 11 [] (.op 12 [] (.op 13 [] .nil))))) 14 (.op 15 [] (.grp 15 (.op 16 [] (.op 17 [] (.op 18 [] (.op 19 [] (.op 20 [] .nil))))) 21 (.op 22 [] (.grp 22 (.op 23 [] (.op 24 [] (.op 25 [] (.op 26 [] (.op 27 [] .nil))))) 28 .nil)))))))))))) (.cond (.seq (.reg (.op 0 [] .nil)) .leaf) .leaf)) (.seq (.reg (.op 0 [] .nil)) (.seq (.reg (.op 0 [] (.op 1 [] (.op 2 [] (.grp 2 (.op 3 [] (.op 4 [] (.op 5 [] (.op 6 [] (.grp 6 (.op 7 [] (.op 8 [] .nil)) 9 .nil))))) 10 (.op 11 [] (.grp 11 (.op 12 [] (.op 13 [] (.op 14 [] .nil))) 15 (.op 16 [] (.grp 16 (.op 17 [] (.op 18 [] (.op 19 [] .nil))) 20 (.op 21 [] .nil)))))))))) .leaf)))))))))))))
/-- lighter/lighterlaw07.InflateCopies -/
def lighterlaw07_InflateCopies.res (l0 : Value) (more1 : Value) (cut2 : Value) (H0 : Heap) (R : Value → Heap → Prop) : Prop :=
 CallsH Tryd.prog 7 #[] H0 fun x18 H_1 =>
 pNot x18 fun x19 =>
 pCond x19
 (R (.bool false) H_1)
 (CallsH Tryd.prog 26 #[l0, more1] H_1 fun x22 H_2 =>
 pLenS x22 fun x25 =>
 pAdd x25 (.int .i64 1) fun x26 =>
 pRem cut2 x26 fun x27 =>
 pLenS x22 fun x29 =>
 pAdd x27 x29 fun x30 =>
 pAdd x30 (.int .i64 1) fun x31 =>
 pLenS x22 fun x33 =>
 pAdd x33 (.int .i64 1) fun x34 =>
 pRem x31 x34 fun x35 =>
 CallsH Tryd.prog 9 #[] H_2 fun x36 H_3 =>
 pSlStr x22 none (some x35) fun x41 =>
 CallsH Tryd.prog 8 #[x36, x41] H_3 fun x42 H_4 =>
 pExtract 0 x42 fun x43 =>
 pExtract 1 x42 fun x44 =>
 CallsH Tryd.prog 27 #[x36] H_4 fun x46 H_5 =>
 pSlStr x22 (some x35) none fun x51 =>
 CallsH Tryd.prog 8 #[x46, x51] H_5 fun x52 H_6 =>
 pExtract 0 x52 fun x53 =>
 pExtract 1 x52 fun x54 =>
 CallsH Tryd.prog 28 #[x36] H_6 fun x56 H_7 =>
 pLenS x43 fun x58 =>
 pNe 0 x56 x58 fun x59 =>
 pOr x59 (fun J_8 =>
 CallsH Tryd.prog 28 #[x46] H_7 fun x62 H_10 =>
 pLenS x43 fun x64 =>
 pLenS x53 fun x66 =>
 pAdd x64 x66 fun x67 =>
 pNe 0 x62 x67 fun x68 =>
 J_8 x68 H_10) H_7 fun x69 H_9 => ∀ _ : Env,
 pCond x69
 (R (.bool false) H_9)
 (pSlStr x22 (some x35) none fun x74 =>
 CallsH Tryd.prog 8 #[x36, x74] H_9 fun x75 H_11 =>
 pExtract 0 x75 fun x76 =>
 pExtract 1 x75 fun x77 =>
 pNe 0 x77 x54 fun x80 =>
 pOr x80 (fun J_12 =>
 pNe 1 x76 x53 fun x84 =>
 J_12 x84 H_11) H_11 fun x85 H_13 => ∀ _ : Env,
 pOr x85 (fun J_14 =>
 CallsH Tryd.prog 11 #[x36] H_13 fun x88 H_16 =>
 CallsH Tryd.prog 11 #[x46] H_16 fun x90 H_17 =>
 pNe 2 x88 x90 fun x91 =>
 J_14 x91 H_17) H_13 fun x92 H_15 => ∀ _ : Env,
 pOr x92 (fun J_18 =>
 CallsH Tryd.prog 13 #[x36] H_15 fun x95 H_20 =>
 CallsH Tryd.prog 13 #[x46] H_20 fun x97 H_21 =>
 pNe 0 x95 x97 fun x98 =>
 J_18 x98 H_21) H_15 fun x99 H_19 => ∀ _ : Env,
 pOr x99 (fun J_22 =>
 CallsH Tryd.prog 12 #[x36] H_19 fun x102 H_24 =>
 CallsH Tryd.prog 12 #[x46] H_24 fun x104 H_25 =>
 pNe 1 x102 x104 fun x105 =>
 J_22 x105 H_25) H_19 fun x106 H_23 => ∀ _ : Env,
 pCond x106
 (R (.bool false) H_23)
 (pEq 0 x44 (.int .i64 0) fun x108 =>
 pOr x108 (fun J_26 =>
 pEq 0 x54 x44 fun x112 =>
 pAnd x112 (fun J_28 =>
 pEq 1 x53 (str []) fun x115 =>
 J_28 x115 H_23) H_23 fun x116 H_29 => ∀ _ : Env,
 J_26 x116 H_29) H_23 fun x117 H_27 => ∀ _ : Env,
 pAnd x117 (fun J_30 =>
 CallsH Tryd.prog 27 #[(.pointer none)] H_27 fun x120 H_32 =>
 pEq 3 x120 (.pointer none) fun x121 =>
 J_30 x121 H_32) H_27 fun x122 H_31 => ∀ _ : Env,
 pAnd x122 (fun J_33 =>
 CallsH Tryd.prog 28 #[(.pointer none)] H_31 fun x125 H_35 =>
 pEq 0 x125 (.int .i64 0) fun x126 =>
 J_33 x126 H_35) H_31 fun x127 H_34 => ∀ _ : Env,
 R x127 H_34)))
set_option maxRecDepth 100000 in
theorem lighterlaw07_InflateCopies.vc (l0 : Value) (more1 : Value) (cut2 : Value) (H0 : Heap) (R : Value → Heap → Prop) (h : lighterlaw07_InflateCopies.res l0 more1 cut2 H0 R) : CallsH Tryd.prog 6 #[l0, more1, cut2] H0 R := by
  have e : vcFn Tryd.prog Tryd.C Tryd.f6 lighterlaw07_InflateCopies.an [l0, more1, cut2] H0 R = lighterlaw07_InflateCopies.res l0 more1 cut2 H0 R := by kernel_rfl
  exact vcFn_sound Tryd.callable Tryd.mixed Tryd.func6 (by kernel_rfl) (e.mpr h)

def lighterlaw07_speaks.an : Ann := (.seq (.reg (.op 0 [] .nil)) (.seq (.reg (.op 0 [] (.op 1 [] (.op 2 [] (.op 3 [] (.op 4 [] (.op 5 [] (.op 6 [] (.op 7 [] .nil))))))))) (.seq (.reg (.op 0 [] (.op 1 [] (.op 2 [] (.op 3 [] (.op 4 [] (.op 5 [] (.op 6 [] (.op 7 [] .nil))))))))) (.seq (.reg (.op 0 [] (.op 1 [] (.op 2 [] (.grp 2 (.op 3 [] (.op 4 [] .nil)) 5 (.op 6 [] (.grp 6 (.op 7 [] (.op 8 [] .nil)) 9 (.op 10 [] (.grp 10 (.op 11 [] (.op 12 [] .nil)) 13 (.op 14 [] (.grp 14 (.op 15 [] (.op 16 [] .nil)) 17 (.op 18 [] .nil)))))))))))) .leaf))))
/-- lighter/lighterlaw07.speaks -/
def lighterlaw07_speaks.res (H0 : Heap) (R : Value → Heap → Prop) : Prop :=
 CallsH Tryd.prog 10 #[(str [3, 0, 109, 111, 114, 101])] H0 fun x8 H_1 =>
 pExtract 0 x8 fun x9 =>
 pExtract 1 x8 fun x10 =>
 pExtract 2 x8 fun x11 =>
 CallsH Tryd.prog 10 #[(str [75, 4, 0])] H_1 fun x13 H_2 =>
 pExtract 0 x13 fun x14 =>
 pExtract 1 x13 fun x15 =>
 pExtract 2 x13 fun x16 =>
 pEq 0 x11 (.int .i64 0) fun x18 =>
 pAnd x18 (fun J_3 =>
 pEq 1 x9 (str []) fun x21 =>
 J_3 x21 H_2) H_2 fun x22 H_4 => ∀ _ : Env,
 pAnd x22 (fun J_5 =>
 pEq 1 x10 (str [109, 111, 114, 101]) fun x25 =>
 J_5 x25 H_4) H_4 fun x26 H_6 => ∀ _ : Env,
 pAnd x26 (fun J_7 =>
 pEq 0 x16 (.int .i64 0) fun x29 =>
 J_7 x29 H_6) H_6 fun x30 H_8 => ∀ _ : Env,
 pAnd x30 (fun J_9 =>
 pEq 1 x14 (str [97]) fun x33 =>
 J_9 x33 H_8) H_8 fun x34 H_10 => ∀ _ : Env,
 R x34 H_10
set_option maxRecDepth 100000 in
theorem lighterlaw07_speaks.vc (H0 : Heap) (R : Value → Heap → Prop) (h : lighterlaw07_speaks.res H0 R) : CallsH Tryd.prog 7 #[] H0 R := by
  have e : vcFn Tryd.prog Tryd.C Tryd.f7 lighterlaw07_speaks.an [] H0 R = lighterlaw07_speaks.res H0 R := by kernel_rfl
  exact vcFn_sound Tryd.callable Tryd.mixed Tryd.func7 (by kernel_rfl) (e.mpr h)

def lighterlaw07_same.an : Ann := (.seq (.reg (.op 0 [] .nil)) (.seq (.reg (.op 0 [] (.op 1 [] (.op 2 [] (.op 3 [] (.op 4 [] (.op 5 [] (.op 6 [] (.op 7 [] (.op 8 [] .nil)))))))))) (.seq (.reg (.op 0 [] (.op 1 [] .nil))) (.seq (.reg (.op 0 [] .nil)) (.seq (.seq (.reg (.op 0 [] .nil)) (.block (.loop [9, 10] [4, 9, 10, 11, 12, 13, 14, 23, 24, 25, 26, 27, 28, 29, 30, 31, 32, 33, 34, 35, 36, 37, 38, 39, 40, 41, 42, 43, 44, 45, 46, 47, 48, 49, 50, 51, 52, 53, 54, 55, 56, 57, 58, 59, 60, 61, 62, 63, 64, 65, 66, 67, 68, 69, 70, 71] (.seq (.seq (.reg (.op 0 [] (.op 1 [] (.op 2 [] (.op 3 [] .nil))))) (.cond .leaf .leaf)) (.seq (.block (.seq (.reg (.op 0 [] (.op 1 [] (.op 2 [] (.op 3 [] (.op 4 [] (.op 5 [] (.op 6 [] (.op 7 [] (.op 8 [] (.op 9 [] (.op 10 [] (.op 11 [] (.op 12 [] (.op 13 [] (.op 14 [] (.op 15 [] .nil))))))))))))))))) (.seq (.reg (.op 0 [] (.op 1 [] (.op 2 [] (.op 3 [] .nil))))) (.seq (.reg (.op 0 [] (.op 1 [] .nil))) (.cond (.seq (.reg (.op 0 [] (.op 1 [] (.op 2 [] (.op 3 [] (.op 4 [] (.op 5 [] (.op 6 [] .nil)))))))) (.seq (.reg (.op 0 [] (.op 1 [] (.op 2 [] (.op 3 [] (.grp 3 (.op 4 [] (.op 5 [] (.op 6 [] .nil))) 7 (.op 8 [] (.grp 8 (.op 9 [] (.op 10 [] (.op 11 [] .nil))) 12 (.op 13 [] (.grp 13 (.op 14 [] (.op 15 [] (.op 16 [] .nil))) 17 (.op 18 [] .nil))))))))))) .leaf)) .leaf))))) (.reg (.op 0 [] (.op 1 [] (.op 2 [] (.op 3 [] .nil)))))))))) (.seq (.seq (.reg (.op 0 [] (.op 1 [] .nil))) (.cond (.seq (.reg (.op 0 [] (.op 1 [] (.op 2 [] (.op 3 [] (.grp 3 (.op 4 [] (.op 5 [] (.op 6 [] .nil))) 7 (.op 8 [] (.grp 8 (.op 9 [] (.op 10 [] (.op 11 [] .nil))) 12 (.op 13 [] (.grp 13 (.op 14 [] (.op 15 [] (.op 16 [] .nil))) 17 (.op 18 [] .nil))))))))))) .leaf) .leaf)) (.seq (.reg (.op 0 [] (.op 1 [] (.op 2 [] (.op 3 [] .nil))))) (.seq (.drw [0, 1, 3, 7, 7, 31, 63, 127, 255, 511, 1023, 2047, 4095, 8191, 4095, 32767, 65535, 131071, 262143, 524287, 262143, 262143, 3407871, 8388607, 16777215, 33554431] (.op 0 [] (.op 1 [] (.op 2 [] (.grp 2 (.op 3 [] (.op 4 [] (.op 5 [] .nil))) 6 (.op 7 [] (.grp 7 (.op 8 [] (.op 9 [] .nil)) 10 (.op 11 [] (.grp 11 (.op 12 [] (.op 14 [] (.op 13 [] (.op 15 [] .nil)))) 16 (.op 17 [] (.grp 17 (.op 18 [] (.op 20 [] (.op 21 [] (.op 22 [] (.op 19 [] (.op 23 [] .nil)))))) 24 (.op 25 [] .nil)))))))))))) .leaf))))))))
/-- lighter/lighterlaw07.same -/
def lighterlaw07_same.res (s0 : Value) (piece1 : Value) (H0 : Heap) (R : Value → Heap → Prop) : Prop :=
 CallsH Tryd.prog 35 #[s0] H0 fun x18 H_1 =>
 pExtract 0 x18 fun x19 =>
 pExtract 1 x18 fun x20 =>
 pExtract 2 x18 fun x21 =>
 CallsH Tryd.prog 9 #[] H_1 fun x22 H_2 =>
 ∃ (I_3 : Value → Value → Heap → Prop) (m_4 : Value → Value → Heap → Nat), I_3 (str []) (.int .i64 0) H_2 ∧
 ∀ _ : Env, ∀ got9 : Value, ∀ at10 : Value, ∀ H_5 : Heap, I_3 got9 at10 H_5 →
 pLenS s0 fun x25 =>
 pLt at10 x25 fun x26 =>
 pCond x26
 (pAdd at10 piece1 fun x36 =>
 pLenS s0 fun x38 =>
 pMin x36 x38 fun x39 =>
 pSlStr s0 (some at10) (some x39) fun x40 =>
 CallsH Tryd.prog 8 #[x22, x40] H_5 fun x41 H_6 =>
 pExtract 0 x41 fun x42 =>
 pExtract 1 x41 fun x43 =>
 pAdd got9 x42 fun x46 =>
 pNe 0 x43 (.int .i64 0) fun x48 =>
 pCond x48
 (CallsH Tryd.prog 8 #[x22, (str [120])] H_6 fun x51 H_7 =>
 pExtract 0 x51 fun x52 =>
 pExtract 1 x51 fun x53 =>
 pEq 0 x43 x21 fun x56 =>
 pAnd x56 (fun J_8 =>
 pEq 1 x46 x19 fun x60 =>
 J_8 x60 H_7) H_7 fun x61 H_9 => ∀ _ : Env,
 pAnd x61 (fun J_10 =>
 pEq 0 x53 x43 fun x65 =>
 J_10 x65 H_9) H_9 fun x66 H_11 => ∀ _ : Env,
 pAnd x66 (fun J_12 =>
 CallsH Tryd.prog 11 #[x22] H_11 fun x69 H_14 =>
 pNot x69 fun x70 =>
 J_12 x70 H_14) H_11 fun x71 H_13 => ∀ _ : Env,
 R x71 H_13)
 (pAdd at10 piece1 fun x29 =>
 I_3 x46 x29 H_6 ∧ m_4 x46 x29 H_6 < m_4 got9 at10 H_5))
 (pEq 0 x21 (.int .i64 2) fun x73 =>
 pCond x73
 (pEq 1 got9 x19 fun x76 =>
 pAnd x76 (fun J_15 =>
 CallsH Tryd.prog 11 #[x22] H_5 fun x79 H_17 =>
 pNot x79 fun x80 =>
 J_15 x80 H_17) H_5 fun x81 H_16 => ∀ _ : Env,
 pAnd x81 (fun J_18 =>
 CallsH Tryd.prog 12 #[x22] H_16 fun x84 H_20 =>
 pEq 1 x84 (str []) fun x85 =>
 J_18 x85 H_20) H_16 fun x86 H_19 => ∀ _ : Env,
 pAnd x86 (fun J_21 =>
 CallsH Tryd.prog 13 #[x22] H_19 fun x89 H_23 =>
 pEq 0 x89 (.int .i64 0) fun x90 =>
 J_21 x90 H_23) H_19 fun x91 H_22 => ∀ _ : Env,
 R x91 H_22)
 (pAdd x20 (.int .i64 7) fun x93 =>
 pQuo x93 (.int .i64 8) fun x94 =>
 pEq 0 x21 (.int .i64 0) fun x96 =>
 pAnd x96 (fun J_24 =>
 pEq 1 got9 x19 fun x100 =>
 J_24 x100 H_5) H_5 fun x101 H_25 => ∀ _ : Env,
 pAnd x101 (fun J_26 =>
 CallsH Tryd.prog 11 #[x22] H_25 fun x104 H_28 =>
 J_26 x104 H_28) H_25 fun x105 H_27 => ∀ _ : Env,
 pAnd x105 (fun J_29 =>
 CallsH Tryd.prog 13 #[x22] H_27 fun x108 H_31 =>
 pEq 0 x108 x94 fun x110 =>
 J_29 x110 H_31) H_27 fun x111 H_30 => ∀ _ : Env,
 pAnd x111 (fun J_32 =>
 pSlStr s0 (some x94) none fun x117 =>
 CallsH Tryd.prog 12 #[x22] H_30 fun x114 H_34 =>
 pEq 1 x114 x117 fun x118 =>
 J_32 x118 H_34) H_30 fun x119 H_33 => ∀ _ : Env,
 R x119 H_33))
set_option maxRecDepth 100000 in
theorem lighterlaw07_same.vc (s0 : Value) (piece1 : Value) (H0 : Heap) (R : Value → Heap → Prop) (h : lighterlaw07_same.res s0 piece1 H0 R) : CallsH Tryd.prog 15 #[s0, piece1] H0 R := by
  have e : vcFn Tryd.prog Tryd.C Tryd.f15 lighterlaw07_same.an [s0, piece1] H0 R = lighterlaw07_same.res s0 piece1 H0 R := by kernel_rfl
  exact vcFn_sound Tryd.callable Tryd.mixed Tryd.func15 (by kernel_rfl) (e.mpr h)

def lighterlaw07_symbol.an : Ann := (.block (.seq (.reg (.op 0 [] (.op 1 [] (.op 2 [] .nil)))) (.cond (.reg (.op 0 [] (.op 1 [] (.op 2 [] (.op 3 [] .nil))))) (.seq (.reg (.op 0 [] (.op 1 [] (.op 2 [] .nil)))) (.cond (.reg (.op 0 [] (.op 1 [] (.op 2 [] (.op 3 [] (.op 4 [] .nil)))))) (.seq (.reg (.op 0 [] (.op 1 [] (.op 2 [] .nil)))) (.cond (.reg (.op 0 [] (.op 1 [] (.op 2 [] (.op 3 [] .nil))))) (.reg (.op 0 [] (.op 1 [] (.op 2 [] (.op 3 [] (.op 4 [] .nil)))))))))))))
/-- lighter/lighterlaw07.symbol -/
def lighterlaw07_symbol.res (w0 : Value) (s1 : Value) (H0 : Heap) (R : Value → Heap → Prop) : Prop :=
 pLt s1 (.int .i64 144) fun x11 =>
 pCond x11
 (pAdd (.int .i64 48) s1 fun x14 =>
 CallsH Tryd.prog 22 #[w0, x14, (.int .i64 8)] H0 fun x15 H_1 =>
 R (.tuple #[]) H_1)
 (pLt s1 (.int .i64 256) fun x18 =>
 pCond x18
 (pAdd (.int .i64 400) s1 fun x21 =>
 pSub x21 (.int .i64 144) fun x22 =>
 CallsH Tryd.prog 22 #[w0, x22, (.int .i64 9)] H0 fun x23 H_2 =>
 R (.tuple #[]) H_2)
 (pLt s1 (.int .i64 280) fun x26 =>
 pCond x26
 (pSub s1 (.int .i64 256) fun x29 =>
 CallsH Tryd.prog 22 #[w0, x29, (.int .i64 7)] H0 fun x30 H_3 =>
 R (.tuple #[]) H_3)
 (pAdd (.int .i64 192) s1 fun x6 =>
 pSub x6 (.int .i64 280) fun x7 =>
 CallsH Tryd.prog 22 #[w0, x7, (.int .i64 8)] H0 fun x8 H_4 =>
 R (.tuple #[]) H_4)))
set_option maxRecDepth 100000 in
theorem lighterlaw07_symbol.vc (w0 : Value) (s1 : Value) (H0 : Heap) (R : Value → Heap → Prop) (h : lighterlaw07_symbol.res w0 s1 H0 R) : CallsH Tryd.prog 18 #[w0, s1] H0 R := by
  have e : vcFn Tryd.prog Tryd.C Tryd.f18 lighterlaw07_symbol.an [w0, s1] H0 R = lighterlaw07_symbol.res w0 s1 H0 R := by kernel_rfl
  exact vcFn_sound Tryd.callable Tryd.mixed Tryd.func18 (by kernel_rfl) (e.mpr h)

def lighterlaw07_high.an : Ann := (.seq (.reg (.op 0 [] (.op 1 [] (.op 2 [] .nil)))) (.block (.loop [6] [6, 9, 10, 11, 12, 13, 14, 15, 16, 17, 18] (.seq (.seq (.reg (.op 0 [] (.op 1 [] .nil))) (.cond .leaf .leaf)) (.seq (.block (.reg (.op 0 [] (.op 1 [] (.op 2 [] (.op 3 [] (.op 4 [] (.op 5 [] .nil)))))))) (.reg (.op 0 [] (.op 1 [] (.op 2 [] .nil)))))))))
/-- lighter/lighterlaw07.high -/
def lighterlaw07_high.res (w0 : Value) (v1 : Value) (n2 : Value) (H0 : Heap) (R : Value → Heap → Prop) : Prop :=
 pSub n2 (.int .i64 1) fun x8 =>
 ∃ (I_1 : Value → Heap → Prop) (m_2 : Value → Heap → Nat), I_1 x8 H0 ∧
 ∀ _ : Env, ∀ i6 : Value, ∀ H_3 : Heap, I_1 i6 H_3 →
 pGe i6 (.int .i64 0) fun x10 =>
 pCond x10
 (pShr v1 i6 fun x16 =>
 pConv .u64 x16 fun x17 =>
 CallsH Tryd.prog 16 #[w0, x17, (.int .i64 1)] H_3 fun x18 H_4 =>
 pSub i6 (.int .i64 1) fun x12 =>
 I_1 x12 H_4 ∧ m_2 x12 H_4 < m_2 i6 H_3)
 (R (.tuple #[]) H_3)
set_option maxRecDepth 100000 in
theorem lighterlaw07_high.vc (w0 : Value) (v1 : Value) (n2 : Value) (H0 : Heap) (R : Value → Heap → Prop) (h : lighterlaw07_high.res w0 v1 n2 H0 R) : CallsH Tryd.prog 22 #[w0, v1, n2] H0 R := by
  have e : vcFn Tryd.prog Tryd.C Tryd.f22 lighterlaw07_high.an [w0, v1, n2] H0 R = lighterlaw07_high.res w0 v1 n2 H0 R := by kernel_rfl
  exact vcFn_sound Tryd.callable Tryd.mixed Tryd.func22 (by kernel_rfl) (e.mpr h)

def lighterlaw07_stream.an : Ann := (.seq (.reg (.op 0 [] .nil)) (.seq (.reg (.op 0 [] .nil)) (.seq (.seq (.reg (.op 0 [] .nil)) (.block (.loop [6] [6, 7, 8, 9, 10, 11, 12, 13, 14, 15, 16, 17, 18, 19, 20, 21, 22, 23, 24, 25, 26, 27, 28, 29] (.seq (.seq (.reg (.op 0 [] (.op 1 [] (.op 2 [] (.op 3 [] (.op 4 [] (.grp 4 (.op 5 [] (.op 6 [] .nil)) 7 .nil))))))) (.cond .leaf .leaf)) (.seq (.block (.drw [0, 0, 3, 7, 15, 0, 0, 96, 224, 480, 992, 2016, 4095] (.op 0 [] (.op 1 [] (.op 2 [] (.op 3 [] (.op 4 [] (.op 5 [] (.op 6 [] (.op 7 [] (.op 8 [] (.op 9 [] (.op 10 [] (.op 11 [] (.op 12 [] .nil))))))))))))))) (.reg (.op 0 [] (.op 1 [] (.op 2 [] .nil))))))))) (.seq (.reg (.op 0 [] .nil)) (.seq (.reg (.op 0 [] (.op 1 [] (.op 2 [] (.op 3 [] (.op 4 [] (.op 5 [] .nil))))))) (.seq (.reg (.op 0 [] (.op 1 [] .nil))) .leaf))))))
/-- lighter/lighterlaw07.stream -/
def lighterlaw07_stream.res (l0 : Value) (more1 : Value) (H0 : Heap) (R : Value → Heap → Prop) : Prop :=
 pBox H0 40 (.agg #[(.slice none 0 0), (.int .u64 0), (.int .i64 0)]) fun w5 H_1 =>
 ∃ (I_2 : Value → Heap → Prop) (m_3 : Value → Heap → Nat), I_2 (.int .i64 0) H_1 ∧
 ∀ _ : Env, ∀ i6 : Value, ∀ H_4 : Heap, I_2 i6 H_4 →
 pLen l0 fun x9 =>
 pLt i6 x9 fun x10 =>
 pAnd x10 (fun J_5 =>
 pLt i6 (.int .i64 150) fun x13 =>
 J_5 x13 H_4) H_4 fun x14 H_6 => ∀ _ : Env,
 pCond x14
 (pIdxSl 2 l0 i6 fun x19 =>
 pFieldAddr 0 x19 fun x20 =>
 pLoad H_6 x20 fun x21 =>
 pIdxSl 2 l0 i6 fun x24 =>
 pFieldAddr 1 x24 fun x25 =>
 pLoad H_6 x25 fun x26 =>
 pBits .and x26 (.int .i64 31) fun x27 =>
 pAdd (.int .i64 1) x27 fun x28 =>
 CallsH Tryd.prog 16 #[w5, x21, x28] H_6 fun x29 H_7 =>
 pAdd i6 (.int .i64 1) fun x16 =>
 I_2 x16 H_7 ∧ m_3 x16 H_7 < m_3 i6 H_4)
 (CallsH Tryd.prog 23 #[w5] H_6 fun x30 H_8 =>
 pLenS more1 fun x33 =>
 pMin x33 (.int .i64 40) fun x34 =>
 pSlStr more1 none (some x34) fun x35 =>
 CallsH Tryd.prog 37 #[w5, x35] H_8 fun x36 H_9 =>
 CallsH Tryd.prog 24 #[w5] H_9 fun x37 H_10 =>
 R x37 H_10)
set_option maxRecDepth 100000 in
theorem lighterlaw07_stream.vc (l0 : Value) (more1 : Value) (H0 : Heap) (R : Value → Heap → Prop) (h : lighterlaw07_stream.res l0 more1 H0 R) : CallsH Tryd.prog 26 #[l0, more1] H0 R := by
  have e : vcFn Tryd.prog Tryd.C Tryd.f26 lighterlaw07_stream.an [l0, more1] H0 R = lighterlaw07_stream.res l0 more1 H0 R := by kernel_rfl
  exact vcFn_sound Tryd.callable Tryd.mixed Tryd.func26 (by kernel_rfl) (e.mpr h)

def inflate_Decoder_Feed.an : Ann := (.seq (.reg (.op 0 [] (.op 1 [] .nil))) (.seq (.seq (.reg (.op 0 [] (.op 1 [] .nil))) (.cond (.seq (.reg (.op 0 [] (.op 1 [] .nil))) .leaf) .leaf)) (.seq (.seq (.reg (.op 0 [] (.op 1 [] (.op 2 [] (.op 3 [] (.op 4 [] .nil)))))) (.cond (.seq (.drw [0, 1, 3, 7, 0, 31] (.op 0 [] (.op 1 [] (.op 2 [] (.op 3 [] (.op 4 [] (.op 5 [] .nil))))))) .leaf) .leaf)) (.seq (.reg (.op 0 [] (.op 1 [] (.op 2 [] (.op 3 [] (.op 4 [] .nil)))))) (.seq (.reg (.op 0 [] (.op 1 [] (.op 2 [] (.op 3 [] (.op 4 [] (.op 5 [] (.op 6 [] (.op 7 [] (.op 8 [] (.op 9 [] .nil))))))))))) (.seq (.reg (.op 0 [] (.op 1 [] (.op 2 [] (.op 3 [] .nil))))) (.cut [] [4, 5, 6, 36, 37, 38, 39, 40, 41, 42, 43, 44, 45, 46, 47, 48, 49, 50, 51, 52, 53, 54, 55] (.block (.loop [] [4, 5, 6, 36, 37, 38, 39, 40, 41, 42, 43, 44, 45, 46, 47, 48, 49, 50, 51, 52, 53, 54, 55] (.seq (.seq (.reg (.op 0 [] (.op 1 [] (.op 2 [] (.op 3 [] (.op 4 [] .nil)))))) (.cond .leaf .leaf)) (.block (.seq (.reg (.op 0 [] (.op 1 [] (.op 2 [] .nil)))) (.seq (.seq (.reg (.op 0 [] (.op 1 [] .nil))) (.cond .leaf .leaf)) (.seq (.reg (.op 0 [] (.op 1 [] .nil))) (.cond (.seq (.reg (.op 0 [] (.op 1 [] (.op 2 [] (.op 3 [] (.op 4 [] .nil)))))) (.seq (.reg (.op 0 [] (.op 1 [] (.op 2 [] (.op 3 [] (.op 4 [] (.op 5 [] (.op 6 [] .nil)))))))) .leaf)) .leaf)))))))) (.seq (.reg (.op 0 [] (.op 1 [] (.op 2 [] (.op 3 [] (.op 4 [] (.op 5 [] .nil))))))) .leaf))))))))
/-- (*lighter/inflate.Decoder).Feed -/
def inflate_Decoder_Feed.res (d0 : Value) (s1 : Value) (H0 : Heap) (R : Value → Heap → Prop) : Prop :=
 pEq 3 d0 (.pointer none) fun x8 =>
 pCond x8
 (R (.tuple #[(str []), (.int .i64 1)]) H0)
 (pNil d0 fun x10 =>
 pFieldAddr 13 x10 fun x11 =>
 pLoad H0 x11 fun x12 =>
 pNe 0 x12 (.int .i64 0) fun x13 =>
 pCond x13
 (pNil d0 fun x15 =>
 pFieldAddr 13 x15 fun x16 =>
 pLoad H0 x16 fun x17 =>
 R (.tuple #[(str []), x17]) H0)
 (pNil d0 fun x19 =>
 pFieldAddr 0 x19 fun x20 =>
 CallsH Tryd.prog 29 #[x20, s1] H0 fun x22 H_1 =>
 pNil d0 fun x24 =>
 pFieldAddr 12 x24 fun x25 =>
 pLoad H_1 x25 fun x26 =>
 pLenS s1 fun x28 =>
 pAdd x26 x28 fun x29 =>
 pNil d0 fun x30 =>
 pFieldAddr 12 x30 fun x31 =>
 pStore H_1 x31 x29 fun _ H_2 =>
 pNil d0 fun x33 =>
 pFieldAddr 5 x33 fun x34 =>
 CallsH Tryd.prog 30 #[x34] H_2 fun x35 H_3 =>
 ∃ J_4 : Heap → Prop, (∀ _ : Env, ∀ H_5 : Heap, J_4 H_5 →
 pNil d0 fun x57 =>
 pFieldAddr 5 x57 fun x58 =>
 CallsH Tryd.prog 32 #[x58] H_5 fun x59 H_6 =>
 R (.tuple #[x59, (.int .i64 0)]) H_6) ∧
 ∃ (I_7 : Heap → Prop) (m_8 : Heap → Nat), I_7 H_3 ∧
 ∀ _ : Env, ∀ H_9 : Heap, I_7 H_9 →
 pNil d0 fun x37 =>
 pFieldAddr 7 x37 fun x38 =>
 pLoad H_9 x38 fun x39 =>
 pNe 0 x39 (.int .i64 3) fun x40 =>
 pCond x40
 (CallsH Tryd.prog 31 #[d0] H_9 fun x42 H_10 =>
 pEq 0 x42 (.int .i64 2) fun x44 =>
 pCond x44
 (J_4 H_10)
 (pNe 0 x42 (.int .i64 0) fun x46 =>
 pCond x46
 (pNil d0 fun x49 =>
 pFieldAddr 13 x49 fun x50 =>
 pStore H_10 x50 x42 fun _ H_11 =>
 pNil d0 fun x52 =>
 pFieldAddr 5 x52 fun x53 =>
 CallsH Tryd.prog 32 #[x53] H_11 fun x54 H_12 =>
 R (.tuple #[x54, x42]) H_12)
 (I_7 H_10 ∧ m_8 H_10 < m_8 H_9)))
 (J_4 H_9)))
set_option maxRecDepth 100000 in
theorem inflate_Decoder_Feed.vc (d0 : Value) (s1 : Value) (H0 : Heap) (R : Value → Heap → Prop) (h : inflate_Decoder_Feed.res d0 s1 H0 R) : CallsH Tryd.prog 8 #[d0, s1] H0 R := by
  have e : vcFn Tryd.prog Tryd.C Tryd.f8 inflate_Decoder_Feed.an [d0, s1] H0 R = inflate_Decoder_Feed.res d0 s1 H0 R := by kernel_rfl
  exact vcFn_sound Tryd.callable Tryd.mixed Tryd.func8 (by kernel_rfl) (e.mpr h)

def inflate_New.an : Ann := (.seq (.reg (.op 0 [] .nil)) (.seq (.reg (.op 0 [] (.op 1 [] (.op 2 [] .nil)))) .leaf))
/-- lighter/inflate.New -/
def inflate_New.res (H0 : Heap) (R : Value → Heap → Prop) : Prop :=
 pBuild [(str []), (.int .u64 0), (.int .i64 0), (.slice none 0 0), (.int .i64 0), (.pointer none), (.slice none 0 0), (.int .i64 0), (.bool false), (.int .i64 0), (.pointer none), (.pointer none), (.int .i64 0), (.int .i64 0)] [] fun x1 =>
 pBox H0 71 x1 fun x2 H_1 =>
 R x2 H_1
set_option maxRecDepth 100000 in
theorem inflate_New.vc (H0 : Heap) (R : Value → Heap → Prop) (h : inflate_New.res H0 R) : CallsH Tryd.prog 9 #[] H0 R := by
  have e : vcFn Tryd.prog Tryd.C Tryd.f9 inflate_New.an [] H0 R = inflate_New.res H0 R := by kernel_rfl
  exact vcFn_sound Tryd.callable Tryd.mixed Tryd.func9 (by kernel_rfl) (e.mpr h)

def inflate_All.an : Ann := (.seq (.reg (.op 0 [] (.op 1 [] (.op 2 [] .nil)))) (.seq (.reg (.op 0 [] (.op 1 [] .nil))) (.seq (.reg (.op 0 [] (.op 1 [] (.op 2 [] (.op 3 [] (.op 4 [] (.op 5 [] (.op 6 [] (.op 7 [] .nil))))))))) (.seq (.block (.seq (.reg (.op 0 [] (.op 1 [] (.op 2 [] .nil)))) (.cond (.seq (.reg (.op 0 [] (.op 1 [] (.op 2 [] (.op 3 [] .nil))))) .leaf) (.seq (.reg (.op 0 [] (.op 1 [] (.op 2 [] (.op 3 [] .nil))))) (.cond (.seq (.reg (.op 0 [] (.op 1 [] (.op 2 [] .nil)))) .leaf) .leaf))))) (.seq (.reg (.op 0 [] (.op 1 [] (.op 2 [] (.op 3 [] (.op 4 [] (.op 5 [] .nil))))))) .leaf)))))
/-- lighter/inflate.All -/
def inflate_All.res (s0 : Value) (H0 : Heap) (R : Value → Heap → Prop) : Prop :=
 CallsH Tryd.prog 9 #[] H0 fun x8 H_1 =>
 CallsH Tryd.prog 8 #[x8, s0] H_1 fun x12 H_2 =>
 pExtract 0 x12 fun x13 =>
 pExtract 1 x12 fun x14 =>
 pNe 0 x14 (.int .i64 0) fun x17 =>
 pCond x17
 (R (.tuple #[(str []), (str []), x14]) H_2)
 (CallsH Tryd.prog 11 #[x8] H_2 fun x21 H_3 =>
 pNot x21 fun x22 =>
 pCond x22
 (R (.tuple #[(str []), (str []), (.int .i64 2)]) H_3)
 (CallsH Tryd.prog 12 #[x8] H_3 fun x25 H_4 =>
 R (.tuple #[x13, x25, (.int .i64 0)]) H_4))
set_option maxRecDepth 100000 in
theorem inflate_All.vc (s0 : Value) (H0 : Heap) (R : Value → Heap → Prop) (h : inflate_All.res s0 H0 R) : CallsH Tryd.prog 10 #[s0] H0 R := by
  have e : vcFn Tryd.prog Tryd.C Tryd.f10 inflate_All.an [s0] H0 R = inflate_All.res s0 H0 R := by kernel_rfl
  exact vcFn_sound Tryd.callable Tryd.mixed Tryd.func10 (by kernel_rfl) (e.mpr h)

def inflate_Decoder_Done.an : Ann := (.seq (.reg (.op 0 [] .nil)) (.seq (.reg (.op 0 [] (.op 1 [] (.op 2 [] (.grp 2 (.op 3 [] (.op 4 [] (.op 5 [] (.op 6 [] (.op 7 [] .nil))))) 8 (.op 9 [] .nil)))))) .leaf))
/-- (*lighter/inflate.Decoder).Done -/
def inflate_Decoder_Done.res (d0 : Value) (H0 : Heap) (R : Value → Heap → Prop) : Prop :=
 pNe 3 d0 (.pointer none) fun x4 =>
 pAnd x4 (fun J_1 =>
 pNil d0 fun x7 =>
 pFieldAddr 7 x7 fun x8 =>
 pLoad H0 x8 fun x9 =>
 pEq 0 x9 (.int .i64 3) fun x10 =>
 J_1 x10 H0) H0 fun x11 H_2 => ∀ _ : Env,
 R x11 H_2
set_option maxRecDepth 100000 in
theorem inflate_Decoder_Done.vc (d0 : Value) (H0 : Heap) (R : Value → Heap → Prop) (h : inflate_Decoder_Done.res d0 H0 R) : CallsH Tryd.prog 11 #[d0] H0 R := by
  have e : vcFn Tryd.prog Tryd.C Tryd.f11 inflate_Decoder_Done.an [d0] H0 R = inflate_Decoder_Done.res d0 H0 R := by kernel_rfl
  exact vcFn_sound Tryd.callable Tryd.mixed Tryd.func11 (by kernel_rfl) (e.mpr h)

def inflate_Decoder_Rest.an : Ann := (.seq (.reg (.op 0 [] .nil)) (.seq (.seq (.reg (.op 0 [] (.op 1 [] (.op 2 [] .nil)))) (.cond (.seq (.reg (.op 0 [] .nil)) .leaf) .leaf)) (.seq (.reg (.op 0 [] (.op 1 [] (.op 2 [] (.op 3 [] (.op 4 [] (.op 5 [] .nil))))))) (.seq (.reg (.op 0 [] (.op 1 [] (.op 2 [] (.op 3 [] .nil))))) .leaf))))
/-- (*lighter/inflate.Decoder).Rest -/
def inflate_Decoder_Rest.res (d0 : Value) (H0 : Heap) (R : Value → Heap → Prop) : Prop :=
 CallsH Tryd.prog 11 #[d0] H0 fun x5 H_1 =>
 pNot x5 fun x6 =>
 pCond x6
 (R (str []) H_1)
 (pNil d0 fun x8 =>
 pFieldAddr 0 x8 fun x9 =>
 pLoadN H_1 3 x9 fun x10 =>
 pBox H_1 62 (.agg #[(str []), (.int .u64 0), (.int .i64 0)]) fun r3 H_2 =>
 pStoreN H_2 3 r3 x10 fun _ H_3 =>
 CallsH Tryd.prog 34 #[r3] H_3 fun x11 H_4 =>
 pQuo x11 (.int .i64 8) fun x12 =>
 CallsH Tryd.prog 33 #[r3, x12] H_4 fun x13 H_5 =>
 R x13 H_5)
set_option maxRecDepth 100000 in
theorem inflate_Decoder_Rest.vc (d0 : Value) (H0 : Heap) (R : Value → Heap → Prop) (h : inflate_Decoder_Rest.res d0 H0 R) : CallsH Tryd.prog 12 #[d0] H0 R := by
  have e : vcFn Tryd.prog Tryd.C Tryd.f12 inflate_Decoder_Rest.an [d0] H0 R = inflate_Decoder_Rest.res d0 H0 R := by kernel_rfl
  exact vcFn_sound Tryd.callable Tryd.mixed Tryd.func12 (by kernel_rfl) (e.mpr h)

def inflate_Decoder_Used.an : Ann := (.seq (.reg (.op 0 [] .nil)) (.seq (.seq (.reg (.op 0 [] (.op 1 [] (.op 2 [] .nil)))) (.cond (.seq (.reg (.op 0 [] .nil)) .leaf) .leaf)) (.seq (.drw [0, 1, 3, 7, 0, 16, 48, 127, 255] (.op 0 [] (.op 1 [] (.op 2 [] (.op 3 [] (.op 4 [] (.op 5 [3] (.op 6 [] (.op 7 [] (.op 8 [] .nil)))))))))) .leaf)))
/-- (*lighter/inflate.Decoder).Used -/
def inflate_Decoder_Used.res (d0 : Value) (H0 : Heap) (R : Value → Heap → Prop) : Prop :=
 CallsH Tryd.prog 11 #[d0] H0 fun x4 H_1 =>
 pNot x4 fun x5 =>
 pCond x5
 (R (.int .i64 0) H_1)
 (pNil d0 fun x7 =>
 pFieldAddr 12 x7 fun x8 =>
 pLoad H_1 x8 fun x9 =>
 CallsH Tryd.prog 12 #[d0] H_1 fun x11 H_2 =>
 (pLoad H_2 x8 fun r_ =>
 r_ = x9) ∧
 pLenS x11 fun x12 =>
 pSub x9 x12 fun x13 =>
 R x13 H_2)
set_option maxRecDepth 100000 in
theorem inflate_Decoder_Used.vc (d0 : Value) (H0 : Heap) (R : Value → Heap → Prop) (h : inflate_Decoder_Used.res d0 H0 R) : CallsH Tryd.prog 13 #[d0] H0 R := by
  have e : vcFn Tryd.prog Tryd.C Tryd.f13 inflate_Decoder_Used.an [d0] H0 R = inflate_Decoder_Used.res d0 H0 R := by kernel_rfl
  exact vcFn_sound Tryd.callable Tryd.mixed Tryd.func13 (by kernel_rfl) (e.mpr h)

def inflate_Decoder_Copy.an : Ann := (.seq (.reg (.op 0 [] .nil)) (.seq (.seq (.reg (.op 0 [] (.op 1 [] .nil))) (.cond (.seq (.reg (.op 0 [] .nil)) .leaf) .leaf)) (.seq (.drw [0, 1, 3, 7, 0, 16, 48, 112, 240, 496, 0, 1024, 3072, 7168, 0, 16384, 49152, 114688, 0, 262144, 786432, 1835008, 0, 4194304, 12582912, 29360128, 0, 67108864, 201326592, 469762048, 0, 1073741824, 3221225472, 7516192768, 0, 17179869184, 51539607552, 120259084288, 274877906943, 549755813887, 1099511627775] (.op 0 [] (.op 1 [] (.op 2 [] (.op 3 [] (.op 4 [] (.op 5 [] (.op 6 [] (.op 10 [] (.op 11 [] (.op 12 [] (.op 13 [] (.op 14 [] (.op 15 [] (.op 16 [] (.op 17 [] (.op 18 [] (.op 19 [] (.op 20 [] (.op 21 [] (.op 22 [] (.op 23 [] (.op 24 [] (.op 25 [] (.op 26 [] (.op 27 [] (.op 28 [] (.op 29 [] (.op 30 [] (.op 31 [] (.op 32 [] (.op 33 [] (.op 34 [] (.op 35 [] (.op 36 [] (.op 37 [] (.op 7 [3, 13, 17, 21, 25, 29, 33, 37] (.op 8 [] (.op 9 [] (.op 38 [] (.op 39 [] (.op 40 [] .nil)))))))))))))))))))))))))))))))))))))))))) .leaf)))
/-- (*lighter/inflate.Decoder).Copy -/
def inflate_Decoder_Copy.res (d0 : Value) (H0 : Heap) (R : Value → Heap → Prop) : Prop :=
 pEq 3 d0 (.pointer none) fun x4 =>
 pCond x4
 (R (.pointer none) H0)
 (pNil d0 fun x6 =>
 pFieldAddr 0 x6 fun x7 =>
 pLoadN H0 3 x7 fun x8 =>
 pNil d0 fun x10 =>
 pFieldAddr 3 x10 fun x11 =>
 pNil d0 fun x16 =>
 pFieldAddr 7 x16 fun x17 =>
 pLoad H0 x17 fun x18 =>
 pNil d0 fun x20 =>
 pFieldAddr 8 x20 fun x21 =>
 pLoad H0 x21 fun x22 =>
 pNil d0 fun x24 =>
 pFieldAddr 9 x24 fun x25 =>
 pLoad H0 x25 fun x26 =>
 pNil d0 fun x28 =>
 pFieldAddr 10 x28 fun x29 =>
 pLoad H0 x29 fun x30 =>
 pNil d0 fun x32 =>
 pFieldAddr 11 x32 fun x33 =>
 pLoad H0 x33 fun x34 =>
 pNil d0 fun x36 =>
 pFieldAddr 12 x36 fun x37 =>
 pLoad H0 x37 fun x38 =>
 pNil d0 fun x40 =>
 pFieldAddr 13 x40 fun x41 =>
 pLoad H0 x41 fun x42 =>
 CallsH Tryd.prog 38 #[x11] H0 fun x12 H_1 =>
 (pLoadN H_1 3 x7 fun r_ =>
 r_ = x8) ∧
 (pLoad H_1 x17 fun r_ =>
 r_ = x18) ∧
 (pLoad H_1 x21 fun r_ =>
 r_ = x22) ∧
 (pLoad H_1 x25 fun r_ =>
 r_ = x26) ∧
 (pLoad H_1 x29 fun r_ =>
 r_ = x30) ∧
 (pLoad H_1 x33 fun r_ =>
 r_ = x34) ∧
 (pLoad H_1 x37 fun r_ =>
 r_ = x38) ∧
 (pLoad H_1 x41 fun r_ =>
 r_ = x42) ∧
 pNil x12 fun x13 =>
 pLoadN H_1 2 x13 fun x14 =>
 pBuild [(str []), (.int .u64 0), (.int .i64 0), (.slice none 0 0), (.int .i64 0), (.pointer none), (.slice none 0 0), (.int .i64 0), (.bool false), (.int .i64 0), (.pointer none), (.pointer none), (.int .i64 0), (.int .i64 0)] [(0, 3, x8), (3, 2, x14), (7, 1, x18), (8, 1, x22), (9, 1, x26), (10, 1, x30), (11, 1, x34), (12, 1, x38), (13, 1, x42)] fun x43 =>
 pBox H_1 71 x43 fun x44 H_2 =>
 R x44 H_2)
set_option maxRecDepth 100000 in
theorem inflate_Decoder_Copy.vc (d0 : Value) (H0 : Heap) (R : Value → Heap → Prop) (h : inflate_Decoder_Copy.res d0 H0 R) : CallsH Tryd.prog 27 #[d0] H0 R := by
  have e : vcFn Tryd.prog Tryd.C Tryd.f27 inflate_Decoder_Copy.an [d0] H0 R = inflate_Decoder_Copy.res d0 H0 R := by kernel_rfl
  exact vcFn_sound Tryd.callable Tryd.mixed Tryd.func27 (by kernel_rfl) (e.mpr h)

def inflate_Decoder_Told.an : Ann := (.seq (.reg (.op 0 [] .nil)) (.seq (.seq (.reg (.op 0 [] (.op 1 [] .nil))) (.cond (.seq (.reg (.op 0 [] .nil)) .leaf) .leaf)) (.seq (.reg (.op 0 [] (.op 1 [] (.op 2 [] (.op 3 [] (.op 4 [] .nil)))))) .leaf)))
/-- (*lighter/inflate.Decoder).Told -/
def inflate_Decoder_Told.res (d0 : Value) (H0 : Heap) (R : Value → Heap → Prop) : Prop :=
 pEq 3 d0 (.pointer none) fun x4 =>
 pCond x4
 (R (.int .i64 0) H0)
 (pNil d0 fun x6 =>
 pFieldAddr 3 x6 fun x7 =>
 CallsH Tryd.prog 39 #[x7] H0 fun x8 H_1 =>
 R x8 H_1)
set_option maxRecDepth 100000 in
theorem inflate_Decoder_Told.vc (d0 : Value) (H0 : Heap) (R : Value → Heap → Prop) (h : inflate_Decoder_Told.res d0 H0 R) : CallsH Tryd.prog 28 #[d0] H0 R := by
  have e : vcFn Tryd.prog Tryd.C Tryd.f28 inflate_Decoder_Told.an [d0] H0 R = inflate_Decoder_Told.res d0 H0 R := by kernel_rfl
  exact vcFn_sound Tryd.callable Tryd.mixed Tryd.func28 (by kernel_rfl) (e.mpr h)

def inflate_Decoder_step.an : Ann := (.seq (.reg (.op 0 [] .nil)) (.seq (.drw [0, 1, 3, 7, 0, 16, 48, 112, 0, 271, 1023] (.op 0 [] (.op 1 [] (.op 2 [] (.op 3 [] (.op 4 [] (.op 5 [] (.op 6 [] (.op 7 [] (.op 8 [3, 7] (.op 9 [7] (.op 10 [] .nil)))))))))))) (.seq (.reg (.op 0 [] .nil)) (.cut [5] [2, 5, 14, 15, 16, 17, 18, 19, 20, 21, 22, 23, 24, 25, 26, 27, 28, 29] (.seq (.reg (.op 0 [] (.op 1 [] (.op 2 [] (.op 3 [] .nil))))) (.block (.seq (.reg (.op 0 [] (.op 1 [] .nil))) (.cond (.reg (.op 0 [] (.op 1 [] (.op 2 [] .nil)))) (.seq (.reg (.op 0 [] (.op 1 [] .nil))) (.cond (.seq (.reg (.op 0 [] (.op 1 [] (.op 2 [] .nil)))) .leaf) (.seq (.reg (.op 0 [] (.op 1 [] .nil))) (.cond (.reg (.op 0 [] (.op 1 [] (.op 2 [] .nil)))) .leaf)))))))) (.seq (.seq (.reg (.op 0 [] (.op 1 [] .nil))) (.cond (.reg (.op 0 [] (.op 1 [] (.op 2 [] (.op 3 [] (.op 4 [] (.op 5 [] (.op 6 [] (.op 7 [] (.op 8 [] (.op 9 [] .nil))))))))))) .leaf)) (.seq (.reg (.op 0 [] (.op 1 [] .nil))) .leaf))))))
/-- (*lighter/inflate.Decoder).step -/
def inflate_Decoder_step.res (d0 : Value) (H0 : Heap) (R : Value → Heap → Prop) : Prop :=
 pNil d0 fun x7 =>
 pFieldAddr 0 x7 fun x8 =>
 pLoadN H0 3 x8 fun x9 =>
 pNil d0 fun x11 =>
 pFieldAddr 7 x11 fun x12 =>
 pLoad H0 x12 fun x13 =>
 pBox H0 62 (.agg #[(str []), (.int .u64 0), (.int .i64 0)]) fun was3 H_1 =>
 (pLoadN H_1 3 x8 fun r_ =>
 r_ = x9) ∧
 (pLoad H_1 x12 fun r_ =>
 r_ = x13) ∧
 pStoreN H_1 3 was3 x9 fun _ H_2 =>
 (pLoad H_2 x12 fun r_ =>
 r_ = x13) ∧
 ∃ J_3 : Value → Heap → Prop, (∀ _ : Env, ∀ e5 : Value, ∀ H_4 : Heap, J_3 e5 H_4 →
 pEq 0 e5 (.int .i64 2) fun x31 =>
 pCond x31
 (pLoadN H_4 3 was3 fun x34 =>
 pNil d0 fun x36 =>
 pFieldAddr 0 x36 fun x37 =>
 pStoreN H_4 3 x37 x34 fun _ H_5 =>
 pNil d0 fun x38 =>
 pFieldAddr 7 x38 fun x39 =>
 pStore H_5 x39 x13 fun _ H_6 =>
 R e5 H_6)
 (R e5 H_4)) ∧
 pNil d0 fun x15 =>
 pFieldAddr 7 x15 fun x16 =>
 pLoad H_2 x16 fun x17 =>
 pEq 0 x17 (.int .i64 0) fun x19 =>
 pCond x19
 (CallsH Tryd.prog 40 #[d0] H_2 fun x21 H_7 =>
 J_3 x21 H_7)
 (pEq 0 x17 (.int .i64 1) fun x23 =>
 pCond x23
 (CallsH Tryd.prog 41 #[d0] H_2 fun x25 H_8 =>
 R x25 H_8)
 (pEq 0 x17 (.int .i64 2) fun x27 =>
 pCond x27
 (CallsH Tryd.prog 42 #[d0] H_2 fun x29 H_9 =>
 J_3 x29 H_9)
 (J_3 (.int .i64 0) H_2)))
set_option maxRecDepth 100000 in
theorem inflate_Decoder_step.vc (d0 : Value) (H0 : Heap) (R : Value → Heap → Prop) (h : inflate_Decoder_step.res d0 H0 R) : CallsH Tryd.prog 31 #[d0] H0 R := by
  have e : vcFn Tryd.prog Tryd.C Tryd.f31 inflate_Decoder_step.an [d0] H0 R = inflate_Decoder_step.res d0 H0 R := by kernel_rfl
  exact vcFn_sound Tryd.callable Tryd.mixed Tryd.func31 (by kernel_rfl) (e.mpr h)

def inflate_Decoder_head.an : Ann := (.seq (.reg (.op 0 [] .nil)) (.seq (.reg (.op 0 [] (.op 1 [] (.op 2 [] (.op 3 [] (.op 4 [] (.op 5 [] (.op 6 [] (.op 7 [] (.op 8 [] .nil)))))))))) (.seq (.seq (.reg (.op 0 [] (.op 1 [] .nil))) (.cond (.seq (.reg (.op 0 [] (.op 1 [] .nil))) .leaf) .leaf)) (.cut [4] [2, 4, 15, 16, 17, 18, 19, 20, 21, 22, 23, 24, 25, 26, 27, 28, 29, 30, 31, 32, 33, 34, 35, 36, 37, 38, 39, 40, 41, 42, 43, 44, 45, 46, 47, 48, 49, 50, 51, 52, 53, 54, 55, 56, 57, 58, 59, 60, 61, 62, 63, 64, 65] (.seq (.reg (.op 0 [] (.op 1 [] .nil))) (.block (.seq (.reg (.op 0 [] (.op 1 [] .nil))) (.cond (.seq (.reg (.op 0 [] (.op 1 [] (.op 2 [] (.op 3 [] (.op 4 [] (.op 5 [] (.op 6 [] (.op 7 [] (.op 8 [] (.op 9 [] (.op 10 [] (.op 11 [] .nil))))))))))))) (.reg (.op 0 [] (.op 1 [] (.op 2 [] (.op 3 [] .nil)))))) (.seq (.reg (.op 0 [] (.op 1 [] .nil))) (.cond (.seq (.reg (.op 0 [] (.op 1 [] (.op 2 [] (.op 3 [] (.op 4 [] (.op 5 [] (.op 6 [] (.op 7 [] (.op 8 [] (.op 9 [] (.op 10 [] (.op 11 [] .nil))))))))))))) (.reg (.op 0 [] (.op 1 [] (.op 2 [] (.op 3 [] .nil)))))) (.seq (.reg (.op 0 [] (.op 1 [] .nil))) (.cond (.seq (.reg (.op 0 [] (.op 1 [] (.op 2 [] (.op 3 [] (.op 4 [] (.op 5 [] (.op 6 [] (.op 7 [] (.op 8 [] (.op 9 [] (.op 10 [] (.op 11 [] (.op 12 [] (.op 13 [] (.op 14 [] (.op 15 [] (.op 16 [] .nil)))))))))))))))))) (.reg (.op 0 [] (.op 1 [] (.op 2 [] (.op 3 [] .nil)))))) (.seq (.reg (.op 0 [] .nil)) .leaf))))))))) (.seq (.reg (.op 0 [] (.op 1 [] (.op 2 [] (.op 3 [] (.op 4 [] (.op 5 [] (.op 6 [] .nil)))))))) (.seq (.reg (.op 0 [] (.op 1 [] .nil))) .leaf))))))
/-- (*lighter/inflate.Decoder).head -/
def inflate_Decoder_head.res (d0 : Value) (H0 : Heap) (R : Value → Heap → Prop) : Prop :=
 pNil d0 fun x7 =>
 pFieldAddr 0 x7 fun x8 =>
 CallsH Tryd.prog 46 #[x8, (.int .i64 3)] H0 fun x9 H_1 =>
 pExtract 0 x9 fun x10 =>
 pExtract 1 x9 fun x11 =>
 pNe 0 x11 (.int .i64 0) fun x13 =>
 pCond x13
 (R x11 H_1)
 (∃ J_2 : Value → Heap → Prop, (∀ _ : Env, ∀ e4 : Value, ∀ H_3 : Heap, J_2 e4 H_3 →
 pBits .and x10 (.int .i64 1) fun x68 =>
 pEq 0 x68 (.int .i64 1) fun x69 =>
 pNil d0 fun x70 =>
 pFieldAddr 8 x70 fun x71 =>
 pStore H_3 x71 x69 fun _ H_4 =>
 R e4 H_4) ∧
 pShr x10 (.int .u64 1) fun x16 =>
 pEq 0 x16 (.int .i64 0) fun x18 =>
 pCond x18
 (pNil d0 fun x22 =>
 pFieldAddr 0 x22 fun x23 =>
 CallsH Tryd.prog 47 #[x23] H_1 fun x24 H_5 =>
 pExtract 0 x24 fun x25 =>
 pExtract 1 x24 fun x26 =>
 pNil d0 fun x27 =>
 pFieldAddr 9 x27 fun x28 =>
 pStore H_5 x28 x25 fun _ H_6 =>
 pNil d0 fun x30 =>
 pFieldAddr 7 x30 fun x31 =>
 pStore H_6 x31 (.int .i64 1) fun _ H_7 =>
 J_2 x26 H_7)
 (pEq 0 x16 (.int .i64 1) fun x33 =>
 pCond x33
 (CallsH Tryd.prog 48 #[] H_1 fun x37 H_8 =>
 pExtract 0 x37 fun x38 =>
 pExtract 1 x37 fun x39 =>
 pNil d0 fun x40 =>
 pFieldAddr 10 x40 fun x41 =>
 pStore H_8 x41 x38 fun _ H_9 =>
 pNil d0 fun x42 =>
 pFieldAddr 11 x42 fun x43 =>
 pStore H_9 x43 x39 fun _ H_10 =>
 pNil d0 fun x45 =>
 pFieldAddr 7 x45 fun x46 =>
 pStore H_10 x46 (.int .i64 2) fun _ H_11 =>
 J_2 x11 H_11)
 (pEq 0 x16 (.int .i64 2) fun x48 =>
 pCond x48
 (pNil d0 fun x53 =>
 pFieldAddr 0 x53 fun x54 =>
 CallsH Tryd.prog 49 #[x54] H_1 fun x55 H_12 =>
 pExtract 0 x55 fun x56 =>
 pExtract 1 x55 fun x57 =>
 pExtract 2 x55 fun x58 =>
 pNil d0 fun x59 =>
 pFieldAddr 10 x59 fun x60 =>
 pStore H_12 x60 x56 fun _ H_13 =>
 pNil d0 fun x61 =>
 pFieldAddr 11 x61 fun x62 =>
 pStore H_13 x62 x57 fun _ H_14 =>
 pNil d0 fun x64 =>
 pFieldAddr 7 x64 fun x65 =>
 pStore H_14 x65 (.int .i64 2) fun _ H_15 =>
 J_2 x58 H_15)
 (R (.int .i64 3) H_1))))
set_option maxRecDepth 100000 in
theorem inflate_Decoder_head.vc (d0 : Value) (H0 : Heap) (R : Value → Heap → Prop) (h : inflate_Decoder_head.res d0 H0 R) : CallsH Tryd.prog 40 #[d0] H0 R := by
  have e : vcFn Tryd.prog Tryd.C Tryd.f40 inflate_Decoder_head.an [d0] H0 R = inflate_Decoder_head.res d0 H0 R := by kernel_rfl
  exact vcFn_sound Tryd.callable Tryd.mixed Tryd.func40 (by kernel_rfl) (e.mpr h)

def inflate_Decoder_copied.an : Ann := (.seq (.reg (.op 0 [] .nil)) (.seq (.drw [0, 1, 3, 0, 8, 24, 56, 127, 255] (.op 0 [] (.op 1 [] (.op 2 [] (.op 3 [] (.op 4 [] (.op 5 [] (.op 6 [] (.op 7 [] (.op 8 [] .nil)))))))))) (.seq (.reg (.op 0 [] (.op 1 [] (.op 2 [] (.op 3 [] (.op 4 [] (.op 5 [] (.op 6 [] (.op 7 [] (.op 8 [] (.op 9 [] .nil))))))))))) (.seq (.reg (.op 0 [] (.op 1 [] (.op 2 [] (.op 3 [] (.op 4 [] .nil)))))) (.seq (.reg (.op 0 [] (.op 1 [] (.op 2 [] (.op 3 [] (.op 4 [] .nil)))))) (.seq (.seq (.reg (.op 0 [] (.op 1 [] (.op 2 [] (.op 3 [] (.op 4 [] .nil)))))) (.cond (.seq (.reg (.op 0 [] .nil)) .leaf) .leaf)) (.seq (.reg (.op 0 [] (.op 1 [] .nil))) (.seq (.reg (.op 0 [] .nil)) .leaf))))))))
/-- (*lighter/inflate.Decoder).copied -/
def inflate_Decoder_copied.res (d0 : Value) (H0 : Heap) (R : Value → Heap → Prop) : Prop :=
 pNil d0 fun x5 =>
 pFieldAddr 0 x5 fun x6 =>
 pNil d0 fun x8 =>
 pFieldAddr 9 x8 fun x9 =>
 pLoad H0 x9 fun x10 =>
 CallsH Tryd.prog 33 #[x6, x10] H0 fun x11 H_1 =>
 pNil d0 fun x13 =>
 pFieldAddr 9 x13 fun x14 =>
 pLoad H_1 x14 fun x15 =>
 pLenS x11 fun x17 =>
 pSub x15 x17 fun x18 =>
 pNil d0 fun x19 =>
 pFieldAddr 9 x19 fun x20 =>
 pStore H_1 x20 x18 fun _ H_2 =>
 pNil d0 fun x22 =>
 pFieldAddr 3 x22 fun x23 =>
 CallsH Tryd.prog 50 #[x23, x11] H_2 fun x25 H_3 =>
 pNil d0 fun x27 =>
 pFieldAddr 5 x27 fun x28 =>
 CallsH Tryd.prog 51 #[x28, x11] H_3 fun x30 H_4 =>
 pNil d0 fun x32 =>
 pFieldAddr 9 x32 fun x33 =>
 pLoad H_4 x33 fun x34 =>
 pGt x34 (.int .i64 0) fun x35 =>
 pCond x35
 (R (.int .i64 2) H_4)
 (CallsH Tryd.prog 52 #[d0] H_4 fun x37 H_5 =>
 R (.int .i64 0) H_5)
set_option maxRecDepth 100000 in
theorem inflate_Decoder_copied.vc (d0 : Value) (H0 : Heap) (R : Value → Heap → Prop) (h : inflate_Decoder_copied.res d0 H0 R) : CallsH Tryd.prog 41 #[d0] H0 R := by
  have e : vcFn Tryd.prog Tryd.C Tryd.f41 inflate_Decoder_copied.an [d0] H0 R = inflate_Decoder_copied.res d0 H0 R := by kernel_rfl
  exact vcFn_sound Tryd.callable Tryd.mixed Tryd.func41 (by kernel_rfl) (e.mpr h)

def inflate_Decoder_symbol.an : Ann := (.seq (.reg (.op 0 [] .nil)) (.seq (.drw [0, 1, 3, 7, 0, 16, 48, 127, 255, 511, 511, 1023, 4095] (.op 0 [] (.op 1 [] (.op 2 [] (.op 3 [] (.op 4 [] (.op 5 [] (.op 6 [] (.op 7 [] (.op 8 [] (.op 9 [] (.op 10 [] (.op 11 [] (.op 12 [] .nil)))))))))))))) (.seq (.block (.seq (.reg (.op 0 [] (.op 1 [] (.op 2 [] .nil)))) (.cond (.seq (.reg (.op 0 [] (.op 1 [] .nil))) .leaf) (.seq (.reg (.op 0 [] (.op 1 [] (.op 2 [] .nil)))) (.cond (.seq (.reg (.op 0 [] (.op 1 [] .nil))) (.seq (.reg (.op 0 [] .nil)) .leaf)) (.seq (.reg (.op 0 [] (.op 1 [] (.op 2 [] .nil)))) (.cond (.seq (.reg (.op 0 [] (.op 1 [] (.op 2 [] (.op 3 [] .nil))))) .leaf) .leaf))))))) (.seq (.reg (.op 0 [] (.op 1 [] (.op 2 [] (.op 3 [] (.op 4 [] (.op 5 [] .nil))))))) (.seq (.reg (.op 0 [] (.op 1 [] (.op 2 [] (.op 3 [] (.op 4 [] (.op 5 [] .nil))))))) (.seq (.reg (.op 0 [] .nil)) .leaf))))))
/-- (*lighter/inflate.Decoder).symbol -/
def inflate_Decoder_symbol.res (d0 : Value) (H0 : Heap) (R : Value → Heap → Prop) : Prop :=
 pNil d0 fun x7 =>
 pFieldAddr 10 x7 fun x8 =>
 pLoad H0 x8 fun x9 =>
 pNil d0 fun x11 =>
 pFieldAddr 0 x11 fun x12 =>
 CallsH Tryd.prog 53 #[x9, x12] H0 fun x13 H_1 =>
 pExtract 0 x13 fun x14 =>
 pExtract 1 x13 fun x15 =>
 pNe 0 x15 (.int .i64 0) fun x18 =>
 pCond x18
 (R x15 H_1)
 (pEq 0 x14 (.int .i64 256) fun x22 =>
 pCond x22
 (CallsH Tryd.prog 52 #[d0] H_1 fun x24 H_2 =>
 R (.int .i64 0) H_2)
 (pGt x14 (.int .i64 256) fun x27 =>
 pCond x27
 (CallsH Tryd.prog 54 #[d0, x14] H_1 fun x30 H_3 =>
 R x30 H_3)
 (pNil d0 fun x32 =>
 pFieldAddr 3 x32 fun x33 =>
 pConv .u8 x14 fun x35 =>
 CallsH Tryd.prog 55 #[x33, x35] H_1 fun x36 H_4 =>
 pNil d0 fun x38 =>
 pFieldAddr 5 x38 fun x39 =>
 pConv .u8 x14 fun x41 =>
 CallsH Tryd.prog 56 #[x39, x41] H_4 fun x42 H_5 =>
 R (.int .i64 0) H_5)))
set_option maxRecDepth 100000 in
theorem inflate_Decoder_symbol.vc (d0 : Value) (H0 : Heap) (R : Value → Heap → Prop) (h : inflate_Decoder_symbol.res d0 H0 R) : CallsH Tryd.prog 42 #[d0] H0 R := by
  have e : vcFn Tryd.prog Tryd.C Tryd.f42 inflate_Decoder_symbol.an [d0] H0 R = inflate_Decoder_symbol.res d0 H0 R := by kernel_rfl
  exact vcFn_sound Tryd.callable Tryd.mixed Tryd.func42 (by kernel_rfl) (e.mpr h)

def inflate_need.an : Ann := (.seq (.reg (.op 0 [] (.op 1 [] .nil))) (.seq (.reg (.op 0 [] (.op 1 [] (.op 2 [] (.op 3 [] (.op 4 [] (.op 5 [] (.op 6 [] (.op 7 [] .nil))))))))) (.seq (.seq (.reg (.op 0 [] (.op 1 [] .nil))) (.cond (.seq (.reg (.op 0 [] (.op 1 [] .nil))) .leaf) .leaf)) (.seq (.reg (.op 0 [] (.op 1 [] (.op 2 [] (.op 3 [] .nil))))) .leaf))))
/-- lighter/inflate.need -/
def inflate_need.res (r0 : Value) (n1 : Value) (H0 : Heap) (R : Value → Heap → Prop) : Prop :=
 CallsH Tryd.prog 62 #[r0, n1] H0 fun x11 H_1 =>
 pExtract 0 x11 fun x12 =>
 pExtract 1 x11 fun x13 =>
 pNot x13 fun x15 =>
 pCond x15
 (R (.tuple #[(.int .i64 0), (.int .i64 2)]) H_1)
 (pConv .i64 x12 fun x17 =>
 R (.tuple #[x17, (.int .i64 0)]) H_1)
set_option maxRecDepth 100000 in
theorem inflate_need.vc (r0 : Value) (n1 : Value) (H0 : Heap) (R : Value → Heap → Prop) (h : inflate_need.res r0 n1 H0 R) : CallsH Tryd.prog 46 #[r0, n1] H0 R := by
  have e : vcFn Tryd.prog Tryd.C Tryd.f46 inflate_need.an [r0, n1] H0 R = inflate_need.res r0 n1 H0 R := by kernel_rfl
  exact vcFn_sound Tryd.callable Tryd.mixed Tryd.func46 (by kernel_rfl) (e.mpr h)

def inflate_storedLength.an : Ann := (.seq (.reg (.op 0 [] (.op 1 [] .nil))) (.seq (.reg (.op 0 [] (.op 1 [] .nil))) (.seq (.reg (.op 0 [] (.op 1 [] (.op 2 [] (.op 3 [] (.op 4 [] (.op 5 [] (.op 6 [] .nil)))))))) (.cut [5] [5, 13, 14, 15, 16, 17, 18, 19, 20, 21, 22] (.seq (.reg (.op 0 [] (.op 1 [] (.op 2 [] (.grp 2 (.op 3 [] (.op 4 [] (.op 5 [] (.op 6 [] (.op 7 [] (.op 8 [] .nil)))))) 9 .nil))))) (.cond (.reg (.op 0 [] .nil)) .leaf)) (.seq (.reg (.op 0 [] (.op 1 [] (.op 2 [] (.op 3 [] (.op 4 [] .nil)))))) .leaf)))))
/-- lighter/inflate.storedLength -/
def inflate_storedLength.res (r0 : Value) (H0 : Heap) (R : Value → Heap → Prop) : Prop :=
 CallsH Tryd.prog 43 #[r0] H0 fun x7 H_1 =>
 CallsH Tryd.prog 46 #[r0, (.int .i64 32)] H_1 fun x10 H_2 =>
 pExtract 0 x10 fun x11 =>
 pExtract 1 x10 fun x12 =>
 ∃ J_3 : Value → Heap → Prop, (∀ _ : Env, ∀ e5 : Value, ∀ H_4 : Heap, J_3 e5 H_4 →
 pBits .and x11 (.int .i64 65535) fun x24 =>
 R (.tuple #[x24, e5]) H_4) ∧
 pEq 0 x12 (.int .i64 0) fun x14 =>
 pAnd x14 (fun J_5 =>
 pBits .and x11 (.int .i64 65535) fun x17 =>
 pShr x11 (.int .u64 16) fun x19 =>
 pBits .xor x17 x19 fun x20 =>
 pNe 0 x20 (.int .i64 65535) fun x21 =>
 J_5 x21 H_2) H_2 fun x22 H_6 => ∀ _ : Env,
 pCond x22
 (J_3 (.int .i64 8) H_6)
 (J_3 x12 H_6)
set_option maxRecDepth 100000 in
theorem inflate_storedLength.vc (r0 : Value) (H0 : Heap) (R : Value → Heap → Prop) (h : inflate_storedLength.res r0 H0 R) : CallsH Tryd.prog 47 #[r0] H0 R := by
  have e : vcFn Tryd.prog Tryd.C Tryd.f47 inflate_storedLength.an [r0] H0 R = inflate_storedLength.res r0 H0 R := by kernel_rfl
  exact vcFn_sound Tryd.callable Tryd.mixed Tryd.func47 (by kernel_rfl) (e.mpr h)

def inflate_fixedCodes.an : Ann := (.seq (.reg (.op 0 [] (.op 1 [] .nil))) (.seq (.reg (.op 0 [] (.op 1 [] .nil))) (.seq (.seq (.reg (.op 0 [] (.op 1 [] (.op 2 [] (.op 3 [] (.op 4 [] (.op 5 [] .nil))))))) (.block (.loop [2, 15] [2, 5, 15, 16, 17, 18, 19, 20, 21, 22, 23, 24, 25, 26, 27, 28] (.seq (.reg (.op 0 [] .nil)) (.seq (.cond .leaf .leaf) (.seq (.block (.seq (.reg (.op 0 [] (.op 1 [] (.op 2 [] .nil)))) (.block (.loop [2] [2, 18, 19, 20, 21, 22, 23, 24, 25, 26, 27] (.seq (.seq (.reg (.op 0 [] (.op 1 [] (.op 2 [] (.op 3 [] (.op 4 [] .nil)))))) (.cond .leaf .leaf)) (.block (.reg (.op 0 [] (.op 1 [] (.op 2 [] (.op 3 [] (.op 4 [] (.op 5 [] .nil))))))))))))) (.reg (.op 0 [] (.op 1 [] .nil))))))))) (.seq (.seq (.reg (.op 0 [] .nil)) (.block (.loop [3, 29] [3, 29, 30, 31, 32, 33, 34] (.seq (.reg (.op 0 [] .nil)) (.seq (.cond .leaf .leaf) (.seq (.block (.reg (.op 0 [] (.op 1 [] (.op 2 [] (.op 3 [] .nil)))))) (.reg (.op 0 [] (.op 1 [] .nil))))))))) (.seq (.reg (.op 0 [] (.op 1 [] (.op 2 [] (.op 3 [] (.op 4 [] (.op 5 [] (.op 6 [] .nil)))))))) (.seq (.reg (.op 0 [] (.op 1 [] (.op 2 [] (.op 3 [] (.op 4 [] (.op 5 [] (.op 6 [] .nil)))))))) (.seq (.reg (.op 0 [] (.op 1 [] (.op 2 [] (.op 3 [] .nil))))) .leaf)))))))
/-- lighter/inflate.fixedCodes -/
def inflate_fixedCodes.res (H0 : Heap) (R : Value → Heap → Prop) : Prop :=
 pBuild [(.int .i64 0), (.int .i64 0)] [(0, 1, (.int .i64 8)), (1, 1, (.int .i64 144))] fun x10 =>
 pBuild [(.int .i64 0), (.int .i64 0)] [(0, 1, (.int .i64 9)), (1, 1, (.int .i64 256))] fun x11 =>
 pBuild [(.int .i64 0), (.int .i64 0)] [(0, 1, (.int .i64 7)), (1, 1, (.int .i64 280))] fun x12 =>
 pBuild [(.int .i64 0), (.int .i64 0)] [(0, 1, (.int .i64 8)), (1, 1, (.int .i64 288))] fun x13 =>
 pBuild [(.int .i64 0), (.int .i64 0), (.int .i64 0), (.int .i64 0), (.int .i64 0), (.int .i64 0), (.int .i64 0), (.int .i64 0)] [(0, 2, x10), (2, 2, x11), (4, 2, x12), (6, 2, x13)] fun x14 =>
 ∃ (I_1 : Value → Value → Heap → Prop) (m_2 : Value → Value → Heap → Nat), I_1 (.slice none 0 0) (.int .i64 0) H0 ∧
 ∀ _ : Env, ∀ l2 : Value, ∀ x15 : Value, ∀ H_3 : Heap, I_1 l2 x15 H_3 →
 pLt x15 (.int .i64 4) fun x16 =>
 pCond x16
 (pIdxAggN 4 2 x14 x15 fun x17 =>
 pBox H_3 111 (.agg #[(.int .i64 0), (.int .i64 0)]) fun x5 H_4 =>
 pStoreN H_4 2 x5 x17 fun _ H_5 =>
 ∃ (I_6 : Value → Heap → Prop) (m_7 : Value → Heap → Nat), I_6 l2 H_5 ∧
 ∀ _ : Env, ∀ l2' : Value, ∀ H_8 : Heap, I_6 l2' H_8 →
 pLen l2' fun x19 =>
 pFieldAddr 1 x5 fun x20 =>
 pLoad H_8 x20 fun x21 =>
 pLt x19 x21 fun x22 =>
 pCond x22
 (pFieldAddr 0 x5 fun x24 =>
 pLoad H_8 x24 fun x25 =>
 pBuildSl H_8 3 1 [(.int .i64 0)] [(0, 1, x25)] fun x26 H_9 =>
 pAppend H_9 3 1 8 [(.int .i64 0)] l2' x26 fun x27 H_10 =>
 I_6 x27 H_10 ∧ m_7 x27 H_10 < m_7 l2' H_8)
 (pAdd x15 (.int .i64 1) fun x28 =>
 I_1 l2' x28 H_8 ∧ m_2 l2' x28 H_8 < m_2 l2 x15 H_3))
 (∃ (I_11 : Value → Value → Heap → Prop) (m_12 : Value → Value → Heap → Nat), I_11 (.slice none 0 0) (.int .i64 0) H_3 ∧
 ∀ _ : Env, ∀ d3 : Value, ∀ x29 : Value, ∀ H_13 : Heap, I_11 d3 x29 H_13 →
 pLt x29 (.int .i64 32) fun x30 =>
 pCond x30
 (pBuildSl H_13 3 1 [(.int .i64 0)] [(0, 1, (.int .i64 5))] fun x32 H_14 =>
 pAppend H_14 3 1 8 [(.int .i64 0)] d3 x32 fun x33 H_15 =>
 pAdd x29 (.int .i64 1) fun x34 =>
 I_11 x33 x34 H_15 ∧ m_12 x33 x34 H_15 < m_12 d3 x29 H_13)
 (CallsH Tryd.prog 63 #[l2, (.bool false)] H_13 fun x37 H_16 =>
 pExtract 0 x37 fun x38 =>
 pExtract 1 x37 fun x39 =>
 CallsH Tryd.prog 63 #[d3, (.bool false)] H_16 fun x42 H_17 =>
 pExtract 0 x42 fun x43 =>
 pExtract 1 x42 fun x44 =>
 R (.tuple #[x38, x43]) H_17))
set_option maxRecDepth 100000 in
theorem inflate_fixedCodes.vc (H0 : Heap) (R : Value → Heap → Prop) (h : inflate_fixedCodes.res H0 R) : CallsH Tryd.prog 48 #[] H0 R := by
  have e : vcFn Tryd.prog Tryd.C Tryd.f48 inflate_fixedCodes.an [] H0 R = inflate_fixedCodes.res H0 R := by kernel_rfl
  exact vcFn_sound Tryd.callable Tryd.mixed Tryd.func48 (by kernel_rfl) (e.mpr h)

def inflate_dynamicCodes.an : Ann := (.seq (.reg (.op 0 [] (.op 1 [] (.op 2 [] .nil)))) (.seq (.reg (.op 0 [] (.op 1 [] (.op 2 [] (.op 3 [] (.op 4 [] (.op 5 [] (.op 6 [] .nil)))))))) (.seq (.seq (.reg (.op 0 [] (.op 1 [] .nil))) (.cond (.seq (.reg (.op 0 [] (.op 1 [] (.op 2 [] (.op 3 [] .nil))))) .leaf) .leaf)) (.seq (.reg (.op 0 [] (.op 1 [] (.op 2 [] (.op 3 [] (.op 4 [] (.op 5 [] (.op 6 [] (.op 7 [] (.op 8 [] (.op 9 [] (.op 10 [] (.op 11 [] (.op 12 [] .nil)))))))))))))) (.seq (.seq (.reg (.op 0 [] (.op 1 [] (.op 2 [] (.grp 2 (.op 3 [] (.op 4 [] .nil)) 5 .nil))))) (.cond (.seq (.reg (.op 0 [] (.op 1 [] (.op 2 [] .nil)))) .leaf) .leaf)) (.seq (.reg (.op 0 [] (.op 1 [] (.op 2 [] (.op 3 [] (.op 4 [] (.op 5 [] (.op 6 [] (.op 7 [] .nil))))))))) (.seq (.seq (.reg (.op 0 [] (.op 1 [] .nil))) (.cond (.seq (.reg (.op 0 [] (.op 1 [] (.op 2 [] (.op 3 [] .nil))))) .leaf) .leaf)) (.seq (.reg (.op 0 [] (.op 1 [] (.op 2 [] (.op 3 [] (.op 4 [] (.op 5 [] (.op 6 [] (.op 7 [] (.op 8 [] (.op 9 [] (.op 10 [] .nil)))))))))))) (.seq (.seq (.reg (.op 0 [] (.op 1 [] .nil))) (.cond (.seq (.reg (.op 0 [] (.op 1 [] (.op 2 [] (.op 3 [] .nil))))) .leaf) .leaf)) (.seq (.seq (.reg (.op 0 [] (.op 1 [] (.op 2 [] (.op 3 [] .nil))))) (.cond (.seq (.reg (.op 0 [] (.op 1 [] (.op 2 [] .nil)))) .leaf) .leaf)) (.seq (.reg (.op 0 [] (.op 1 [] (.op 2 [] (.op 3 [] (.op 4 [] (.op 5 [] (.op 6 [] (.op 7 [] (.op 8 [] .nil)))))))))) (.seq (.seq (.reg (.op 0 [] (.op 1 [] .nil))) (.cond (.seq (.reg (.op 0 [] (.op 1 [] (.op 2 [] (.op 3 [] .nil))))) .leaf) .leaf)) (.seq (.reg (.op 0 [] (.op 1 [] (.op 2 [] (.op 3 [] (.op 4 [] (.op 5 [] (.op 6 [] (.op 7 [] (.op 8 [] .nil)))))))))) (.seq (.reg (.op 0 [] (.op 1 [] (.op 2 [] (.op 3 [] (.op 4 [] (.op 5 [] .nil))))))) .leaf))))))))))))))
/-- lighter/inflate.dynamicCodes -/
def inflate_dynamicCodes.res (r0 : Value) (H0 : Heap) (R : Value → Heap → Prop) : Prop :=
 CallsH Tryd.prog 46 #[r0, (.int .i64 14)] H0 fun x16 H_1 =>
 pExtract 0 x16 fun x17 =>
 pExtract 1 x16 fun x18 =>
 pNe 0 x18 (.int .i64 0) fun x20 =>
 pCond x20
 (R (.tuple #[(.pointer none), (.pointer none), x18]) H_1)
 (pBits .and x17 (.int .i64 31) fun x23 =>
 pAdd x23 (.int .i64 257) fun x24 =>
 pShr x17 (.int .u64 5) fun x26 =>
 pBits .and x26 (.int .i64 31) fun x27 =>
 pAdd x27 (.int .i64 1) fun x28 =>
 pShr x17 (.int .u64 10) fun x30 =>
 pAdd x30 (.int .i64 4) fun x31 =>
 pGt x24 (.int .i64 286) fun x33 =>
 pOr x33 (fun J_2 =>
 pGt x28 (.int .i64 30) fun x36 =>
 J_2 x36 H_1) H_1 fun x37 H_3 => ∀ _ : Env,
 pCond x37
 (R (.tuple #[(.pointer none), (.pointer none), (.int .i64 20)]) H_3)
 (CallsH Tryd.prog 64 #[r0, x31] H_3 fun x41 H_4 =>
 pExtract 0 x41 fun x42 =>
 pExtract 1 x41 fun x43 =>
 pNe 0 x43 (.int .i64 0) fun x45 =>
 pCond x45
 (R (.tuple #[(.pointer none), (.pointer none), x43]) H_4)
 (pAdd x24 x28 fun x52 =>
 CallsH Tryd.prog 65 #[r0, x42, x52] H_4 fun x53 H_5 =>
 pExtract 0 x53 fun x54 =>
 pExtract 1 x53 fun x55 =>
 pNe 0 x55 (.int .i64 0) fun x57 =>
 pCond x57
 (R (.tuple #[(.pointer none), (.pointer none), x55]) H_5)
 (pIdxSl 1 x54 (.int .i64 256) fun x60 =>
 pLoad H_5 x60 fun x61 =>
 pEq 0 x61 (.int .i64 0) fun x62 =>
 pCond x62
 (R (.tuple #[(.pointer none), (.pointer none), (.int .i64 12)]) H_5)
 (pSlSl 1 x54 none (some x24) fun x66 =>
 CallsH Tryd.prog 63 #[x66, (.bool false)] H_5 fun x67 H_6 =>
 pExtract 0 x67 fun x68 =>
 pExtract 1 x67 fun x69 =>
 pNe 0 x69 (.int .i64 0) fun x71 =>
 pCond x71
 (R (.tuple #[(.pointer none), (.pointer none), x69]) H_6)
 (pSlSl 1 x54 (some x24) none fun x76 =>
 CallsH Tryd.prog 63 #[x76, (.bool true)] H_6 fun x77 H_7 =>
 pExtract 0 x77 fun x78 =>
 pExtract 1 x77 fun x79 =>
 R (.tuple #[x68, x78, x79]) H_7))))))
set_option maxRecDepth 100000 in
theorem inflate_dynamicCodes.vc (r0 : Value) (H0 : Heap) (R : Value → Heap → Prop) (h : inflate_dynamicCodes.res r0 H0 R) : CallsH Tryd.prog 49 #[r0] H0 R := by
  have e : vcFn Tryd.prog Tryd.C Tryd.f49 inflate_dynamicCodes.an [r0] H0 R = inflate_dynamicCodes.res r0 H0 R := by kernel_rfl
  exact vcFn_sound Tryd.callable Tryd.mixed Tryd.func49 (by kernel_rfl) (e.mpr h)

def inflate_Decoder_ended.an : Ann := (.seq (.reg (.op 0 [] (.op 1 [] (.op 2 [] (.op 3 [] .nil))))) (.seq (.reg (.op 0 [] (.op 1 [] (.op 2 [] (.op 3 [] .nil))))) (.cond (.seq (.reg (.op 0 [] (.op 1 [] (.op 2 [] (.op 3 [] .nil))))) (.reg (.op 0 [] (.op 1 [] (.op 2 [] (.op 3 [] .nil)))))) .leaf)))
/-- (*lighter/inflate.Decoder).ended -/
def inflate_Decoder_ended.res (d0 : Value) (H0 : Heap) (R : Value → Heap → Prop) : Prop :=
 pNil d0 fun x3 =>
 pFieldAddr 7 x3 fun x4 =>
 pStore H0 x4 (.int .i64 0) fun _ H_1 =>
 pNil d0 fun x6 =>
 pFieldAddr 8 x6 fun x7 =>
 pLoad H_1 x7 fun x8 =>
 pCond x8
 (pNil d0 fun x10 =>
 pFieldAddr 7 x10 fun x11 =>
 pStore H_1 x11 (.int .i64 3) fun _ H_2 =>
 pNil d0 fun x13 =>
 pFieldAddr 0 x13 fun x14 =>
 CallsH Tryd.prog 43 #[x14] H_2 fun x15 H_3 =>
 R (.tuple #[]) H_3)
 (R (.tuple #[]) H_1)
set_option maxRecDepth 100000 in
theorem inflate_Decoder_ended.vc (d0 : Value) (H0 : Heap) (R : Value → Heap → Prop) (h : inflate_Decoder_ended.res d0 H0 R) : CallsH Tryd.prog 52 #[d0] H0 R := by
  have e : vcFn Tryd.prog Tryd.C Tryd.f52 inflate_Decoder_ended.an [d0] H0 R = inflate_Decoder_ended.res d0 H0 R := by kernel_rfl
  exact vcFn_sound Tryd.callable Tryd.mixed Tryd.func52 (by kernel_rfl) (e.mpr h)

def inflate_Decoder_match.an : Ann := (.seq (.reg (.op 0 [] .nil)) (.seq (.reg (.op 0 [] (.op 1 [] (.op 2 [] (.op 3 [] (.op 4 [] (.op 5 [] (.op 6 [] (.op 7 [] (.op 8 [] (.op 9 [] (.op 10 [] (.op 11 [] .nil))))))))))))) (.seq (.seq (.reg (.op 0 [] (.op 1 [] .nil))) (.cond (.seq (.reg (.op 0 [] (.op 1 [] .nil))) .leaf) .leaf)) (.seq (.drw [0, 1, 3, 7, 0, 16, 48, 127, 255, 511, 511, 1023, 4095] (.op 0 [] (.op 1 [] (.op 2 [] (.op 3 [] (.op 4 [] (.op 5 [] (.op 6 [] (.op 7 [] (.op 8 [] (.op 9 [] (.op 10 [] (.op 11 [] (.op 12 [] .nil)))))))))))))) (.seq (.seq (.reg (.op 0 [] (.op 1 [] .nil))) (.cond (.seq (.reg (.op 0 [] (.op 1 [] .nil))) .leaf) .leaf)) (.seq (.reg (.op 0 [] (.op 1 [] (.op 2 [] (.op 3 [] (.op 4 [] (.op 5 [] (.op 6 [] (.op 7 [] (.op 8 [] (.op 9 [] (.op 10 [] (.op 11 [] .nil))))))))))))) (.seq (.seq (.reg (.op 0 [] (.op 1 [] .nil))) (.cond (.seq (.reg (.op 0 [] (.op 1 [] .nil))) .leaf) .leaf)) (.seq (.reg (.op 0 [] (.op 1 [] (.op 2 [] (.op 3 [] (.op 4 [] (.op 5 [] (.op 6 [] (.op 7 [] (.op 8 [] (.op 9 [] (.op 10 [] .nil)))))))))))) (.seq (.seq (.reg (.op 0 [] (.op 1 [] .nil))) (.cond (.seq (.reg (.op 0 [] .nil)) .leaf) .leaf)) (.seq (.reg (.op 0 [] (.op 1 [] (.op 2 [] (.op 3 [] (.op 4 [] .nil)))))) (.seq (.reg (.op 0 [] .nil)) .leaf)))))))))))
/-- (*lighter/inflate.Decoder).match -/
def inflate_Decoder_match.res (d0 : Value) (s1 : Value) (H0 : Heap) (R : Value → Heap → Prop) : Prop :=
 CallsH Tryd.prog 71 #[s1] H0 fun x14 H_1 =>
 pExtract 0 x14 fun x15 =>
 pExtract 1 x14 fun x16 =>
 pExtract 2 x14 fun x17 =>
 CallsH Tryd.prog 70 #[d0, x15, x16, x17] H_1 fun x18 H_2 =>
 pExtract 0 x18 fun x19 =>
 pExtract 1 x18 fun x20 =>
 pNe 0 x20 (.int .i64 0) fun x22 =>
 pCond x22
 (R x20 H_2)
 (pNil d0 fun x26 =>
 pFieldAddr 11 x26 fun x27 =>
 pLoad H_2 x27 fun x28 =>
 pNil d0 fun x30 =>
 pFieldAddr 0 x30 fun x31 =>
 CallsH Tryd.prog 53 #[x28, x31] H_2 fun x32 H_3 =>
 pExtract 0 x32 fun x33 =>
 pExtract 1 x32 fun x34 =>
 pNe 0 x34 (.int .i64 0) fun x36 =>
 pCond x36
 (R x34 H_3)
 (CallsH Tryd.prog 72 #[x33] H_3 fun x41 H_4 =>
 pExtract 0 x41 fun x42 =>
 pExtract 1 x41 fun x43 =>
 pExtract 2 x41 fun x44 =>
 CallsH Tryd.prog 70 #[d0, x42, x43, x44] H_4 fun x45 H_5 =>
 pExtract 0 x45 fun x46 =>
 pExtract 1 x45 fun x47 =>
 pNe 0 x47 (.int .i64 0) fun x49 =>
 pCond x49
 (R x47 H_5)
 (pNil d0 fun x53 =>
 pFieldAddr 3 x53 fun x54 =>
 CallsH Tryd.prog 73 #[x54, x19, x46] H_5 fun x57 H_6 =>
 pExtract 0 x57 fun x58 =>
 pExtract 1 x57 fun x59 =>
 pNot x59 fun x61 =>
 pCond x61
 (R (.int .i64 6) H_6)
 (pNil d0 fun x63 =>
 pFieldAddr 5 x63 fun x64 =>
 CallsH Tryd.prog 51 #[x64, x58] H_6 fun x66 H_7 =>
 R (.int .i64 0) H_7))))
set_option maxRecDepth 100000 in
theorem inflate_Decoder_match.vc (d0 : Value) (s1 : Value) (H0 : Heap) (R : Value → Heap → Prop) (h : inflate_Decoder_match.res d0 s1 H0 R) : CallsH Tryd.prog 54 #[d0, s1] H0 R := by
  have e : vcFn Tryd.prog Tryd.C Tryd.f54 inflate_Decoder_match.an [d0, s1] H0 R = inflate_Decoder_match.res d0 s1 H0 R := by kernel_rfl
  exact vcFn_sound Tryd.callable Tryd.mixed Tryd.func54 (by kernel_rfl) (e.mpr h)

def inflate_teller.an : Ann := (.seq (.reg (.op 0 [] (.op 1 [] .nil))) (.seq (.reg (.op 0 [] (.op 1 [] .nil))) (.seq (.seq (.reg (.op 0 [] (.op 1 [] (.op 2 [] (.op 3 [] .nil))))) (.block (.loop [15] [4, 5, 8, 9, 10, 15, 16, 17, 18, 19, 20, 21, 22, 23, 24, 25, 26, 27, 28, 29, 30, 31] (.seq (.reg (.op 0 [] .nil)) (.seq (.cond .leaf .leaf) (.seq (.block (.seq (.reg (.op 0 [] (.op 1 [] (.op 2 [] .nil)))) (.seq (.reg (.op 0 [] (.op 1 [] (.op 2 [] (.op 3 [] (.op 4 [] (.op 5 [] (.op 6 [] .nil)))))))) (.seq (.seq (.reg (.op 0 [] (.op 1 [] .nil))) (.cond (.seq (.reg (.op 0 [] (.op 1 [] (.op 2 [] .nil)))) .leaf) .leaf)) (.reg (.op 0 [] (.op 1 [] (.op 2 [] (.op 3 [] (.op 4 [] .nil)))))))))) (.reg (.op 0 [] (.op 1 [] .nil))))))))) (.seq (.reg (.op 0 [] (.op 1 [] (.op 2 [] (.op 3 [] (.op 4 [] (.op 5 [] .nil))))))) .leaf))))
/-- lighter/inflate.teller -/
def inflate_teller.res (r0 : Value) (n1 : Value) (H0 : Heap) (R : Value → Heap → Prop) : Prop :=
 pMakeSl H0 3 8 [(.int .i64 0)] (.int .i64 19) (.int .i64 19) fun x11 H_1 =>
 pSlArr 19 1 (.pointer (some ⟨0, 0, none⟩)) none (some n1) fun x13 =>
 pLen x13 fun x14 =>
 ∃ (I_2 : Value → Heap → Prop) (m_3 : Value → Heap → Nat), I_2 (.int .i64 0) H_1 ∧
 ∀ _ : Env, ∀ x15 : Value, ∀ H_4 : Heap, I_2 x15 H_4 →
 pLt x15 x14 fun x16 =>
 pCond x16
 (pIdxSl 1 x13 x15 fun x17 =>
 pLoad H_4 x17 fun x18 =>
 CallsH Tryd.prog 46 #[r0, (.int .i64 3)] H_4 fun x21 H_5 =>
 pExtract 0 x21 fun x22 =>
 pExtract 1 x21 fun x23 =>
 pNe 0 x23 (.int .i64 0) fun x25 =>
 pCond x25
 (R (.tuple #[(.pointer none), x23]) H_5)
 (pIdxSl 1 x11 x18 fun x30 =>
 pStore H_5 x30 x22 fun _ H_6 =>
 pAdd x15 (.int .i64 1) fun x31 =>
 I_2 x31 H_6 ∧ m_3 x31 H_6 < m_3 x15 H_4))
 (CallsH Tryd.prog 63 #[x11, (.bool false)] H_4 fun x33 H_7 =>
 pExtract 0 x33 fun x34 =>
 pExtract 1 x33 fun x35 =>
 R (.tuple #[x34, x35]) H_7)
set_option maxRecDepth 100000 in
theorem inflate_teller.vc (r0 : Value) (n1 : Value) (H0 : Heap) (R : Value → Heap → Prop) (h : inflate_teller.res r0 n1 H0 R) : CallsH Tryd.prog 64 #[r0, n1] H0 R := by
  have e : vcFn Tryd.prog Tryd.C Tryd.f64 inflate_teller.an [r0, n1] H0 R = inflate_teller.res r0 n1 H0 R := by kernel_rfl
  exact vcFn_sound Tryd.callable Tryd.mixed Tryd.func64 (by kernel_rfl) (e.mpr h)

def inflate_lengths.an : Ann := (.seq (.reg (.op 0 [] (.op 1 [] .nil))) (.seq (.reg (.op 0 [] .nil)) (.seq (.block (.loop [8] [6, 7, 8, 9, 10, 11, 12, 13, 14, 15, 16, 17, 18, 19, 20, 21, 22, 23, 24, 25, 26, 27, 28, 29, 30, 31, 32, 33, 34, 35, 36, 37, 38, 39, 40, 41, 42, 43, 44, 45, 46, 47, 48, 49, 50, 51, 52] (.seq (.seq (.reg (.op 0 [] (.op 1 [] (.op 2 [] (.op 3 [] .nil))))) (.cond .leaf .leaf)) (.block (.seq (.reg (.op 0 [] (.op 1 [] (.op 2 [] (.op 3 [] (.op 4 [] (.op 5 [] (.op 6 [] (.op 7 [] .nil))))))))) (.seq (.seq (.reg (.op 0 [] (.op 1 [] .nil))) (.cond (.seq (.reg (.op 0 [] (.op 1 [] (.op 2 [] .nil)))) .leaf) .leaf)) (.seq (.reg (.op 0 [] (.op 1 [] (.op 2 [] (.op 3 [] (.op 4 [] (.op 5 [] (.op 6 [] (.op 7 [] (.op 8 [] (.op 9 [] (.op 10 [] .nil)))))))))))) (.seq (.block (.seq (.reg (.op 0 [] (.op 1 [] (.op 2 [] .nil)))) (.cond (.seq (.reg (.op 0 [] (.op 1 [] (.op 2 [] .nil)))) .leaf) (.seq (.reg (.op 0 [] (.op 1 [] (.op 2 [] (.op 3 [] (.op 4 [] (.op 5 [] (.op 6 [] .nil)))))))) (.cond (.seq (.reg (.op 0 [] (.op 1 [] .nil))) .leaf) .leaf))))) (.seq (.reg (.op 0 [] (.op 1 [] .nil))) (.block (.loop [8, 46] [8, 46, 47, 48, 49, 50, 51, 52] (.seq (.reg (.op 0 [] .nil)) (.seq (.cond .leaf .leaf) (.seq (.block (.reg (.op 0 [] (.op 1 [] (.op 2 [] (.op 3 [] (.op 4 [] .nil))))))) (.reg (.op 0 [] (.op 1 [] .nil))))))))))))))))) (.seq (.reg (.op 0 [] (.op 1 [] (.op 2 [] .nil)))) .leaf))))
/-- lighter/inflate.lengths -/
def inflate_lengths.res (r0 : Value) (c1 : Value) (n2 : Value) (H0 : Heap) (R : Value → Heap → Prop) : Prop :=
 ∃ (I_1 : Value → Heap → Prop) (m_2 : Value → Heap → Nat), I_1 (.slice none 0 0) H0 ∧
 ∀ _ : Env, ∀ out8 : Value, ∀ H_3 : Heap, I_1 out8 H_3 →
 pLen out8 fun x14 =>
 pLt x14 n2 fun x16 =>
 pCond x16
 (CallsH Tryd.prog 53 #[c1, r0] H_3 fun x20 H_4 =>
 pExtract 0 x20 fun x21 =>
 pExtract 1 x20 fun x22 =>
 pNe 0 x22 (.int .i64 0) fun x24 =>
 pCond x24
 (R (.tuple #[(.slice none 0 0), x22]) H_4)
 (CallsH Tryd.prog 85 #[r0, x21, out8] H_4 fun x30 H_5 =>
 pExtract 0 x30 fun x31 =>
 pExtract 1 x30 fun x32 =>
 pExtract 2 x30 fun x33 =>
 pNe 0 x33 (.int .i64 0) fun x36 =>
 pCond x36
 (R (.tuple #[(.slice none 0 0), x33]) H_5)
 (pLen out8 fun x42 =>
 pSub n2 x42 fun x43 =>
 pGt x31 x43 fun x44 =>
 pCond x44
 (R (.tuple #[(.slice none 0 0), (.int .i64 20)]) H_5)
 (∃ (I_6 : Value → Value → Heap → Prop) (m_7 : Value → Value → Heap → Nat), I_6 out8 (.int .i64 0) H_5 ∧
 ∀ _ : Env, ∀ out8' : Value, ∀ x46 : Value, ∀ H_8 : Heap, I_6 out8' x46 H_8 →
 pLt x46 x31 fun x47 =>
 pCond x47
 (pBuildSl H_8 3 1 [(.int .i64 0)] [(0, 1, x32)] fun x50 H_9 =>
 pAppend H_9 3 1 8 [(.int .i64 0)] out8' x50 fun x51 H_10 =>
 pAdd x46 (.int .i64 1) fun x52 =>
 I_6 x51 x52 H_10 ∧ m_7 x51 x52 H_10 < m_7 out8' x46 H_8)
 (I_1 out8' H_8 ∧ m_2 out8' H_8 < m_2 out8 H_3)))))
 (R (.tuple #[out8, (.int .i64 0)]) H_3)
set_option maxRecDepth 100000 in
theorem inflate_lengths.vc (r0 : Value) (c1 : Value) (n2 : Value) (H0 : Heap) (R : Value → Heap → Prop) (h : inflate_lengths.res r0 c1 n2 H0 R) : CallsH Tryd.prog 65 #[r0, c1, n2] H0 R := by
  have e : vcFn Tryd.prog Tryd.C Tryd.f65 inflate_lengths.an [r0, c1, n2] H0 R = inflate_lengths.res r0 c1 n2 H0 R := by kernel_rfl
  exact vcFn_sound Tryd.callable Tryd.mixed Tryd.func65 (by kernel_rfl) (e.mpr h)

def inflate_Decoder_extra.an : Ann := (.seq (.reg (.op 0 [] (.op 1 [] .nil))) (.seq (.seq (.reg (.op 0 [] (.op 1 [] .nil))) (.cond (.seq (.reg (.op 0 [] (.op 1 [] .nil))) .leaf) .leaf)) (.seq (.reg (.op 0 [] (.op 1 [] (.op 2 [] (.op 3 [] (.op 4 [] (.op 5 [] (.op 6 [] (.op 7 [] (.op 8 [] (.op 9 [] .nil))))))))))) (.seq (.reg (.op 0 [] (.op 1 [] (.op 2 [] (.op 3 [] (.op 4 [] (.op 5 [] .nil))))))) .leaf))))
/-- (*lighter/inflate.Decoder).extra -/
def inflate_Decoder_extra.res (d0 : Value) (least1 : Value) (n2 : Value) (ok3 : Value) (H0 : Heap) (R : Value → Heap → Prop) : Prop :=
 pNot ok3 fun x13 =>
 pCond x13
 (R (.tuple #[(.int .i64 0), (.int .i64 4)]) H0)
 (pNil d0 fun x16 =>
 pFieldAddr 0 x16 fun x17 =>
 CallsH Tryd.prog 46 #[x17, n2] H0 fun x19 H_1 =>
 pExtract 0 x19 fun x20 =>
 pExtract 1 x19 fun x21 =>
 pAdd least1 x20 fun x24 =>
 R (.tuple #[x24, x21]) H_1)
set_option maxRecDepth 100000 in
theorem inflate_Decoder_extra.vc (d0 : Value) (least1 : Value) (n2 : Value) (ok3 : Value) (H0 : Heap) (R : Value → Heap → Prop) (h : inflate_Decoder_extra.res d0 least1 n2 ok3 H0 R) : CallsH Tryd.prog 70 #[d0, least1, n2, ok3] H0 R := by
  have e : vcFn Tryd.prog Tryd.C Tryd.f70 inflate_Decoder_extra.an [d0, least1, n2, ok3] H0 R = inflate_Decoder_extra.res d0 least1 n2 ok3 H0 R := by kernel_rfl
  exact vcFn_sound Tryd.callable Tryd.mixed Tryd.func70 (by kernel_rfl) (e.mpr h)

def inflate_repeat.an : Ann := (.seq (.reg (.op 0 [] (.op 1 [] (.op 2 [] .nil)))) (.seq (.reg (.op 0 [] (.op 1 [] (.op 2 [] .nil)))) (.cut [9, 10, 11] [6, 7, 8, 9, 10, 11, 14, 15, 16, 17, 18, 19, 20, 21, 22, 23, 24, 25, 26, 27, 28, 29, 30] (.seq (.reg (.op 0 [] .nil)) (.block (.seq (.reg (.op 0 [] (.op 1 [] .nil))) (.cond (.seq (.seq (.reg (.op 0 [] (.op 1 [] (.op 2 [] .nil)))) (.cond (.seq (.reg (.op 0 [] (.op 1 [] (.op 2 [] .nil)))) .leaf) .leaf)) (.reg (.op 0 [] (.op 1 [] (.op 2 [] (.op 3 [] (.op 4 [] (.op 5 [] (.op 6 [] .nil))))))))) (.seq (.reg (.op 0 [] (.op 1 [] .nil))) (.cond (.reg (.op 0 [] .nil)) (.seq (.reg (.op 0 [] (.op 1 [] .nil))) (.cond (.reg (.op 0 [] (.op 1 [] .nil))) (.seq (.reg (.op 0 [] (.op 1 [] (.op 2 [] (.op 3 [] .nil))))) .leaf))))))))) (.seq (.reg (.op 0 [] (.op 1 [] (.op 2 [] (.op 3 [] (.op 4 [] (.op 5 [] (.op 6 [] (.op 7 [] .nil))))))))) (.seq (.reg (.op 0 [] (.op 1 [] (.op 2 [] (.op 3 [] (.op 4 [] (.op 5 [] (.op 6 [] (.op 7 [] .nil))))))))) .leaf)))))
/-- lighter/inflate.repeat -/
def inflate_repeat.res (r0 : Value) (s1 : Value) (ahead2 : Value) (H0 : Heap) (R : Value → Heap → Prop) : Prop :=
 ∃ J_1 : Value → Value → Value → Heap → Prop, (∀ _ : Env, ∀ least9 : Value, ∀ extra10 : Value, ∀ value11 : Value, ∀ H_2 : Heap, J_1 least9 extra10 value11 H_2 →
 CallsH Tryd.prog 46 #[r0, extra10] H_2 fun x34 H_3 =>
 pExtract 0 x34 fun x35 =>
 pExtract 1 x34 fun x36 =>
 pAdd least9 x35 fun x39 =>
 R (.tuple #[x39, value11, x36]) H_3) ∧
 pEq 0 s1 (.int .i64 16) fun x17 =>
 pCond x17
 (pLen ahead2 fun x19 =>
 pEq 0 x19 (.int .i64 0) fun x20 =>
 pCond x20
 (R (.tuple #[(.int .i64 0), (.int .i64 0), (.int .i64 3)]) H0)
 (pLen ahead2 fun x23 =>
 pSub x23 (.int .i64 1) fun x24 =>
 pIdxSl 1 ahead2 x24 fun x25 =>
 pLoad H0 x25 fun x26 =>
 J_1 (.int .i64 3) (.int .i64 2) x26 H0))
 (pEq 0 s1 (.int .i64 17) fun x28 =>
 pCond x28
 (J_1 (.int .i64 3) (.int .i64 3) (.int .i64 0) H0)
 (pEq 0 s1 (.int .i64 18) fun x30 =>
 pCond x30
 (J_1 (.int .i64 11) (.int .i64 7) (.int .i64 0) H0)
 (R (.tuple #[(.int .i64 1), s1, (.int .i64 0)]) H0)))
set_option maxRecDepth 100000 in
theorem inflate_repeat.vc (r0 : Value) (s1 : Value) (ahead2 : Value) (H0 : Heap) (R : Value → Heap → Prop) (h : inflate_repeat.res r0 s1 ahead2 H0 R) : CallsH Tryd.prog 85 #[r0, s1, ahead2] H0 R := by
  have e : vcFn Tryd.prog Tryd.C Tryd.f85 inflate_repeat.an [r0, s1, ahead2] H0 R = inflate_repeat.res r0 s1 ahead2 H0 R := by kernel_rfl
  exact vcFn_sound Tryd.callable Tryd.mixed Tryd.func85 (by kernel_rfl) (e.mpr h)

def bits_Put.an : Ann := (.seq (.reg (.op 0 [] .nil)) (.seq (.seq (.reg (.op 0 [] (.op 1 [] (.op 2 [] (.grp 2 (.op 3 [] (.op 4 [] .nil)) 5 .nil))))) (.cond (.seq (.reg (.op 0 [] .nil)) .leaf) .leaf)) (.seq (.reg (.op 0 [] (.op 1 [] (.op 2 [] .nil)))) (.seq (.seq (.reg (.op 0 [] (.op 1 [] (.op 2 [] .nil)))) (.block (.loop [17] [6, 17, 18, 19, 20, 21, 22, 23, 24, 25, 26, 27, 28] (.seq (.reg (.op 0 [] .nil)) (.seq (.cond .leaf .leaf) (.seq (.block (.seq (.reg (.op 0 [] (.op 1 [] .nil))) (.reg (.op 0 [] (.op 1 [] (.op 2 [] (.op 3 [] (.op 4 [] (.op 5 [] (.op 6 [] (.op 7 [] (.op 8 [] .nil)))))))))))) (.reg (.op 0 [] (.op 1 [] .nil))))))))) (.seq (.reg (.op 0 [] (.op 1 [] (.op 2 [] .nil)))) .leaf)))))
/-- lighter/bits.Put -/
def bits_Put.res (n0 : Value) (size1 : Value) (H0 : Heap) (R : Value → Heap → Prop) : Prop :=
 pLt size1 (.int .i64 1) fun x8 =>
 pOr x8 (fun J_1 =>
 pGt size1 (.int .i64 8) fun x11 =>
 J_1 x11 H0) H0 fun x12 H_2 => ∀ _ : Env,
 pCond x12
 (R (str []) H_2)
 (pMakeSl H_2 5 1 [(.int .u8 0)] size1 size1 fun x14 H_3 =>
 pLen x14 fun x16 =>
 ∃ (I_4 : Value → Heap → Prop) (m_5 : Value → Heap → Nat), I_4 (.int .i64 0) H_3 ∧
 ∀ _ : Env, ∀ x17 : Value, ∀ H_6 : Heap, I_4 x17 H_6 →
 pLt x17 x16 fun x18 =>
 pCond x18
 (pMul (.int .i64 8) x17 fun x24 =>
 pShr n0 x24 fun x25 =>
 pConv .u8 x25 fun x26 =>
 pIdxSl 1 x14 x17 fun x27 =>
 pStore H_6 x27 x26 fun _ H_7 =>
 pAdd x17 (.int .i64 1) fun x28 =>
 I_4 x28 H_7 ∧ m_5 x28 H_7 < m_5 x17 H_6)
 (pStrOf H_6 x14 fun x30 =>
 R x30 H_6))
set_option maxRecDepth 100000 in
theorem bits_Put.vc (n0 : Value) (size1 : Value) (H0 : Heap) (R : Value → Heap → Prop) (h : bits_Put.res n0 size1 H0 R) : CallsH Tryd.prog 14 #[n0, size1] H0 R := by
  have e : vcFn Tryd.prog Tryd.C Tryd.f14 bits_Put.an [n0, size1] H0 R = bits_Put.res n0 size1 H0 R := by kernel_rfl
  exact vcFn_sound Tryd.callable Tryd.mixed Tryd.func14 (by kernel_rfl) (e.mpr h)

def bits_Writer_Write.an : Ann := (.seq (.seq (.reg (.op 0 [] (.op 1 [] (.op 2 [] (.grp 2 (.op 3 [] (.op 4 [] .nil)) 5 (.op 6 [] (.grp 6 (.op 7 [] (.op 8 [] .nil)) 9 .nil))))))) (.cond .leaf .leaf)) (.seq (.drw [0, 1, 3, 7, 0, 0, 32, 96, 240, 0, 512, 1536, 3584, 8176, 16383, 32767, 65535, 131071] (.op 0 [] (.op 1 [] (.op 2 [] (.op 3 [] (.op 4 [] (.op 5 [] (.op 6 [] (.op 7 [] (.op 8 [] (.op 9 [] (.op 10 [] (.op 11 [] (.op 12 [] (.op 13 [] (.op 14 [] (.op 15 [] (.op 16 [] (.op 17 [] .nil))))))))))))))))))) (.seq (.reg (.op 0 [] (.op 1 [] (.op 2 [] (.op 3 [] (.op 4 [] (.op 5 [] (.op 6 [] (.op 7 [] (.op 8 [] .nil)))))))))) (.reg (.op 0 [] (.op 1 [] .nil))))))
/-- (*lighter/bits.Writer).Write -/
def bits_Writer_Write.res (w0 : Value) (v1 : Value) (n2 : Value) (H0 : Heap) (R : Value → Heap → Prop) : Prop :=
 pEq 3 w0 (.pointer none) fun x7 =>
 pOr x7 (fun J_1 =>
 pLt n2 (.int .i64 1) fun x10 =>
 J_1 x10 H0) H0 fun x11 H_2 => ∀ _ : Env,
 pOr x11 (fun J_3 =>
 pGt n2 (.int .i64 32) fun x14 =>
 J_3 x14 H_2) H_2 fun x15 H_4 => ∀ _ : Env,
 pCond x15
 (R (.tuple #[]) H_4)
 (pNil w0 fun x17 =>
 pFieldAddr 1 x17 fun x18 =>
 pLoad H_4 x18 fun x19 =>
 pShl (.int .u64 1) n2 fun x22 =>
 pSub x22 (.int .u64 1) fun x23 =>
 pBits .and v1 x23 fun x24 =>
 pNil w0 fun x26 =>
 pFieldAddr 2 x26 fun x27 =>
 pLoad H_4 x27 fun x28 =>
 pShl x24 x28 fun x29 =>
 pBits .or x19 x29 fun x30 =>
 pNil w0 fun x31 =>
 pFieldAddr 1 x31 fun x32 =>
 pStore H_4 x32 x30 fun _ H_5 =>
 pNil w0 fun x34 =>
 pFieldAddr 2 x34 fun x35 =>
 pLoad H_5 x35 fun x36 =>
 pAdd x36 n2 fun x38 =>
 pNil w0 fun x39 =>
 pFieldAddr 2 x39 fun x40 =>
 pStore H_5 x40 x38 fun _ H_6 =>
 CallsH Tryd.prog 36 #[w0] H_6 fun x42 H_7 =>
 R (.tuple #[]) H_7)
set_option maxRecDepth 100000 in
theorem bits_Writer_Write.vc (w0 : Value) (v1 : Value) (n2 : Value) (H0 : Heap) (R : Value → Heap → Prop) (h : bits_Writer_Write.res w0 v1 n2 H0 R) : CallsH Tryd.prog 16 #[w0, v1, n2] H0 R := by
  have e : vcFn Tryd.prog Tryd.C Tryd.f16 bits_Writer_Write.an [w0, v1, n2] H0 R = bits_Writer_Write.res w0 v1 n2 H0 R := by kernel_rfl
  exact vcFn_sound Tryd.callable Tryd.mixed Tryd.func16 (by kernel_rfl) (e.mpr h)

def bits_Writer_Align.an : Ann := (.seq (.reg (.op 0 [] (.op 1 [] (.op 2 [] (.grp 2 (.op 3 [] (.op 4 [] (.op 5 [] (.op 6 [] (.op 7 [] .nil))))) 8 .nil))))) (.cond (.reg (.op 0 [] (.op 1 [] (.op 2 [] (.op 3 [] (.op 4 [] (.op 5 [] (.op 6 [] .nil)))))))) .leaf))
/-- (*lighter/bits.Writer).Align -/
def bits_Writer_Align.res (w0 : Value) (H0 : Heap) (R : Value → Heap → Prop) : Prop :=
 pNe 3 w0 (.pointer none) fun x3 =>
 pAnd x3 (fun J_1 =>
 pNil w0 fun x6 =>
 pFieldAddr 2 x6 fun x7 =>
 pLoad H0 x7 fun x8 =>
 pGt x8 (.int .i64 0) fun x9 =>
 J_1 x9 H0) H0 fun x10 H_2 => ∀ _ : Env,
 pCond x10
 (pNil w0 fun x13 =>
 pFieldAddr 2 x13 fun x14 =>
 pLoad H_2 x14 fun x15 =>
 pSub (.int .i64 8) x15 fun x16 =>
 CallsH Tryd.prog 16 #[w0, (.int .u64 0), x16] H_2 fun x17 H_3 =>
 R (.tuple #[]) H_3)
 (R (.tuple #[]) H_2)
set_option maxRecDepth 100000 in
theorem bits_Writer_Align.vc (w0 : Value) (H0 : Heap) (R : Value → Heap → Prop) (h : bits_Writer_Align.res w0 H0 R) : CallsH Tryd.prog 23 #[w0] H0 R := by
  have e : vcFn Tryd.prog Tryd.C Tryd.f23 bits_Writer_Align.an [w0] H0 R = bits_Writer_Align.res w0 H0 R := by kernel_rfl
  exact vcFn_sound Tryd.callable Tryd.mixed Tryd.func23 (by kernel_rfl) (e.mpr h)

def bits_Writer_Drain.an : Ann := (.seq (.reg (.op 0 [] .nil)) (.seq (.seq (.reg (.op 0 [] (.op 1 [] .nil))) (.cond (.seq (.reg (.op 0 [] .nil)) .leaf) .leaf)) (.seq (.reg (.op 0 [] (.op 1 [] (.op 2 [] (.op 3 [] (.op 4 [] (.op 5 [] .nil))))))) (.seq (.reg (.op 0 [] (.op 1 [] (.op 2 [] (.op 3 [] (.op 4 [] (.op 5 [] (.op 6 [] (.op 7 [] (.op 8 [] .nil)))))))))) (.seq (.reg (.op 0 [] (.op 1 [] .nil))) .leaf)))))
/-- (*lighter/bits.Writer).Drain -/
def bits_Writer_Drain.res (w0 : Value) (H0 : Heap) (R : Value → Heap → Prop) : Prop :=
 pEq 3 w0 (.pointer none) fun x5 =>
 pCond x5
 (R (str []) H0)
 (pNil w0 fun x7 =>
 pFieldAddr 0 x7 fun x8 =>
 pLoad H0 x8 fun x9 =>
 pStrOf H0 x9 fun x10 =>
 pNil w0 fun x13 =>
 pFieldAddr 0 x13 fun x14 =>
 pLoad H0 x14 fun x15 =>
 pSlSl 1 x15 none (some (.int .i64 0)) fun x16 =>
 pNil w0 fun x17 =>
 pFieldAddr 0 x17 fun x18 =>
 pStore H0 x18 x16 fun _ H_1 =>
 R x10 H_1)
set_option maxRecDepth 100000 in
theorem bits_Writer_Drain.vc (w0 : Value) (H0 : Heap) (R : Value → Heap → Prop) (h : bits_Writer_Drain.res w0 H0 R) : CallsH Tryd.prog 24 #[w0] H0 R := by
  have e : vcFn Tryd.prog Tryd.C Tryd.f24 bits_Writer_Drain.an [w0] H0 R = bits_Writer_Drain.res w0 H0 R := by kernel_rfl
  exact vcFn_sound Tryd.callable Tryd.mixed Tryd.func24 (by kernel_rfl) (e.mpr h)

def bits_Reader_Feed.an : Ann := (.seq (.reg (.op 0 [] (.op 1 [] .nil))) (.cond (.reg (.op 0 [] (.op 1 [] (.op 2 [] (.op 3 [] (.op 4 [] (.op 5 [] (.op 6 [] (.op 7 [] (.op 8 [] .nil)))))))))) .leaf))
/-- (*lighter/bits.Reader).Feed -/
def bits_Reader_Feed.res (r0 : Value) (s1 : Value) (H0 : Heap) (R : Value → Heap → Prop) : Prop :=
 pNe 3 r0 (.pointer none) fun x5 =>
 pCond x5
 (pNil r0 fun x7 =>
 pFieldAddr 0 x7 fun x8 =>
 pLoad H0 x8 fun x9 =>
 pAdd x9 s1 fun x11 =>
 pNil r0 fun x12 =>
 pFieldAddr 0 x12 fun x13 =>
 pStore H0 x13 x11 fun _ H_1 =>
 R (.tuple #[]) H_1)
 (R (.tuple #[]) H0)
set_option maxRecDepth 100000 in
theorem bits_Reader_Feed.vc (r0 : Value) (s1 : Value) (H0 : Heap) (R : Value → Heap → Prop) (h : bits_Reader_Feed.res r0 s1 H0 R) : CallsH Tryd.prog 29 #[r0, s1] H0 R := by
  have e : vcFn Tryd.prog Tryd.C Tryd.f29 bits_Reader_Feed.an [r0, s1] H0 R = bits_Reader_Feed.res r0 s1 H0 R := by kernel_rfl
  exact vcFn_sound Tryd.callable Tryd.mixed Tryd.func29 (by kernel_rfl) (e.mpr h)

def bits_Reader_Take.an : Ann := (.seq (.reg (.op 0 [] .nil)) (.seq (.seq (.reg (.op 0 [] (.op 1 [] .nil))) (.cond (.seq (.reg (.op 0 [] .nil)) .leaf) .leaf)) (.seq (.reg (.op 0 [] (.op 1 [] .nil))) (.seq (.seq (.reg (.op 0 [] (.op 1 [] .nil))) (.cond (.seq (.reg (.op 0 [] .nil)) .leaf) .leaf)) (.seq (.reg (.op 0 [] .nil)) (.seq (.block (.loop [1, 5] [1, 5, 13, 14, 15, 16, 17, 18, 19, 20, 21, 22, 23, 24, 25, 26, 27, 28, 29, 30, 31, 32, 33] (.seq (.seq (.reg (.op 0 [] (.op 1 [] (.op 2 [] (.grp 2 (.op 3 [] (.op 4 [] (.op 5 [] (.op 6 [] (.op 7 [] .nil))))) 8 .nil))))) (.cond .leaf .leaf)) (.seq (.block (.seq (.reg (.op 0 [] (.op 1 [] (.op 2 [] (.op 3 [] (.op 4 [] (.op 5 [] (.op 6 [] (.op 7 [] (.op 8 [] .nil)))))))))) (.reg (.op 0 [] (.op 1 [] .nil))))) (.reg (.op 0 [] (.op 1 [] (.op 2 [] .nil)))))))) (.seq (.reg (.op 0 [] (.op 1 [] (.op 2 [] (.op 3 [] (.op 4 [] (.op 5 [] (.op 6 [] (.op 7 [] .nil))))))))) (.seq (.drw [0, 1, 0, 4, 12, 28, 0, 124, 255, 511] (.op 0 [] (.op 1 [] (.op 2 [] (.op 3 [] (.op 4 [] (.op 5 [] (.op 6 [] (.op 7 [] (.op 8 [] (.op 9 [] .nil))))))))))) (.seq (.reg (.op 0 [] (.op 1 [] (.op 2 [] (.op 3 [] (.op 4 [] (.op 5 [] (.op 6 [] (.op 7 [] (.op 8 [] (.op 9 [] .nil))))))))))) (.seq (.reg (.op 0 [] (.op 1 [] .nil))) .leaf))))))))))
/-- (*lighter/bits.Reader).Take -/
def bits_Reader_Take.res (r0 : Value) (n1 : Value) (H0 : Heap) (R : Value → Heap → Prop) : Prop :=
 pEq 3 r0 (.pointer none) fun x8 =>
 pCond x8
 (R (str []) H0)
 (CallsH Tryd.prog 43 #[r0] H0 fun x10 H_1 =>
 pLe n1 (.int .i64 0) fun x12 =>
 pCond x12
 (R (str []) H_1)
 (∃ (I_2 : Value → Value → Heap → Prop) (m_3 : Value → Value → Heap → Nat), I_2 n1 (.slice none 0 0) H_1 ∧
 ∀ _ : Env, ∀ n1' : Value, ∀ b5 : Value, ∀ H_4 : Heap, I_2 n1' b5 H_4 →
 pGt n1' (.int .i64 0) fun x14 =>
 pAnd x14 (fun J_5 =>
 pNil r0 fun x17 =>
 pFieldAddr 2 x17 fun x18 =>
 pLoad H_4 x18 fun x19 =>
 pGt x19 (.int .i64 0) fun x20 =>
 J_5 x20 H_4) H_4 fun x21 H_6 => ∀ _ : Env,
 pCond x21
 (pNil r0 fun x26 =>
 pFieldAddr 1 x26 fun x27 =>
 pLoad H_6 x27 fun x28 =>
 pConv .u8 x28 fun x29 =>
 pBuildSl H_6 5 1 [(.int .u8 0)] [(0, 1, x29)] fun x30 H_7 =>
 pAppend H_7 5 1 1 [(.int .u8 0)] b5 x30 fun x31 H_8 =>
 CallsH Tryd.prog 44 #[r0, (.int .i64 8)] H_8 fun x33 H_9 =>
 pSub n1' (.int .i64 1) fun x23 =>
 I_2 x23 x31 H_9 ∧ m_3 x23 x31 H_9 < m_3 n1' b5 H_4)
 (pNil r0 fun x36 =>
 pFieldAddr 0 x36 fun x37 =>
 pLoad H_6 x37 fun x38 =>
 pLenS x38 fun x39 =>
 pMin n1' x39 fun x40 =>
 pStrOf H_6 b5 fun x42 =>
 pNil r0 fun x44 =>
 pFieldAddr 0 x44 fun x45 =>
 pLoad H_6 x45 fun x46 =>
 pSlStr x46 none (some x40) fun x48 =>
 pAdd x42 x48 fun x49 =>
 pNil r0 fun x52 =>
 pFieldAddr 0 x52 fun x53 =>
 pLoad H_6 x53 fun x54 =>
 pSlStr x54 (some x40) none fun x56 =>
 pNil r0 fun x57 =>
 pFieldAddr 0 x57 fun x58 =>
 pStore H_6 x58 x56 fun _ H_10 =>
 R x49 H_10)))
set_option maxRecDepth 100000 in
theorem bits_Reader_Take.vc (r0 : Value) (n1 : Value) (H0 : Heap) (R : Value → Heap → Prop) (h : bits_Reader_Take.res r0 n1 H0 R) : CallsH Tryd.prog 33 #[r0, n1] H0 R := by
  have e : vcFn Tryd.prog Tryd.C Tryd.f33 bits_Reader_Take.an [r0, n1] H0 R = bits_Reader_Take.res r0 n1 H0 R := by kernel_rfl
  exact vcFn_sound Tryd.callable Tryd.mixed Tryd.func33 (by kernel_rfl) (e.mpr h)

def bits_Reader_Left.an : Ann := (.seq (.reg (.op 0 [] .nil)) (.seq (.seq (.reg (.op 0 [] (.op 1 [] .nil))) (.cond (.seq (.reg (.op 0 [] .nil)) .leaf) .leaf)) (.seq (.drw [0, 1, 3, 7, 0, 16, 48, 112, 240, 496, 1023, 2047] (.op 0 [] (.op 1 [] (.op 2 [] (.op 3 [] (.op 4 [] (.op 5 [] (.op 6 [] (.op 7 [] (.op 8 [] (.op 9 [] (.op 10 [] (.op 11 [] .nil))))))))))))) .leaf)))
/-- (*lighter/bits.Reader).Left -/
def bits_Reader_Left.res (r0 : Value) (H0 : Heap) (R : Value → Heap → Prop) : Prop :=
 pEq 3 r0 (.pointer none) fun x4 =>
 pCond x4
 (R (.int .i64 0) H0)
 (pNil r0 fun x6 =>
 pFieldAddr 2 x6 fun x7 =>
 pLoad H0 x7 fun x8 =>
 pNil r0 fun x10 =>
 pFieldAddr 0 x10 fun x11 =>
 pLoad H0 x11 fun x12 =>
 pLenS x12 fun x13 =>
 pMul (.int .i64 8) x13 fun x14 =>
 pAdd x8 x14 fun x15 =>
 R x15 H0)
set_option maxRecDepth 100000 in
theorem bits_Reader_Left.vc (r0 : Value) (H0 : Heap) (R : Value → Heap → Prop) (h : bits_Reader_Left.res r0 H0 R) : CallsH Tryd.prog 34 #[r0] H0 R := by
  have e : vcFn Tryd.prog Tryd.C Tryd.f34 bits_Reader_Left.an [r0] H0 R = bits_Reader_Left.res r0 H0 R := by kernel_rfl
  exact vcFn_sound Tryd.callable Tryd.mixed Tryd.func34 (by kernel_rfl) (e.mpr h)

def bits_Writer_spill.an : Ann := (.block (.loop [] [2, 3, 4, 5, 6, 7, 8, 9, 10, 11, 12, 13, 14, 15, 16, 17, 18, 19, 20, 21, 22, 23, 24, 25, 26, 27, 28, 29, 30, 31, 32, 33, 34] (.seq (.seq (.reg (.op 0 [] (.op 1 [] (.op 2 [] (.op 3 [] (.op 4 [] .nil)))))) (.cond .leaf .leaf)) (.seq (.block (.seq (.drw [0, 0, 2, 6, 14, 0, 32, 96, 224, 480, 992, 2046, 4095, 8191, 16383] (.op 0 [] (.op 1 [] (.op 2 [] (.op 3 [] (.op 4 [] (.op 5 [] (.op 6 [] (.op 7 [] (.op 8 [] (.op 9 [] (.op 10 [4] (.op 11 [] (.op 12 [] (.op 13 [] (.op 14 [] .nil)))))))))))))))) (.reg (.op 0 [] (.op 1 [] (.op 2 [] (.op 3 [] (.op 4 [] (.op 5 [] (.op 6 [] (.op 7 [] .nil))))))))))) (.reg (.op 0 [] (.op 1 [] (.op 2 [] (.op 3 [] (.op 4 [] (.op 5 [] (.op 6 [] (.op 7 [] .nil)))))))))))))
/-- (*lighter/bits.Writer).spill -/
def bits_Writer_spill.res (w0 : Value) (H0 : Heap) (R : Value → Heap → Prop) : Prop :=
 ∃ (I_1 : Heap → Prop) (m_2 : Heap → Nat), I_1 H0 ∧
 ∀ _ : Env, ∀ H_3 : Heap, I_1 H_3 →
 pNil w0 fun x3 =>
 pFieldAddr 2 x3 fun x4 =>
 pLoad H_3 x4 fun x5 =>
 pGe x5 (.int .i64 8) fun x6 =>
 pCond x6
 (pNil w0 fun x16 =>
 pFieldAddr 0 x16 fun x17 =>
 pLoad H_3 x17 fun x18 =>
 pNil w0 fun x20 =>
 pFieldAddr 1 x20 fun x21 =>
 pLoad H_3 x21 fun x22 =>
 pConv .u8 x22 fun x23 =>
 pBuildSl H_3 5 1 [(.int .u8 0)] [(0, 1, x23)] fun x24 H_4 =>
 (pLoad H_4 x17 fun r_ =>
 r_ = x18) ∧
 pAppend H_4 5 1 1 [(.int .u8 0)] x18 x24 fun x25 H_5 =>
 pNil w0 fun x26 =>
 pFieldAddr 0 x26 fun x27 =>
 pStore H_5 x27 x25 fun _ H_6 =>
 pNil w0 fun x29 =>
 pFieldAddr 1 x29 fun x30 =>
 pLoad H_6 x30 fun x31 =>
 pShr x31 (.int .u64 8) fun x32 =>
 pNil w0 fun x33 =>
 pFieldAddr 1 x33 fun x34 =>
 pStore H_6 x34 x32 fun _ H_7 =>
 pNil w0 fun x8 =>
 pFieldAddr 2 x8 fun x9 =>
 pLoad H_7 x9 fun x10 =>
 pSub x10 (.int .i64 8) fun x11 =>
 pNil w0 fun x12 =>
 pFieldAddr 2 x12 fun x13 =>
 pStore H_7 x13 x11 fun _ H_8 =>
 I_1 H_8 ∧ m_2 H_8 < m_2 H_3)
 (R (.tuple #[]) H_3)
set_option maxRecDepth 100000 in
theorem bits_Writer_spill.vc (w0 : Value) (H0 : Heap) (R : Value → Heap → Prop) (h : bits_Writer_spill.res w0 H0 R) : CallsH Tryd.prog 36 #[w0] H0 R := by
  have e : vcFn Tryd.prog Tryd.C Tryd.f36 bits_Writer_spill.an [w0] H0 R = bits_Writer_spill.res w0 H0 R := by kernel_rfl
  exact vcFn_sound Tryd.callable Tryd.mixed Tryd.func36 (by kernel_rfl) (e.mpr h)

def bits_Writer_Add.an : Ann := (.seq (.reg (.op 0 [] (.op 1 [] .nil))) (.cond (.seq (.reg (.op 0 [] (.op 1 [] .nil))) (.reg (.op 0 [] (.op 1 [] (.op 2 [] (.op 3 [] (.op 4 [] (.op 5 [] (.op 6 [] (.op 7 [] (.op 8 [] (.op 9 [] .nil)))))))))))) .leaf))
/-- (*lighter/bits.Writer).Add -/
def bits_Writer_Add.res (w0 : Value) (s1 : Value) (H0 : Heap) (R : Value → Heap → Prop) : Prop :=
 pNe 3 w0 (.pointer none) fun x5 =>
 pCond x5
 (CallsH Tryd.prog 23 #[w0] H0 fun x7 H_1 =>
 pNil w0 fun x10 =>
 pFieldAddr 0 x10 fun x11 =>
 pLoad H_1 x11 fun x12 =>
 pAppend H_1 5 1 1 [(.int .u8 0)] x12 s1 fun x14 H_2 =>
 pNil w0 fun x15 =>
 pFieldAddr 0 x15 fun x16 =>
 pStore H_2 x16 x14 fun _ H_3 =>
 R (.tuple #[]) H_3)
 (R (.tuple #[]) H0)
set_option maxRecDepth 100000 in
theorem bits_Writer_Add.vc (w0 : Value) (s1 : Value) (H0 : Heap) (R : Value → Heap → Prop) (h : bits_Writer_Add.res w0 s1 H0 R) : CallsH Tryd.prog 37 #[w0, s1] H0 R := by
  have e : vcFn Tryd.prog Tryd.C Tryd.f37 bits_Writer_Add.an [w0, s1] H0 R = bits_Writer_Add.res w0 s1 H0 R := by kernel_rfl
  exact vcFn_sound Tryd.callable Tryd.mixed Tryd.func37 (by kernel_rfl) (e.mpr h)

def bits_Reader_Align.an : Ann := (.seq (.reg (.op 0 [] (.op 1 [] .nil))) (.cond (.reg (.op 0 [] (.op 1 [] (.op 2 [] (.op 3 [] (.op 4 [] (.op 5 [] (.op 6 [] .nil)))))))) .leaf))
/-- (*lighter/bits.Reader).Align -/
def bits_Reader_Align.res (r0 : Value) (H0 : Heap) (R : Value → Heap → Prop) : Prop :=
 pNe 3 r0 (.pointer none) fun x3 =>
 pCond x3
 (pNil r0 fun x6 =>
 pFieldAddr 2 x6 fun x7 =>
 pLoad H0 x7 fun x8 =>
 pRem x8 (.int .i64 8) fun x9 =>
 CallsH Tryd.prog 44 #[r0, x9] H0 fun x10 H_1 =>
 R (.tuple #[]) H_1)
 (R (.tuple #[]) H0)
set_option maxRecDepth 100000 in
theorem bits_Reader_Align.vc (r0 : Value) (H0 : Heap) (R : Value → Heap → Prop) (h : bits_Reader_Align.res r0 H0 R) : CallsH Tryd.prog 43 #[r0] H0 R := by
  have e : vcFn Tryd.prog Tryd.C Tryd.f43 bits_Reader_Align.an [r0] H0 R = bits_Reader_Align.res r0 H0 R := by kernel_rfl
  exact vcFn_sound Tryd.callable Tryd.mixed Tryd.func43 (by kernel_rfl) (e.mpr h)

def bits_Reader_drop.an : Ann := (.seq (.reg (.op 0 [] (.op 1 [] (.op 2 [] (.op 3 [] (.op 4 [] (.op 5 [] (.op 6 [] (.op 7 [] (.op 8 [] .nil)))))))))) (.reg (.op 0 [] (.op 1 [] (.op 2 [] (.op 3 [] (.op 4 [] (.op 5 [] (.op 6 [] (.op 7 [] (.op 8 [] .nil)))))))))))
/-- (*lighter/bits.Reader).drop -/
def bits_Reader_drop.res (r0 : Value) (n1 : Value) (H0 : Heap) (R : Value → Heap → Prop) : Prop :=
 pNil r0 fun x5 =>
 pFieldAddr 1 x5 fun x6 =>
 pLoad H0 x6 fun x7 =>
 pShr x7 n1 fun x9 =>
 pNil r0 fun x10 =>
 pFieldAddr 1 x10 fun x11 =>
 pStore H0 x11 x9 fun _ H_1 =>
 pNil r0 fun x13 =>
 pFieldAddr 2 x13 fun x14 =>
 pLoad H_1 x14 fun x15 =>
 pSub x15 n1 fun x17 =>
 pNil r0 fun x18 =>
 pFieldAddr 2 x18 fun x19 =>
 pStore H_1 x19 x17 fun _ H_2 =>
 R (.tuple #[]) H_2
set_option maxRecDepth 100000 in
theorem bits_Reader_drop.vc (r0 : Value) (n1 : Value) (H0 : Heap) (R : Value → Heap → Prop) (h : bits_Reader_drop.res r0 n1 H0 R) : CallsH Tryd.prog 44 #[r0, n1] H0 R := by
  have e : vcFn Tryd.prog Tryd.C Tryd.f44 bits_Reader_drop.an [r0, n1] H0 R = bits_Reader_drop.res r0 n1 H0 R := by kernel_rfl
  exact vcFn_sound Tryd.callable Tryd.mixed Tryd.func44 (by kernel_rfl) (e.mpr h)

def bits_Reader_Read.an : Ann := (.seq (.reg (.op 0 [] (.op 1 [] .nil))) (.seq (.reg (.op 0 [] (.op 1 [] (.op 2 [] (.op 3 [] (.op 4 [] (.op 5 [] (.op 6 [] (.op 7 [] .nil))))))))) (.cut [] [14, 15, 16, 17] (.seq (.reg (.op 0 [] .nil)) (.cond (.reg (.op 0 [] (.op 1 [] (.op 2 [] .nil)))) .leaf)) (.seq (.reg (.op 0 [] (.op 1 [] (.op 2 [] (.op 3 [] .nil))))) .leaf))))
/-- (*lighter/bits.Reader).Read -/
def bits_Reader_Read.res (r0 : Value) (n1 : Value) (H0 : Heap) (R : Value → Heap → Prop) : Prop :=
 CallsH Tryd.prog 67 #[r0, n1] H0 fun x11 H_1 =>
 pExtract 0 x11 fun x12 =>
 pExtract 1 x11 fun x13 =>
 ∃ J_2 : Heap → Prop, (∀ _ : Env, ∀ H_3 : Heap, J_2 H_3 →
 R (.tuple #[x12, x13]) H_3) ∧
 pCond x13
 (CallsH Tryd.prog 44 #[r0, n1] H_1 fun x17 H_4 =>
 J_2 H_4)
 (J_2 H_1)
set_option maxRecDepth 100000 in
theorem bits_Reader_Read.vc (r0 : Value) (n1 : Value) (H0 : Heap) (R : Value → Heap → Prop) (h : bits_Reader_Read.res r0 n1 H0 R) : CallsH Tryd.prog 62 #[r0, n1] H0 R := by
  have e : vcFn Tryd.prog Tryd.C Tryd.f62 bits_Reader_Read.an [r0, n1] H0 R = bits_Reader_Read.res r0 n1 H0 R := by kernel_rfl
  exact vcFn_sound Tryd.callable Tryd.mixed Tryd.func62 (by kernel_rfl) (e.mpr h)

def bits_Reader_Peek.an : Ann := (.seq (.reg (.op 0 [] (.op 1 [] .nil))) (.seq (.seq (.reg (.op 0 [] (.op 1 [] (.op 2 [] (.grp 2 (.op 3 [] (.op 4 [] .nil)) 5 (.op 6 [] (.grp 6 (.op 7 [] (.op 8 [] .nil)) 9 (.op 10 [] (.grp 10 (.op 11 [] (.op 12 [] (.op 13 [] (.op 14 [] .nil)))) 15 .nil))))))))) (.cond (.seq (.reg (.op 0 [] (.op 1 [] .nil))) .leaf) .leaf)) (.seq (.reg (.op 0 [] (.op 1 [] (.op 2 [] .nil)))) (.seq (.drw [0, 1, 3, 7, 0, 16, 48, 127, 255, 511] (.op 0 [] (.op 1 [] (.op 2 [] (.op 3 [] (.op 4 [] (.op 5 [] (.op 6 [] (.op 7 [] (.op 8 [] (.op 9 [] .nil))))))))))) .leaf))))
/-- (*lighter/bits.Reader).Peek -/
def bits_Reader_Peek.res (r0 : Value) (n1 : Value) (H0 : Heap) (R : Value → Heap → Prop) : Prop :=
 pEq 3 r0 (.pointer none) fun x7 =>
 pOr x7 (fun J_1 =>
 pLt n1 (.int .i64 0) fun x10 =>
 J_1 x10 H0) H0 fun x11 H_2 => ∀ _ : Env,
 pOr x11 (fun J_3 =>
 pGt n1 (.int .i64 32) fun x14 =>
 J_3 x14 H_2) H_2 fun x15 H_4 => ∀ _ : Env,
 pOr x15 (fun J_5 =>
 CallsH Tryd.prog 34 #[r0] H_4 fun x18 H_7 =>
 pLt x18 n1 fun x20 =>
 J_5 x20 H_7) H_4 fun x21 H_6 => ∀ _ : Env,
 pCond x21
 (R (.tuple #[(.int .u64 0), (.bool false)]) H_6)
 (CallsH Tryd.prog 87 #[r0, n1] H_6 fun x24 H_8 =>
 pNil r0 fun x26 =>
 pFieldAddr 1 x26 fun x27 =>
 pLoad H_8 x27 fun x28 =>
 pShl (.int .u64 1) n1 fun x30 =>
 pSub x30 (.int .u64 1) fun x31 =>
 pBits .and x28 x31 fun x32 =>
 R (.tuple #[x32, (.bool true)]) H_8)
set_option maxRecDepth 100000 in
theorem bits_Reader_Peek.vc (r0 : Value) (n1 : Value) (H0 : Heap) (R : Value → Heap → Prop) (h : bits_Reader_Peek.res r0 n1 H0 R) : CallsH Tryd.prog 67 #[r0, n1] H0 R := by
  have e : vcFn Tryd.prog Tryd.C Tryd.f67 bits_Reader_Peek.an [r0, n1] H0 R = bits_Reader_Peek.res r0 n1 H0 R := by kernel_rfl
  exact vcFn_sound Tryd.callable Tryd.mixed Tryd.func67 (by kernel_rfl) (e.mpr h)

def bits_Reader_fill.an : Ann := (.block (.loop [] [4, 5, 6, 7, 8, 9, 10, 11, 12, 13, 14, 15, 16, 17, 18, 19, 20, 21, 22, 23, 24, 25, 26, 27, 28, 29, 30, 31, 32, 33, 34, 35, 36, 37, 38, 39, 40, 41, 42, 43, 44, 45, 46, 47, 48, 49] (.seq (.seq (.reg (.op 0 [] (.op 1 [] (.op 2 [] (.op 3 [] (.op 4 [] (.op 5 [] (.op 6 [] (.grp 6 (.op 7 [] (.op 8 [] (.op 9 [] (.op 10 [] (.op 11 [] .nil))))) 12 .nil))))))))) (.cond .leaf .leaf)) (.block (.seq (.drw [0, 1, 3, 7, 0, 16, 48, 112, 240, 496, 0, 1024, 3072, 7168, 16368, 32767, 65535, 131071, 262143] (.op 0 [] (.op 1 [] (.op 2 [] (.op 3 [] (.op 4 [] (.op 5 [] (.op 6 [] (.op 7 [] (.op 8 [] (.op 9 [] (.op 10 [] (.op 11 [] (.op 12 [] (.op 13 [] (.op 14 [] (.op 15 [] (.op 16 [] (.op 17 [] (.op 18 [] .nil)))))))))))))))))))) (.seq (.reg (.op 0 [] (.op 1 [] (.op 2 [] (.op 3 [] (.op 4 [] (.op 5 [] (.op 6 [] (.op 7 [] (.op 8 [] .nil)))))))))) (.reg (.op 0 [] (.op 1 [] (.op 2 [] (.op 3 [] (.op 4 [] (.op 5 [] (.op 6 [] (.op 7 [] .nil)))))))))))))))
/-- (*lighter/bits.Reader).fill -/
def bits_Reader_fill.res (r0 : Value) (n1 : Value) (H0 : Heap) (R : Value → Heap → Prop) : Prop :=
 ∃ (I_1 : Heap → Prop) (m_2 : Heap → Nat), I_1 H0 ∧
 ∀ _ : Env, ∀ H_3 : Heap, I_1 H_3 →
 pNil r0 fun x5 =>
 pFieldAddr 2 x5 fun x6 =>
 pLoad H_3 x6 fun x7 =>
 pLt x7 n1 fun x9 =>
 pAnd x9 (fun J_4 =>
 pNil r0 fun x12 =>
 pFieldAddr 0 x12 fun x13 =>
 pLoad H_3 x13 fun x14 =>
 pNe 1 x14 (str []) fun x15 =>
 J_4 x15 H_3) H_3 fun x16 H_5 => ∀ _ : Env,
 pCond x16
 (pNil r0 fun x18 =>
 pFieldAddr 1 x18 fun x19 =>
 pLoad H_5 x19 fun x20 =>
 pNil r0 fun x22 =>
 pFieldAddr 0 x22 fun x23 =>
 pLoad H_5 x23 fun x24 =>
 pIdxStr x24 (.int .i64 0) fun x25 =>
 pConv .u64 x25 fun x26 =>
 pNil r0 fun x28 =>
 pFieldAddr 2 x28 fun x29 =>
 pLoad H_5 x29 fun x30 =>
 pShl x26 x30 fun x31 =>
 pBits .or x20 x31 fun x32 =>
 pNil r0 fun x33 =>
 pFieldAddr 1 x33 fun x34 =>
 pStore H_5 x34 x32 fun _ H_6 =>
 pNil r0 fun x37 =>
 pFieldAddr 0 x37 fun x38 =>
 pLoad H_6 x38 fun x39 =>
 pSlStr x39 (some (.int .i64 1)) none fun x40 =>
 pNil r0 fun x41 =>
 pFieldAddr 0 x41 fun x42 =>
 pStore H_6 x42 x40 fun _ H_7 =>
 pNil r0 fun x44 =>
 pFieldAddr 2 x44 fun x45 =>
 pLoad H_7 x45 fun x46 =>
 pAdd x46 (.int .i64 8) fun x47 =>
 pNil r0 fun x48 =>
 pFieldAddr 2 x48 fun x49 =>
 pStore H_7 x49 x47 fun _ H_8 =>
 I_1 H_8 ∧ m_2 H_8 < m_2 H_3)
 (R (.tuple #[]) H_5)
set_option maxRecDepth 100000 in
theorem bits_Reader_fill.vc (r0 : Value) (n1 : Value) (H0 : Heap) (R : Value → Heap → Prop) (h : bits_Reader_fill.res r0 n1 H0 R) : CallsH Tryd.prog 87 #[r0, n1] H0 R := by
  have e : vcFn Tryd.prog Tryd.C Tryd.f87 bits_Reader_fill.an [r0, n1] H0 R = bits_Reader_fill.res r0 n1 H0 R := by kernel_rfl
  exact vcFn_sound Tryd.callable Tryd.mixed Tryd.func87 (by kernel_rfl) (e.mpr h)

end Go.Proofs.YtpnkoniomalcpaaDoor
