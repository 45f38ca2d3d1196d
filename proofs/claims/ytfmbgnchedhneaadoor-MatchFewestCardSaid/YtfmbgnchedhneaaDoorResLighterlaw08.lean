/- The residuals of package lighterlaw08's functions, printed by resid.py. -/
import Derived.Test.YtfmbgnchedhneaaDoorVcSeat
namespace Go.Proofs.YtfmbgnchedhneaaDoor
open Go Go.Vc Go.Proofs
set_option linter.unusedVariables false
set_option maxHeartbeats 4000000
def lighterlaw08_MatchLongest.an : Ann := (.seq (.reg (.op 0 [] .nil)) (.seq (.seq (.reg (.op 0 [] (.op 1 [] .nil))) (.cond (.seq (.reg (.op 0 [] .nil)) .leaf) .leaf)) (.seq (.drw [0, 0, 2, 6, 15, 0, 0, 64, 192, 480, 31, 2047] (.op 0 [] (.op 1 [] (.op 2 [] (.op 3 [] (.op 4 [] (.op 5 [] (.op 6 [] (.op 7 [] (.op 8 [] (.op 9 [] (.op 10 [] (.op 11 [] .nil))))))))))))) (.seq (.reg (.op 0 [] (.op 1 [] (.op 2 [] (.op 3 [] (.op 4 [] (.op 5 [] (.op 6 [] (.op 7 [] .nil))))))))) (.seq (.reg (.op 0 [] (.op 1 [] (.op 2 [] (.op 3 [] (.op 4 [] (.op 5 [] (.op 6 [] (.op 7 [] .nil))))))))) (.seq (.reg (.op 0 [] (.op 1 [] (.op 2 [] (.op 3 [] (.grp 3 (.op 4 [] (.op 5 [] (.op 6 [] .nil))) 7 (.op 8 [] .nil))))))) .leaf))))))
/-- lighter/lighterlaw08.MatchLongest -/
def lighterlaw08_MatchLongest.res (ahead0 : Value) (s1 : Value) (H0 : Heap) (R : Value → Heap → Prop) : Prop :=
 CallsH Tryd.prog 9 #[] H0 fun x9 H_1 =>
 pNot x9 fun x10 =>
 pCond x10
 (R (.bool false) H_1)
 (pLenS ahead0 fun x13 =>
 pMin x13 (.int .i64 600) fun x14 =>
 pSlStr ahead0 none (some x14) fun x15 =>
 pLenS s1 fun x18 =>
 pMin x18 (.int .i64 600) fun x19 =>
 pSlStr s1 none (some x19) fun x20 =>
 CallsH Tryd.prog 10 #[x15, x20] H_1 fun x24 H_2 =>
 pExtract 0 x24 fun x25 =>
 pExtract 1 x24 fun x26 =>
 CallsH Tryd.prog 11 #[x15, x20] H_2 fun x30 H_3 =>
 pExtract 0 x30 fun x31 =>
 pExtract 1 x30 fun x32 =>
 pEq 0 x25 x31 fun x35 =>
 pAnd x35 (fun J_4 =>
 pEq 0 x26 x32 fun x39 =>
 J_4 x39 H_3) H_3 fun x40 H_5 => ∀ _ : Env,
 R x40 H_5)
set_option maxRecDepth 100000 in
theorem lighterlaw08_MatchLongest.vc (ahead0 : Value) (s1 : Value) (H0 : Heap) (R : Value → Heap → Prop) (h : lighterlaw08_MatchLongest.res ahead0 s1 H0 R) : CallsH Tryd.prog 3 #[ahead0, s1] H0 R := by
  have e : vcFn Tryd.prog Tryd.C Tryd.f3 lighterlaw08_MatchLongest.an [ahead0, s1] H0 R = lighterlaw08_MatchLongest.res ahead0 s1 H0 R := by kernel_rfl
  exact vcFn_sound Tryd.callable Tryd.mixed Tryd.func3 (by kernel_rfl) (e.mpr h)

def lighterlaw08_MatchRuns.an : Ann := (.seq (.reg (.op 0 [] .nil)) (.seq (.seq (.reg (.op 0 [] (.op 1 [] .nil))) (.cond (.seq (.reg (.op 0 [] .nil)) .leaf) .leaf)) (.seq (.reg (.op 0 [] (.op 1 [] (.op 2 [] (.op 3 [] (.op 4 [] (.op 5 [] (.op 6 [] (.op 7 [] (.op 8 [] .nil)))))))))) (.seq (.reg (.op 0 [] .nil)) (.seq (.seq (.reg (.op 0 [] .nil)) (.block (.loop [7, 8] [7, 8, 20, 21, 22, 23, 24, 25, 26, 27, 28, 29] (.seq (.seq (.reg (.op 0 [] (.op 1 [] (.op 2 [] .nil)))) (.cond .leaf .leaf)) (.seq (.block (.reg (.op 0 [] (.op 1 [] (.op 2 [] (.op 3 [] (.op 4 [] (.op 5 [] .nil)))))))) (.reg (.op 0 [] (.op 1 [] (.op 2 [] .nil))))))))) (.seq (.reg (.op 0 [] (.op 1 [] (.op 2 [] (.op 3 [] (.op 4 [] (.op 5 [] (.op 6 [] (.op 7 [] .nil))))))))) (.seq (.reg (.op 0 [] (.op 1 [] (.op 2 [] (.grp 2 (.op 3 [] (.op 4 [] (.op 5 [] (.op 6 [] (.op 7 [] (.op 8 [] .nil)))))) 9 (.op 10 [] .nil)))))) .leaf)))))))
/-- lighter/lighterlaw08.MatchRuns -/
def lighterlaw08_MatchRuns.res (b0 : Value) (n1 : Value) (level2 : Value) (H0 : Heap) (R : Value → Heap → Prop) : Prop :=
 CallsH Tryd.prog 9 #[] H0 fun x11 H_1 =>
 pNot x11 fun x12 =>
 pCond x12
 (R (.bool false) H_1)
 (pBits .and n1 (.int .i64 2047) fun x14 =>
 pAdd (.int .i64 4) x14 fun x15 =>
 pBits .and level2 (.int .i64 15) fun x17 =>
 pRem x17 (.int .i64 9) fun x18 =>
 pAdd (.int .i64 1) x18 fun x19 =>
 ∃ (I_2 : Value → Value → Heap → Prop) (m_3 : Value → Value → Heap → Nat), I_2 (str []) (.int .i64 0) H_1 ∧
 ∀ _ : Env, ∀ s7 : Value, ∀ i8 : Value, ∀ H_4 : Heap, I_2 s7 i8 H_4 →
 pLt i8 x15 fun x22 =>
 pCond x22
 (pBuildSl H_4 5 1 [(.int .u8 0)] [(0, 1, b0)] fun x27 H_5 =>
 pStrOf H_5 x27 fun x28 =>
 pAdd s7 x28 fun x29 =>
 pAdd i8 (.int .i64 1) fun x24 =>
 I_2 x29 x24 H_5 ∧ m_3 x29 x24 H_5 < m_3 s7 i8 H_4)
 (CallsH Tryd.prog 12 #[(str []), s7, x19] H_4 fun x33 H_6 =>
 pExtract 0 x33 fun x34 =>
 pExtract 1 x33 fun x35 =>
 pEq 0 x35 (.int .i64 0) fun x37 =>
 pAnd x37 (fun J_7 =>
 pLen x34 fun x40 =>
 pQuo x15 (.int .i64 258) fun x42 =>
 pAdd (.int .i64 3) x42 fun x43 =>
 pLe x40 x43 fun x44 =>
 J_7 x44 H_6) H_6 fun x45 H_8 => ∀ _ : Env,
 R x45 H_8))
set_option maxRecDepth 100000 in
theorem lighterlaw08_MatchRuns.vc (b0 : Value) (n1 : Value) (level2 : Value) (H0 : Heap) (R : Value → Heap → Prop) (h : lighterlaw08_MatchRuns.res b0 n1 level2 H0 R) : CallsH Tryd.prog 4 #[b0, n1, level2] H0 R := by
  have e : vcFn Tryd.prog Tryd.C Tryd.f4 lighterlaw08_MatchRuns.an [b0, n1, level2] H0 R = lighterlaw08_MatchRuns.res b0 n1 level2 H0 R := by kernel_rfl
  exact vcFn_sound Tryd.callable Tryd.mixed Tryd.func4 (by kernel_rfl) (e.mpr h)

def lighterlaw08_MatchTokens.an : Ann := (.seq (.reg (.op 0 [] .nil)) (.seq (.seq (.reg (.op 0 [] (.op 1 [] .nil))) (.cond (.seq (.reg (.op 0 [] .nil)) .leaf) .leaf)) (.seq (.drw [0, 0, 2, 6, 15, 0, 0, 64, 192, 480, 31, 2047] (.op 0 [] (.op 1 [] (.op 2 [] (.op 3 [] (.op 4 [] (.op 5 [] (.op 6 [] (.op 7 [] (.op 8 [] (.op 9 [] (.op 10 [] (.op 11 [] .nil))))))))))))) (.seq (.reg (.op 0 [] (.op 1 [] (.op 2 [] (.op 3 [] (.op 4 [] (.op 5 [] (.op 6 [] (.op 7 [] (.op 8 [] .nil)))))))))) (.seq (.seq (.reg (.op 0 [] (.op 1 [] (.op 2 [] (.grp 2 (.op 3 [] (.op 4 [] .nil)) 5 .nil))))) (.cond (.seq (.reg (.op 0 [] (.op 1 [] (.op 2 [] (.grp 2 (.op 3 [] (.op 4 [] (.op 5 [] .nil))) 6 (.op 7 [] .nil)))))) .leaf) .leaf)) (.seq (.reg (.op 0 [] (.op 1 [] (.op 2 [] (.op 3 [] (.op 4 [] (.op 5 [] (.op 6 [] (.op 7 [] .nil))))))))) (.seq (.seq (.reg (.op 0 [] (.op 1 [] (.op 2 [] (.grp 2 (.op 3 [] (.op 4 [] .nil)) 5 (.op 6 [] (.grp 6 (.op 7 [] (.op 8 [] (.op 9 [] .nil))) 10 .nil))))))) (.cond (.seq (.reg (.op 0 [] .nil)) .leaf) .leaf)) (.seq (.seq (.reg (.op 0 [] .nil)) (.block (.loop [11] [6, 11, 67, 68, 69, 70, 71, 72, 73, 74, 75, 76, 77, 78, 79, 80, 81, 82] (.seq (.seq (.reg (.op 0 [] (.op 1 [] (.op 2 [] (.op 3 [] .nil))))) (.cond .leaf .leaf)) (.seq (.block (.seq (.reg (.op 0 [] (.op 1 [] (.op 2 [] (.grp 2 (.op 3 [] (.op 4 [] (.op 5 [] (.op 6 [] (.op 7 [] (.op 8 [] .nil)))))) 9 .nil))))) (.cond (.seq (.reg (.op 0 [] .nil)) .leaf) .leaf))) (.reg (.op 0 [] (.op 1 [] (.op 2 [] .nil))))))))) (.seq (.reg (.op 0 [] (.op 1 [] (.op 2 [] (.op 3 [] (.op 4 [] (.op 5 [] (.op 6 [] (.op 7 [] (.op 8 [] (.op 9 [] .nil))))))))))) (.seq (.seq (.reg (.op 0 [] (.op 1 [] (.op 2 [] (.op 3 [] (.grp 3 (.op 4 [] (.op 5 [] (.op 6 [] (.op 7 [] (.op 8 [] .nil))))) 9 .nil)))))) (.cond (.seq (.reg (.op 0 [] .nil)) .leaf) .leaf)) (.seq (.seq (.reg (.op 0 [] (.op 1 [] (.op 2 [] (.grp 2 (.op 3 [] (.op 4 [] (.op 5 [] .nil))) 6 .nil))))) (.cond (.seq (.reg (.op 0 [] .nil)) .leaf) .leaf)) (.seq (.reg (.op 0 [] (.op 1 [] (.op 2 [] (.op 3 [] (.op 4 [] (.op 5 [] (.op 6 [] (.op 7 [] .nil))))))))) (.seq (.seq (.reg (.op 0 [] (.op 1 [] (.op 2 [] (.op 3 [] (.op 4 [] .nil)))))) (.cond (.seq (.reg (.op 0 [] (.op 1 [] (.op 2 [] (.op 3 [] (.op 4 [] (.op 5 [] (.op 6 [] (.grp 6 (.op 7 [] (.op 8 [] (.op 9 [] (.op 10 [] (.op 11 [] (.op 12 [] .nil)))))) 13 (.op 14 [] .nil)))))))))) .leaf) .leaf)) (.seq (.drw [0, 0, 2, 7, 0, 16, 63, 127, 255, 255, 511, 2047] (.op 0 [] (.op 1 [] (.op 2 [] (.op 3 [] (.op 4 [] (.op 5 [] (.op 6 [] (.op 7 [] (.op 8 [] (.op 9 [] (.op 10 [] (.op 11 [] .nil))))))))))))) (.seq (.reg (.op 0 [] (.op 1 [] (.op 2 [] (.grp 2 (.op 3 [] (.op 4 [] (.op 5 [] .nil))) 6 (.op 7 [] .nil)))))) .leaf)))))))))))))))
/-- lighter/lighterlaw08.MatchTokens -/
def lighterlaw08_MatchTokens.res (ahead0 : Value) (s1 : Value) (level2 : Value) (H0 : Heap) (R : Value → Heap → Prop) : Prop :=
 CallsH Tryd.prog 9 #[] H0 fun x18 H_1 =>
 pNot x18 fun x19 =>
 pCond x19
 (R (.bool false) H_1)
 (pLenS ahead0 fun x22 =>
 pMin x22 (.int .i64 900) fun x23 =>
 pSlStr ahead0 none (some x23) fun x24 =>
 pLenS s1 fun x27 =>
 pMin x27 (.int .i64 900) fun x28 =>
 pSlStr s1 none (some x28) fun x29 =>
 CallsH Tryd.prog 12 #[x24, x29, level2] H_1 fun x34 H_2 =>
 pExtract 0 x34 fun x35 =>
 pExtract 1 x34 fun x36 =>
 pLt level2 (.int .i64 0) fun x38 =>
 pOr x38 (fun J_3 =>
 pGt level2 (.int .i64 9) fun x41 =>
 J_3 x41 H_2) H_2 fun x42 H_4 => ∀ _ : Env,
 pCond x42
 (pEq 0 x36 (.int .i64 1) fun x44 =>
 pAnd x44 (fun J_5 =>
 pLen x35 fun x47 =>
 pEq 0 x47 (.int .i64 0) fun x48 =>
 J_5 x48 H_4) H_4 fun x49 H_6 => ∀ _ : Env,
 R x49 H_6)
 (CallsH Tryd.prog 21 #[x24, x35] H_4 fun x53 H_7 =>
 pExtract 0 x53 fun x54 =>
 pExtract 1 x53 fun x55 =>
 pNe 0 x36 (.int .i64 0) fun x57 =>
 pOr x57 (fun J_8 =>
 pNot x55 fun x60 =>
 J_8 x60 H_7) H_7 fun x61 H_9 => ∀ _ : Env,
 pOr x61 (fun J_10 =>
 pNe 1 x54 x29 fun x65 =>
 J_10 x65 H_9) H_9 fun x66 H_11 => ∀ _ : Env,
 pCond x66
 (R (.bool false) H_11)
 (∃ (I_12 : Value → Heap → Prop) (m_13 : Value → Heap → Nat), I_12 (.int .i64 0) H_11 ∧
 ∀ _ : Env, ∀ i11 : Value, ∀ H_14 : Heap, I_12 i11 H_14 →
 pLen x35 fun x69 =>
 pLt i11 x69 fun x70 =>
 pCond x70
 (pEq 0 level2 (.int .i64 0) fun x74 =>
 pAnd x74 (fun J_15 =>
 pIdxSl 3 x35 i11 fun x78 =>
 pFieldAddr 1 x78 fun x79 =>
 pLoad H_14 x79 fun x80 =>
 pGt x80 (.int .i64 0) fun x81 =>
 J_15 x81 H_14) H_14 fun x82 H_16 => ∀ _ : Env,
 pCond x82
 (R (.bool false) H_16)
 (pAdd i11 (.int .i64 1) fun x72 =>
 I_12 x72 H_16 ∧ m_13 x72 H_16 < m_13 i11 H_14))
 (pAdd (str [122, 122]) x24 fun x85 =>
 CallsH Tryd.prog 12 #[x85, x29, level2] H_14 fun x88 H_17 =>
 pExtract 0 x88 fun x89 =>
 pExtract 1 x88 fun x90 =>
 pLenS x24 fun x92 =>
 pEq 0 x92 (.int .i64 0) fun x93 =>
 pAnd x93 (fun J_18 =>
 pLen x89 fun x96 =>
 pLenS x29 fun x98 =>
 pGt x96 x98 fun x99 =>
 J_18 x99 H_17) H_17 fun x100 H_19 => ∀ _ : Env,
 pCond x100
 (R (.bool false) H_19)
 (pLt level2 (.int .i64 9) fun x102 =>
 pOr x102 (fun J_20 =>
 pLenS x29 fun x105 =>
 pEq 0 x105 (.int .i64 0) fun x106 =>
 J_20 x106 H_19) H_19 fun x107 H_21 => ∀ _ : Env,
 pCond x107
 (R (.bool true) H_21)
 (CallsH Tryd.prog 11 #[x24, x29] H_21 fun x111 H_22 =>
 pExtract 0 x111 fun x112 =>
 pExtract 1 x111 fun x113 =>
 pIdxSl 3 x35 (.int .i64 0) fun x115 =>
 pFieldAddr 1 x115 fun x116 =>
 pLoad H_22 x116 fun x117 =>
 pGt x117 (.int .i64 0) fun x118 =>
 pCond x118
 (pIdxSl 3 x35 (.int .i64 0) fun x120 =>
 pFieldAddr 1 x120 fun x121 =>
 pLoad H_22 x121 fun x122 =>
 pEq 0 x122 x112 fun x124 =>
 pAnd x124 (fun J_23 =>
 pIdxSl 3 x35 (.int .i64 0) fun x127 =>
 pFieldAddr 2 x127 fun x128 =>
 pLoad H_22 x128 fun x129 =>
 pEq 0 x129 x113 fun x131 =>
 J_23 x131 H_22) H_22 fun x132 H_24 => ∀ _ : Env,
 R x132 H_24)
 (pSlStr x29 none (some (.int .i64 1)) fun x136 =>
 pAdd x24 x136 fun x137 =>
 pSlStr x29 (some (.int .i64 1)) none fun x139 =>
 CallsH Tryd.prog 11 #[x137, x139] H_22 fun x140 H_25 =>
 pExtract 0 x140 fun x141 =>
 pExtract 1 x140 fun x142 =>
 pEq 0 x112 (.int .i64 0) fun x144 =>
 pOr x144 (fun J_26 =>
 pGt x141 x112 fun x148 =>
 J_26 x148 H_25) H_25 fun x149 H_27 => ∀ _ : Env,
 R x149 H_27)))))))
set_option maxRecDepth 100000 in
theorem lighterlaw08_MatchTokens.vc (ahead0 : Value) (s1 : Value) (level2 : Value) (H0 : Heap) (R : Value → Heap → Prop) (h : lighterlaw08_MatchTokens.res ahead0 s1 level2 H0 R) : CallsH Tryd.prog 6 #[ahead0, s1, level2] H0 R := by
  have e : vcFn Tryd.prog Tryd.C Tryd.f6 lighterlaw08_MatchTokens.an [ahead0, s1, level2] H0 R = lighterlaw08_MatchTokens.res ahead0 s1 level2 H0 R := by kernel_rfl
  exact vcFn_sound Tryd.callable Tryd.mixed Tryd.func6 (by kernel_rfl) (e.mpr h)

def lighterlaw08_MatchFar.an : Ann := (.seq (.reg (.op 0 [] .nil)) (.seq (.seq (.reg (.op 0 [] (.op 1 [] .nil))) (.cond (.seq (.reg (.op 0 [] .nil)) .leaf) .leaf)) (.seq (.drw [0, 0, 2, 6, 15, 0, 0, 64, 192, 480, 0, 0, 2048, 6144, 15360, 31, 33791, 131071] (.op 0 [] (.op 1 [] (.op 2 [] (.op 3 [] (.op 4 [] (.op 5 [] (.op 6 [] (.op 7 [] (.op 8 [] (.op 9 [] (.op 10 [] (.op 11 [] (.op 12 [] (.op 13 [] (.op 14 [] (.op 15 [] (.op 16 [] (.op 17 [] .nil))))))))))))))))))) (.seq (.reg (.op 0 [] (.op 1 [] (.op 2 [] .nil)))) (.seq (.reg (.op 0 [] (.op 1 [] (.op 2 [] (.op 3 [] (.op 4 [] (.op 5 [] (.op 6 [] (.op 7 [] (.op 8 [] (.op 9 [] .nil))))))))))) (.seq (.reg (.op 0 [] (.op 1 [] (.op 2 [] (.op 3 [] (.op 4 [] (.op 5 [] (.op 6 [] (.op 7 [] (.op 8 [] (.op 9 [] .nil))))))))))) (.seq (.seq (.reg (.op 0 [] (.op 1 [] (.op 2 [] (.grp 2 (.op 3 [] (.op 4 [] .nil)) 5 (.op 6 [] (.grp 6 (.op 7 [] (.op 8 [] (.op 9 [] (.op 10 [] (.op 11 [] .nil))))) 12 .nil))))))) (.cond (.seq (.reg (.op 0 [] .nil)) .leaf) .leaf)) (.seq (.seq (.reg (.op 0 [] .nil)) (.block (.loop [12] [6, 12, 63, 64, 65, 66, 67, 68, 69, 70, 71, 72, 73, 74, 75, 76, 77, 78, 79, 80, 81, 82, 83, 84, 85] (.seq (.seq (.reg (.op 0 [] (.op 1 [] (.op 2 [] (.op 3 [] .nil))))) (.cond .leaf .leaf)) (.seq (.block (.seq (.drw [0, 0, 3, 7, 0, 0, 48, 112, 255, 511, 1023, 1023, 4095, 8191, 16383, 32767, 65535] (.op 0 [] (.op 1 [] (.op 2 [] (.op 3 [] (.op 4 [] (.op 5 [] (.op 6 [] (.op 7 [] (.op 8 [] (.op 9 [] (.grp 9 (.op 10 [] (.op 11 [] (.op 12 [] (.op 13 [] (.op 14 [] (.op 15 [] .nil)))))) 16 .nil)))))))))))) (.cond (.seq (.reg (.op 0 [] .nil)) .leaf) .leaf))) (.reg (.op 0 [] (.op 1 [] (.op 2 [] .nil))))))))) (.seq (.reg (.op 0 [] (.op 1 [] (.op 2 [] (.op 3 [] (.op 4 [] (.op 5 [] (.op 6 [] (.op 7 [] (.op 8 [] (.op 9 [] .nil))))))))))) (.seq (.reg (.op 0 [] (.op 1 [] (.grp 1 (.op 2 [] (.op 3 [] (.op 4 [] .nil))) 5 (.op 6 [] .nil))))) .leaf))))))))))
/-- lighter/lighterlaw08.MatchFar -/
def lighterlaw08_MatchFar.res (a0 : Value) (b1 : Value) (s2 : Value) (H0 : Heap) (R : Value → Heap → Prop) : Prop :=
 CallsH Tryd.prog 9 #[] H0 fun x15 H_1 =>
 pNot x15 fun x16 =>
 pCond x16
 (R (.bool false) H_1)
 (pLenS a0 fun x19 =>
 pMin x19 (.int .i64 50) fun x20 =>
 pSlStr a0 none (some x20) fun x21 =>
 pLenS b1 fun x24 =>
 pMin x24 (.int .i64 50) fun x25 =>
 pSlStr b1 none (some x25) fun x26 =>
 pLenS s2 fun x29 =>
 pMin x29 (.int .i64 60) fun x30 =>
 pSlStr s2 none (some x30) fun x31 =>
 pMakeSl H_1 5 1 [(.int .u8 0)] (.int .i64 32768) (.int .i64 32768) fun x32 H_2 =>
 pStrOf H_2 x32 fun x33 =>
 pAdd x21 x33 fun x37 =>
 CallsH Tryd.prog 12 #[x37, x31, (.int .i64 9)] H_2 fun x39 H_3 =>
 pExtract 0 x39 fun x40 =>
 pExtract 1 x39 fun x41 =>
 pAdd x26 x33 fun x45 =>
 CallsH Tryd.prog 12 #[x45, x31, (.int .i64 9)] H_3 fun x47 H_4 =>
 pExtract 0 x47 fun x48 =>
 pExtract 1 x47 fun x49 =>
 pNe 0 x41 (.int .i64 0) fun x51 =>
 pOr x51 (fun J_5 =>
 pNe 0 x49 (.int .i64 0) fun x54 =>
 J_5 x54 H_4) H_4 fun x55 H_6 => ∀ _ : Env,
 pOr x55 (fun J_7 =>
 pLen x40 fun x58 =>
 pLen x48 fun x60 =>
 pNe 0 x58 x60 fun x61 =>
 J_7 x61 H_6) H_6 fun x62 H_8 => ∀ _ : Env,
 pCond x62
 (R (.bool false) H_8)
 (∃ (I_9 : Value → Heap → Prop) (m_10 : Value → Heap → Nat), I_9 (.int .i64 0) H_8 ∧
 ∀ _ : Env, ∀ i12 : Value, ∀ H_11 : Heap, I_9 i12 H_11 →
 pLen x40 fun x65 =>
 pLt i12 x65 fun x66 =>
 pCond x66
 (pIdxSl 3 x40 i12 fun x71 =>
 pLoadN H_11 3 x71 fun x72 =>
 pIdxSl 3 x48 i12 fun x75 =>
 pLoadN H_11 3 x75 fun x76 =>
 pNeA [0, 0, 0] x72 x76 fun x77 =>
 pOr x77 (fun J_12 =>
 pIdxSl 3 x40 i12 fun x81 =>
 pFieldAddr 2 x81 fun x82 =>
 pLoad H_11 x82 fun x83 =>
 pGt x83 (.int .i64 32768) fun x84 =>
 J_12 x84 H_11) H_11 fun x85 H_13 => ∀ _ : Env,
 pCond x85
 (R (.bool false) H_13)
 (pAdd i12 (.int .i64 1) fun x68 =>
 I_9 x68 H_13 ∧ m_10 x68 H_13 < m_10 i12 H_11))
 (pAdd x21 x33 fun x89 =>
 CallsH Tryd.prog 21 #[x89, x40] H_11 fun x91 H_14 =>
 pExtract 0 x91 fun x92 =>
 pExtract 1 x91 fun x93 =>
 pAnd x93 (fun J_15 =>
 pEq 1 x92 x31 fun x98 =>
 J_15 x98 H_14) H_14 fun x99 H_16 => ∀ _ : Env,
 R x99 H_16)))
set_option maxRecDepth 100000 in
theorem lighterlaw08_MatchFar.vc (a0 : Value) (b1 : Value) (s2 : Value) (H0 : Heap) (R : Value → Heap → Prop) (h : lighterlaw08_MatchFar.res a0 b1 s2 H0 R) : CallsH Tryd.prog 7 #[a0, b1, s2] H0 R := by
  have e : vcFn Tryd.prog Tryd.C Tryd.f7 lighterlaw08_MatchFar.an [a0, b1, s2] H0 R = lighterlaw08_MatchFar.res a0 b1 s2 H0 R := by kernel_rfl
  exact vcFn_sound Tryd.callable Tryd.mixed Tryd.func7 (by kernel_rfl) (e.mpr h)

def lighterlaw08_MatchFewest.an : Ann := (.seq (.reg (.op 0 [] .nil)) (.seq (.seq (.reg (.op 0 [] (.op 1 [] .nil))) (.cond (.seq (.reg (.op 0 [] .nil)) .leaf) .leaf)) (.seq (.drw [0, 0, 2, 6, 15, 0, 0, 64, 192, 480, 31, 2047] (.op 0 [] (.op 1 [] (.op 2 [] (.op 3 [] (.op 4 [] (.op 5 [] (.op 6 [] (.op 7 [] (.op 8 [] (.op 9 [] (.op 10 [] (.op 11 [] .nil))))))))))))) (.seq (.reg (.op 0 [] (.op 1 [] (.op 2 [] (.op 3 [] .nil))))) (.seq (.reg (.op 0 [] (.op 1 [] (.op 2 [] (.op 3 [] (.op 4 [] (.op 5 [] (.op 6 [] (.op 7 [] .nil))))))))) (.seq (.reg (.op 0 [] (.op 1 [] (.op 2 [] (.op 3 [] (.op 4 [] (.op 5 [] (.op 6 [] (.op 7 [] (.op 8 [] (.op 9 [] (.op 10 [] (.op 11 [] .nil))))))))))))) (.seq (.reg (.op 0 [] (.op 1 [] (.grp 1 (.op 2 [] (.op 3 [] (.op 4 [] .nil))) 5 (.op 6 [] (.grp 6 (.op 7 [] (.op 8 [] (.op 9 [] (.op 10 [] (.op 11 [] (.op 12 [] .nil)))))) 13 (.op 14 [] (.grp 14 (.op 15 [] (.op 16 [] (.op 17 [] (.op 18 [] (.op 19 [] .nil))))) 20 (.op 21 [] .nil))))))))) .leaf)))))))
/-- lighter/lighterlaw08.MatchFewest -/
def lighterlaw08_MatchFewest.res (ahead0 : Value) (s1 : Value) (level2 : Value) (H0 : Heap) (R : Value → Heap → Prop) : Prop :=
 CallsH Tryd.prog 9 #[] H0 fun x12 H_1 =>
 pNot x12 fun x13 =>
 pCond x13
 (R (.bool false) H_1)
 (pLenS ahead0 fun x16 =>
 pMin x16 (.int .i64 120) fun x17 =>
 pSlStr ahead0 none (some x17) fun x18 =>
 pLenS s1 fun x21 =>
 pMin x21 (.int .i64 120) fun x22 =>
 pSlStr s1 none (some x22) fun x23 =>
 CallsH Tryd.prog 22 #[x18, x23] H_1 fun x26 H_2 =>
 CallsH Tryd.prog 21 #[x18, x26] H_2 fun x30 H_3 =>
 pExtract 0 x30 fun x31 =>
 pExtract 1 x30 fun x32 =>
 pBits .and level2 (.int .i64 15) fun x37 =>
 pAdd x37 (.int .i64 10) fun x38 =>
 pRem x38 (.int .i64 10) fun x39 =>
 CallsH Tryd.prog 12 #[x18, x23, x39] H_3 fun x40 H_4 =>
 pExtract 0 x40 fun x41 =>
 pExtract 1 x40 fun x42 =>
 pAnd x32 (fun J_5 =>
 pEq 1 x31 x23 fun x47 =>
 J_5 x47 H_4) H_4 fun x48 H_6 => ∀ _ : Env,
 pAnd x48 (fun J_7 =>
 pLen x26 fun x51 =>
 CallsH Tryd.prog 23 #[x18, x23] H_6 fun x54 H_9 =>
 pEq 0 x51 x54 fun x55 =>
 J_7 x55 H_9) H_6 fun x56 H_8 => ∀ _ : Env,
 pAnd x56 (fun J_10 =>
 pLen x41 fun x59 =>
 pLen x26 fun x61 =>
 pGe x59 x61 fun x62 =>
 J_10 x62 H_8) H_8 fun x63 H_11 => ∀ _ : Env,
 R x63 H_11)
set_option maxRecDepth 100000 in
theorem lighterlaw08_MatchFewest.vc (ahead0 : Value) (s1 : Value) (level2 : Value) (H0 : Heap) (R : Value → Heap → Prop) (h : lighterlaw08_MatchFewest.res ahead0 s1 level2 H0 R) : CallsH Tryd.prog 8 #[ahead0, s1, level2] H0 R := by
  have e : vcFn Tryd.prog Tryd.C Tryd.f8 lighterlaw08_MatchFewest.an [ahead0, s1, level2] H0 R = lighterlaw08_MatchFewest.res ahead0 s1 level2 H0 R := by kernel_rfl
  exact vcFn_sound Tryd.callable Tryd.mixed Tryd.func8 (by kernel_rfl) (e.mpr h)

def lighterlaw08_speaks.an : Ann := (.seq (.reg (.op 0 [] .nil)) (.seq (.reg (.op 0 [] (.op 1 [] (.op 2 [] (.op 3 [] (.op 4 [] (.op 5 [] .nil))))))) (.seq (.reg (.op 0 [] (.op 1 [] (.op 2 [] (.op 3 [] (.op 4 [] (.op 5 [] .nil))))))) (.seq (.reg (.op 0 [] (.op 1 [] (.op 2 [] (.grp 2 (.op 3 [] (.op 4 [] (.op 5 [] .nil))) 6 (.op 7 [] (.grp 7 (.op 8 [] (.op 9 [] (.op 10 [] (.op 11 [] (.op 12 [] .nil))))) 13 (.op 14 [] (.grp 14 (.op 15 [] (.op 16 [] (.op 17 [] (.op 18 [] (.op 19 [] .nil))))) 20 (.op 21 [] (.grp 21 (.op 22 [] (.op 23 [] .nil)) 24 (.op 25 [] (.grp 25 (.op 26 [] (.op 27 [] .nil)) 28 (.op 29 [] .nil)))))))))))))) .leaf))))
/-- lighter/lighterlaw08.speaks -/
def lighterlaw08_speaks.res (H0 : Heap) (R : Value → Heap → Prop) : Prop :=
 CallsH Tryd.prog 12 #[(str [97, 98, 99]), (str [97, 98, 99, 100]), (.int .i64 9)] H0 fun x6 H_1 =>
 pExtract 0 x6 fun x7 =>
 pExtract 1 x6 fun x8 =>
 CallsH Tryd.prog 10 #[(str [97, 98, 99]), (str [97, 98, 99, 100])] H_1 fun x10 H_2 =>
 pExtract 0 x10 fun x11 =>
 pExtract 1 x10 fun x12 =>
 pEq 0 x8 (.int .i64 0) fun x14 =>
 pAnd x14 (fun J_3 =>
 pLen x7 fun x17 =>
 pEq 0 x17 (.int .i64 2) fun x18 =>
 J_3 x18 H_2) H_2 fun x19 H_4 => ∀ _ : Env,
 pAnd x19 (fun J_5 =>
 pIdxSl 3 x7 (.int .i64 0) fun x22 =>
 pLoadN H_4 3 x22 fun x23 =>
 pBuild [(.int .u8 0), (.int .i64 0), (.int .i64 0)] [(1, 1, (.int .i64 3)), (2, 1, (.int .i64 3))] fun x24 =>
 pEqA [0, 0, 0] x23 x24 fun x25 =>
 J_5 x25 H_4) H_4 fun x26 H_6 => ∀ _ : Env,
 pAnd x26 (fun J_7 =>
 pIdxSl 3 x7 (.int .i64 1) fun x29 =>
 pLoadN H_6 3 x29 fun x30 =>
 pBuild [(.int .u8 0), (.int .i64 0), (.int .i64 0)] [(0, 1, (.int .u8 100))] fun x31 =>
 pEqA [0, 0, 0] x30 x31 fun x32 =>
 J_7 x32 H_6) H_6 fun x33 H_8 => ∀ _ : Env,
 pAnd x33 (fun J_9 =>
 pEq 0 x11 (.int .i64 3) fun x36 =>
 J_9 x36 H_8) H_8 fun x37 H_10 => ∀ _ : Env,
 pAnd x37 (fun J_11 =>
 pEq 0 x12 (.int .i64 3) fun x40 =>
 J_11 x40 H_10) H_10 fun x41 H_12 => ∀ _ : Env,
 R x41 H_12
set_option maxRecDepth 100000 in
theorem lighterlaw08_speaks.vc (H0 : Heap) (R : Value → Heap → Prop) (h : lighterlaw08_speaks.res H0 R) : CallsH Tryd.prog 9 #[] H0 R := by
  have e : vcFn Tryd.prog Tryd.C Tryd.f9 lighterlaw08_speaks.an [] H0 R = lighterlaw08_speaks.res H0 R := by kernel_rfl
  exact vcFn_sound Tryd.callable Tryd.mixed Tryd.func9 (by kernel_rfl) (e.mpr h)

end Go.Proofs.YtfmbgnchedhneaaDoor
