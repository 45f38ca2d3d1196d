/- The residuals of package match's functions, printed by resid.py. -/
import Derived.Test.YtfmbgnchedhneaaDoorVcSeat
namespace Go.Proofs.YtfmbgnchedhneaaDoor
open Go Go.Vc Go.Proofs
set_option linter.unusedVariables false
set_option maxHeartbeats 4000000
def match_Longest.an : Ann := (.seq (.reg (.op 0 [] (.op 1 [] .nil))) (.seq (.reg (.op 0 [] (.op 1 [] (.op 2 [] (.op 3 [] .nil))))) (.seq (.reg (.op 0 [] (.op 1 [] (.op 2 [] (.op 3 [] (.op 4 [] (.op 5 [] (.op 6 [] (.op 7 [] (.op 8 [] (.op 9 [] .nil))))))))))) .leaf)))
/-- lighter/match.Longest -/
def match_Longest.res (ahead0 : Value) (s1 : Value) (H0 : Heap) (R : Value → Heap → Prop) : Prop :=
 CallsH Tryd.prog 24 #[ahead0, s1, (.int .i64 1073741824)] H0 fun x9 H_1 =>
 pNil x9 fun x12 =>
 pFieldAddr 1 x12 fun x13 =>
 pLoad H_1 x13 fun x14 =>
 CallsH Tryd.prog 25 #[x9, x14] H_1 fun x15 H_2 =>
 pExtract 0 x15 fun x16 =>
 pExtract 1 x15 fun x17 =>
 R (.tuple #[x16, x17]) H_2
set_option maxRecDepth 100000 in
theorem match_Longest.vc (ahead0 : Value) (s1 : Value) (H0 : Heap) (R : Value → Heap → Prop) (h : match_Longest.res ahead0 s1 H0 R) : CallsH Tryd.prog 10 #[ahead0, s1] H0 R := by
  have e : vcFn Tryd.prog Tryd.C Tryd.f10 match_Longest.an [ahead0, s1] H0 R = match_Longest.res ahead0 s1 H0 R := by kernel_rfl
  exact vcFn_sound Tryd.callable Tryd.mixed Tryd.func10 (by kernel_rfl) (e.mpr h)

def match_Tokens.an : Ann := (.seq (.reg (.op 0 [] (.op 1 [] .nil))) (.seq (.block (.seq (.reg (.op 0 [] (.op 1 [] (.op 2 [] (.grp 2 (.op 3 [] (.op 4 [] .nil)) 5 (.op 6 [] .nil)))))) (.cond (.seq (.reg (.op 0 [] (.op 1 [] .nil))) .leaf) (.seq (.reg (.op 0 [] (.op 1 [] (.op 2 [] .nil)))) (.cond (.seq (.reg (.op 0 [] (.op 1 [] (.op 2 [] (.op 3 [] .nil))))) (.seq (.seq (.reg (.op 0 [] (.op 1 [] (.op 2 [] .nil)))) (.block (.loop [25] [9, 25, 26, 27, 28, 29, 30, 31, 32, 33, 34, 35] (.seq (.reg (.op 0 [] .nil)) (.seq (.cond .leaf .leaf) (.seq (.block (.seq (.reg (.op 0 [] (.op 1 [] .nil))) (.reg (.op 0 [] (.op 1 [] (.op 2 [] (.op 3 [] (.op 4 [] (.op 5 [] (.op 6 [] (.op 7 [] .nil))))))))))) (.reg (.op 0 [] (.op 1 [] .nil))))))))) (.seq (.reg (.op 0 [] (.op 1 [] (.op 2 [] .nil)))) .leaf))) .leaf))))) (.seq (.reg (.op 0 [] (.op 1 [] (.op 2 [] (.op 3 [] (.op 4 [] (.op 5 [] (.op 6 [] (.op 7 [] (.op 8 [] (.op 9 [] (.op 10 [] .nil)))))))))))) .leaf)))
/-- lighter/match.Tokens -/
def match_Tokens.res (ahead0 : Value) (s1 : Value) (level2 : Value) (H0 : Heap) (R : Value → Heap → Prop) : Prop :=
 pLt level2 (.int .i64 0) fun x12 =>
 pOr x12 (fun J_1 =>
 pGt level2 (.int .i64 9) fun x15 =>
 J_1 x15 H0) H0 fun x16 H_2 => ∀ _ : Env,
 pCond x16
 (R (.tuple #[(.slice none 0 0), (.int .i64 1)]) H_2)
 (pEq 0 level2 (.int .i64 0) fun x19 =>
 pCond x19
 (pLenS s1 fun x21 =>
 pMakeSl H_2 47 24 [(.int .u8 0), (.int .i64 0), (.int .i64 0)] x21 x21 fun x22 H_3 =>
 pLen x22 fun x24 =>
 ∃ (I_4 : Value → Heap → Prop) (m_5 : Value → Heap → Nat), I_4 (.int .i64 0) H_3 ∧
 ∀ _ : Env, ∀ x25 : Value, ∀ H_6 : Heap, I_4 x25 H_6 →
 pLt x25 x24 fun x26 =>
 pCond x26
 (pIdxStr s1 x25 fun x32 =>
 pIdxSl 3 x22 x25 fun x33 =>
 pFieldAddr 0 x33 fun x34 =>
 pStore H_6 x34 x32 fun _ H_7 =>
 pAdd x25 (.int .i64 1) fun x35 =>
 I_4 x35 H_7 ∧ m_5 x35 H_7 < m_5 x25 H_6)
 (R (.tuple #[x22, (.int .i64 0)]) H_6))
 (pIdxArr 10 1 (.pointer (some ⟨0, 0, none⟩)) level2 fun x40 =>
 pLoad H_2 x40 fun x41 =>
 CallsH Tryd.prog 24 #[ahead0, s1, x41] H_2 fun x42 H_8 =>
 pGe level2 (.int .i64 4) fun x44 =>
 CallsH Tryd.prog 26 #[x42, x44] H_8 fun x45 H_9 =>
 R (.tuple #[x45, (.int .i64 0)]) H_9))
set_option maxRecDepth 100000 in
theorem match_Tokens.vc (ahead0 : Value) (s1 : Value) (level2 : Value) (H0 : Heap) (R : Value → Heap → Prop) (h : match_Tokens.res ahead0 s1 level2 H0 R) : CallsH Tryd.prog 12 #[ahead0, s1, level2] H0 R := by
  have e : vcFn Tryd.prog Tryd.C Tryd.f12 match_Tokens.an [ahead0, s1, level2] H0 R = match_Tokens.res ahead0 s1 level2 H0 R := by kernel_rfl
  exact vcFn_sound Tryd.callable Tryd.mixed Tryd.func12 (by kernel_rfl) (e.mpr h)

def match_Fewest.an : Ann := (.seq (.reg (.op 0 [] .nil)) (.seq (.reg (.op 0 [] (.op 1 [] (.op 2 [] (.op 3 [] .nil))))) (.cut [6, 7] [6, 7, 18, 19, 20, 21, 22, 23] (.drw [0, 1, 3, 0, 8, 24, 7, 127] (.op 0 [] (.op 1 [] (.op 3 [] (.op 4 [] (.fork (.op 2 [] (.op 6 [] (.op 5 [] (.op 7 [] .nil)))) (.op 5 [] (.op 2 [] (.op 6 [] (.op 7 [] .nil)))))))))) (.seq (.seq (.reg (.op 0 [] (.op 1 [] (.op 2 [] .nil)))) (.block (.loop [26] [8, 26, 27, 28, 29, 30, 31, 32, 33, 34, 35, 36, 37, 38, 39, 40, 41, 42, 43, 44, 45, 46, 47, 48, 49, 50, 51, 52, 53, 54] (.seq (.reg (.op 0 [] .nil)) (.seq (.cond .leaf .leaf) (.seq (.block (.seq (.reg (.op 0 [] (.op 1 [] .nil))) (.seq (.reg (.op 0 [] (.op 1 [] (.op 2 [] (.op 3 [] (.op 4 [] (.op 5 [] (.op 6 [] (.op 7 [] (.op 8 [] (.op 9 [] (.op 10 [] (.op 11 [] (.op 12 [] (.op 13 [] (.op 14 [] (.op 15 [] (.op 16 [] (.op 17 [] (.op 18 [] .nil)))))))))))))))))))) (.reg (.op 0 [] (.op 1 [] (.op 2 [] (.op 3 [] (.op 4 [] (.op 5 [] (.op 6 [] (.op 7 [] .nil)))))))))))) (.reg (.op 0 [] (.op 1 [] .nil))))))))) (.seq (.reg (.op 0 [] (.op 1 [] (.op 2 [] (.op 3 [] (.op 4 [] .nil)))))) (.seq (.reg (.op 0 [] (.op 1 [] (.op 2 [] (.op 3 [] (.op 4 [] .nil)))))) (.seq (.seq (.reg (.op 0 [] (.op 1 [] (.op 2 [] (.op 3 [] .nil))))) (.block (.loop [11] [11, 12, 66, 67, 68, 69, 70, 71, 72, 73, 74, 75, 76, 77, 78, 79, 80, 81, 82, 83, 84, 85, 86, 87, 88, 89, 90, 91, 92, 93, 94, 95, 96, 97, 98, 99, 100, 101, 102, 103, 104, 105, 106, 107, 108, 109, 110, 111, 112, 113, 114, 115] (.seq (.seq (.reg (.op 0 [] (.op 1 [] .nil))) (.cond .leaf .leaf)) (.seq (.block (.seq (.reg (.op 0 [] (.op 1 [] (.op 2 [] (.op 3 [] (.op 4 [] (.op 5 [] (.op 6 [] (.op 7 [] (.op 8 [] (.op 9 [] (.op 10 [] (.op 11 [] (.op 12 [] (.op 13 [] .nil))))))))))))))) (.seq (.reg (.op 0 [] .nil)) (.block (.loop [12] [12, 82, 83, 84, 85, 86, 87, 88, 89, 90, 91, 92, 93, 94, 95, 96, 97, 98, 99, 100, 101, 102, 103, 104, 105, 106, 107, 108, 109, 110, 111, 112, 113, 114, 115] (.seq (.seq (.reg (.op 0 [] (.op 1 [] (.op 2 [] (.op 3 [] (.op 4 [] (.op 5 [] .nil))))))) (.cond .leaf .leaf)) (.cut [] [90, 91, 92, 93, 94, 95, 96, 97, 98, 99, 100, 101, 102, 103, 104, 105, 106, 107, 108, 109, 110, 111, 112, 113, 114, 115] (.block (.seq (.drw [0, 0, 0, 6, 15, 31, 63, 0, 0, 384, 896, 2047] (.op 0 [] (.op 1 [] (.op 2 [] (.op 3 [] (.op 4 [] (.op 5 [] (.op 6 [] (.op 7 [] (.op 8 [] (.op 9 [] (.op 10 [] (.op 11 [] .nil))))))))))))) (.cond (.reg (.op 0 [] (.op 1 [] (.op 2 [] (.op 3 [] (.op 4 [] (.op 5 [] (.op 6 [] (.op 7 [] (.op 8 [] (.op 9 [] (.op 10 [] (.op 11 [] (.op 12 [] (.op 13 [] (.op 14 [] (.op 15 [] .nil))))))))))))))))) .leaf))) (.reg (.op 0 [] (.op 1 [] (.op 2 [] .nil))))))))))) (.reg (.op 0 [] (.op 1 [] (.op 2 [] .nil))))))))) (.seq (.reg (.op 0 [] .nil)) (.seq (.seq (.reg (.op 0 [] .nil)) (.block (.loop [13, 14] [13, 14, 116, 117, 118, 119, 120, 121, 122, 123, 124, 125, 126, 127, 128, 129, 130, 131, 132, 133, 134, 135, 136, 137, 138, 139, 140, 141, 142, 143, 144, 145, 146, 147, 148, 149] (.seq (.seq (.reg (.op 0 [] (.op 1 [] (.op 2 [] (.op 3 [] .nil))))) (.cond .leaf .leaf)) (.cut [13] [13, 126, 127, 128, 129, 130, 131, 132, 133, 134, 135, 136, 137, 138, 139, 140, 141, 142, 143, 144, 145, 146, 147, 148, 149] (.block (.seq (.reg (.op 0 [] (.op 1 [] (.op 2 [] (.op 3 [] (.op 4 [] .nil)))))) (.cond (.reg (.op 0 [] (.op 1 [] (.op 2 [] (.op 3 [] (.op 4 [] (.op 5 [] (.op 6 [] (.op 7 [] .nil))))))))) (.drw [0, 0, 0, 6, 14, 0, 0, 96, 224, 510, 1022, 2047, 4095] (.op 0 [] (.op 1 [] (.op 2 [] (.op 3 [] (.op 4 [] (.op 5 [] (.op 6 [] (.op 7 [] (.op 8 [] (.op 9 [] (.op 10 [] (.op 11 [] (.op 12 [] .nil))))))))))))))))) (.reg (.op 0 [] (.op 1 [] (.op 2 [] (.op 3 [] (.op 4 [] (.op 5 [] (.op 6 [] .nil))))))))))))) (.seq (.reg (.op 0 [] (.op 1 [] .nil))) .leaf))))))))))
/-- lighter/match.Fewest -/
def match_Fewest.res (ahead0 : Value) (s1 : Value) (H0 : Heap) (R : Value → Heap → Prop) : Prop :=
 CallsH Tryd.prog 24 #[ahead0, s1, (.int .i64 1073741824)] H0 fun x17 H_1 =>
 ∃ J_2 : Value → Value → Heap → Prop, (∀ _ : Env, ∀ lens6 : Value, ∀ dists7 : Value, ∀ H_3 : Heap, J_2 lens6 dists7 H_3 →
 pLenS s1 fun x25 =>
 ∃ (I_4 : Value → Heap → Prop) (m_5 : Value → Heap → Nat), I_4 (.int .i64 0) H_3 ∧
 ∀ _ : Env, ∀ x26 : Value, ∀ H_6 : Heap, I_4 x26 H_6 →
 pLt x26 x25 fun x27 =>
 pCond x27
 (pNil x17 fun x36 =>
 pFieldAddr 1 x36 fun x37 =>
 pLoad H_6 x37 fun x38 =>
 pAdd x38 x26 fun x40 =>
 CallsH Tryd.prog 25 #[x17, x40] H_6 fun x41 H_7 =>
 pExtract 0 x41 fun x42 =>
 pExtract 1 x41 fun x43 =>
 pIdxSl 1 lens6 x26 fun x44 =>
 pStore H_7 x44 x42 fun _ H_8 =>
 pIdxSl 1 dists7 x26 fun x45 =>
 pStore H_8 x45 x43 fun _ H_9 =>
 pNil x17 fun x48 =>
 pFieldAddr 1 x48 fun x49 =>
 pLoad H_9 x49 fun x50 =>
 pAdd x50 x26 fun x52 =>
 CallsH Tryd.prog 33 #[x17, x52] H_9 fun x53 H_10 =>
 pAdd x26 (.int .i64 1) fun x54 =>
 I_4 x54 H_10 ∧ m_5 x54 H_10 < m_5 x26 H_6)
 (pLenS s1 fun x56 =>
 pAdd x56 (.int .i64 1) fun x57 =>
 pMakeSl H_6 3 8 [(.int .i64 0)] x57 x57 fun x58 H_11 =>
 pLenS s1 fun x60 =>
 pAdd x60 (.int .i64 1) fun x61 =>
 pMakeSl H_11 3 8 [(.int .i64 0)] x61 x61 fun x62 H_12 =>
 pLenS s1 fun x64 =>
 pSub x64 (.int .i64 1) fun x65 =>
 ∃ (I_13 : Value → Heap → Prop) (m_14 : Value → Heap → Nat), I_13 x65 H_12 ∧
 ∀ _ : Env, ∀ i11 : Value, ∀ H_15 : Heap, I_13 i11 H_15 →
 pGe i11 (.int .i64 0) fun x67 =>
 pCond x67
 (pAdd i11 (.int .i64 1) fun x76 =>
 pIdxSl 1 x58 x76 fun x77 =>
 pLoad H_15 x77 fun x78 =>
 pAdd x78 (.int .i64 1) fun x79 =>
 pIdxSl 1 x58 i11 fun x80 =>
 pStore H_15 x80 x79 fun _ H_16 =>
 pIdxSl 1 x62 i11 fun x81 =>
 pStore H_16 x81 (.int .i64 1) fun _ H_17 =>
 ∃ (I_18 : Value → Heap → Prop) (m_19 : Value → Heap → Nat), I_18 (.int .i64 3) H_17 ∧
 ∀ _ : Env, ∀ n12 : Value, ∀ H_20 : Heap, I_18 n12 H_20 →
 pIdxSl 1 lens6 i11 fun x85 =>
 pLoad H_20 x85 fun x86 =>
 pLe n12 x86 fun x87 =>
 pCond x87
 (∃ J_21 : Heap → Prop, (∀ _ : Env, ∀ H_22 : Heap, J_21 H_22 →
 pAdd n12 (.int .i64 1) fun x89 =>
 I_18 x89 H_22 ∧ m_19 x89 H_22 < m_19 n12 H_20) ∧
 pAdd i11 n12 fun x93 =>
 pIdxSl 1 x58 x93 fun x94 =>
 pLoad H_20 x94 fun x95 =>
 pAdd x95 (.int .i64 1) fun x96 =>
 pIdxSl 1 x58 i11 fun x99 =>
 pLoad H_20 x99 fun x100 =>
 pLt x96 x100 fun x101 =>
 pCond x101
 (pAdd i11 n12 fun x109 =>
 pIdxSl 1 x58 x109 fun x110 =>
 pLoad H_20 x110 fun x111 =>
 pAdd x111 (.int .i64 1) fun x112 =>
 pIdxSl 1 x58 i11 fun x114 =>
 pStore H_20 x114 x112 fun _ H_23 =>
 pIdxSl 1 x62 i11 fun x115 =>
 pStore H_23 x115 n12 fun _ H_24 =>
 J_21 H_24)
 (J_21 H_20))
 (pSub i11 (.int .i64 1) fun x69 =>
 I_13 x69 H_20 ∧ m_14 x69 H_20 < m_14 i11 H_15))
 (∃ (I_25 : Value → Value → Heap → Prop) (m_26 : Value → Value → Heap → Nat), I_25 (.slice none 0 0) (.int .i64 0) H_15 ∧
 ∀ _ : Env, ∀ out13 : Value, ∀ i14 : Value, ∀ H_27 : Heap, I_25 out13 i14 H_27 →
 pLenS s1 fun x118 =>
 pLt i14 x118 fun x119 =>
 pCond x119
 (∃ J_28 : Value → Heap → Prop, (∀ _ : Env, ∀ out13' : Value, ∀ H_29 : Heap, J_28 out13' H_29 →
 pIdxSl 1 x62 i14 fun x123 =>
 pLoad H_29 x123 fun x124 =>
 pAdd i14 x124 fun x125 =>
 I_25 out13' x125 H_29 ∧ m_26 out13' x125 H_29 < m_26 out13 i14 H_27) ∧
 pIdxSl 1 x62 i14 fun x128 =>
 pLoad H_27 x128 fun x129 =>
 pEq 0 x129 (.int .i64 1) fun x130 =>
 pCond x130
 (pIdxStr s1 i14 fun x134 =>
 pBuild [(.int .u8 0), (.int .i64 0), (.int .i64 0)] [(0, 1, x134)] fun x135 =>
 pBuildSl H_27 47 1 [(.int .u8 0), (.int .i64 0), (.int .i64 0)] [(0, 3, x135)] fun x136 H_30 =>
 pAppend H_30 47 3 24 [(.int .u8 0), (.int .i64 0), (.int .i64 0)] out13 x136 fun x137 H_31 =>
 J_28 x137 H_31)
 (pIdxSl 1 x62 i14 fun x141 =>
 pLoad H_27 x141 fun x142 =>
 pIdxSl 1 dists7 i14 fun x145 =>
 pLoad H_27 x145 fun x146 =>
 pBuild [(.int .u8 0), (.int .i64 0), (.int .i64 0)] [(1, 1, x142), (2, 1, x146)] fun x147 =>
 pBuildSl H_27 47 1 [(.int .u8 0), (.int .i64 0), (.int .i64 0)] [(0, 3, x147)] fun x148 H_32 =>
 pAppend H_32 47 3 24 [(.int .u8 0), (.int .i64 0), (.int .i64 0)] out13 x148 fun x149 H_33 =>
 J_28 x149 H_33))
 (R out13 H_27)))) ∧
 pLenS s1 fun x19 =>
 pLenS s1 fun x22 =>
 (pMakeSl H_1 3 8 [(.int .i64 0)] x19 x19 fun x20 H_34 =>
 pMakeSl H_34 3 8 [(.int .i64 0)] x22 x22 fun x23 H_35 =>
 J_2 x20 x23 H_35) ∧
 (pMakeSl H_1 3 8 [(.int .i64 0)] x22 x22 fun x23 H_36 =>
 pMakeSl H_36 3 8 [(.int .i64 0)] x19 x19 fun x20 H_37 =>
 J_2 x20 x23 H_37)
set_option maxRecDepth 100000 in
theorem match_Fewest.vc (ahead0 : Value) (s1 : Value) (H0 : Heap) (R : Value → Heap → Prop) (h : match_Fewest.res ahead0 s1 H0 R) : CallsH Tryd.prog 22 #[ahead0, s1] H0 R := by
  have e : vcFn Tryd.prog Tryd.C Tryd.f22 match_Fewest.an [ahead0, s1] H0 R = match_Fewest.res ahead0 s1 H0 R := by kernel_rfl
  exact vcFn_sound Tryd.callable Tryd.mixed Tryd.func22 (by kernel_rfl) (e.mpr h)

def match_newFinder.an : Ann := (.seq (.reg (.op 0 [] .nil)) (.seq (.reg (.op 0 [] (.op 1 [] (.op 2 [] (.op 3 [] (.op 4 [] (.op 5 [] (.op 6 [] .nil)))))))) (.seq (.reg (.op 0 [] (.op 1 [] (.op 2 [] (.op 3 [] (.op 4 [] (.op 5 [] (.op 6 [] (.op 7 [] (.op 8 [] (.op 9 [] .nil))))))))))) (.seq (.reg (.op 0 [] (.op 1 [] (.op 2 [] (.op 3 [] (.op 4 [] (.op 5 [] (.op 6 [] (.op 7 [] (.op 8 [] (.op 9 [] .nil))))))))))) (.seq (.seq (.reg (.op 0 [] (.op 1 [] (.op 2 [] .nil)))) (.block (.loop [35] [8, 35, 36, 37, 38, 39, 40, 41] (.seq (.reg (.op 0 [] .nil)) (.seq (.cond .leaf .leaf) (.seq (.block (.seq (.reg (.op 0 [] (.op 1 [] .nil))) (.reg (.op 0 [] (.op 1 [] (.op 2 [] .nil)))))) (.reg (.op 0 [] (.op 1 [] .nil))))))))) (.seq (.reg (.op 0 [] (.op 1 [] .nil))) .leaf))))))
/-- lighter/match.newFinder -/
def match_newFinder.res (ahead0 : Value) (s1 : Value) (depth2 : Value) (H0 : Heap) (R : Value → Heap → Prop) : Prop :=
 pLenS ahead0 fun x11 =>
 pSub x11 (.int .i64 32768) fun x12 =>
 pMax x12 (.int .i64 0) fun x13 =>
 pSlStr ahead0 (some x13) none fun x14 =>
 pAdd x14 s1 fun x17 =>
 pLenS x14 fun x19 =>
 pMakeMap H0 fun x20 H_1 =>
 pBuild [(str []), (.int .i64 0), (.map none), (.slice none 0 0), (.int .i64 0)] [(0, 1, x17), (1, 1, x19), (2, 1, x20), (4, 1, depth2)] fun x22 =>
 pBox H_1 58 x22 fun x23 H_2 =>
 pNil x23 fun x26 =>
 pFieldAddr 0 x26 fun x27 =>
 pLoad H_2 x27 fun x28 =>
 pLenS x28 fun x29 =>
 pMakeSl H_2 3 8 [(.int .i64 0)] x29 x29 fun x30 H_3 =>
 pNil x23 fun x31 =>
 pFieldAddr 3 x31 fun x32 =>
 pStore H_3 x32 x30 fun _ H_4 =>
 pLenS x14 fun x34 =>
 ∃ (I_5 : Value → Heap → Prop) (m_6 : Value → Heap → Nat), I_5 (.int .i64 0) H_4 ∧
 ∀ _ : Env, ∀ x35 : Value, ∀ H_7 : Heap, I_5 x35 H_7 →
 pLt x35 x34 fun x36 =>
 pCond x36
 (CallsH Tryd.prog 33 #[x23, x35] H_7 fun x40 H_8 =>
 pAdd x35 (.int .i64 1) fun x41 =>
 I_5 x41 H_8 ∧ m_6 x41 H_8 < m_6 x35 H_7)
 (R x23 H_7)
set_option maxRecDepth 100000 in
theorem match_newFinder.vc (ahead0 : Value) (s1 : Value) (depth2 : Value) (H0 : Heap) (R : Value → Heap → Prop) (h : match_newFinder.res ahead0 s1 depth2 H0 R) : CallsH Tryd.prog 24 #[ahead0, s1, depth2] H0 R := by
  have e : vcFn Tryd.prog Tryd.C Tryd.f24 match_newFinder.an [ahead0, s1, depth2] H0 R = match_newFinder.res ahead0 s1 depth2 H0 R := by kernel_rfl
  exact vcFn_sound Tryd.callable Tryd.mixed Tryd.func24 (by kernel_rfl) (e.mpr h)

def match_finder_longest.an : Ann := (.seq (.reg (.op 0 [] (.op 1 [] .nil))) (.seq (.seq (.reg (.op 0 [] (.op 1 [] (.op 2 [] (.op 3 [] (.op 4 [] (.op 5 [] (.op 6 [] (.op 7 [] .nil))))))))) (.cond (.seq (.reg (.op 0 [] (.op 1 [] .nil))) .leaf) .leaf)) (.seq (.reg (.op 0 [] (.op 1 [] .nil))) (.seq (.drw [0, 1, 3, 7, 0, 0, 48, 127, 255] (.op 0 [] (.op 1 [] (.op 2 [] (.op 3 [] (.op 4 [] (.op 5 [] (.op 6 [3] (.op 7 [] (.op 8 [] .nil)))))))))) (.cut [6, 7] [6, 7, 8, 9, 10, 27, 28, 29, 30, 31, 32, 33, 34, 35, 36, 37, 38, 39, 40, 41, 42, 43, 44, 45, 46, 47, 48, 49, 50, 51, 52, 53, 54, 55, 56, 57, 58, 59, 60, 61, 62, 63, 64, 65, 66, 67, 68] (.seq (.reg (.op 0 [] .nil)) (.block (.loop [6, 7, 8, 9] [6, 7, 8, 9, 10, 27, 28, 29, 30, 31, 32, 33, 34, 35, 36, 37, 38, 39, 40, 41, 42, 43, 44, 45, 46, 47, 48, 49, 50, 51, 52, 53, 54, 55, 56, 57, 58, 59, 60, 61, 62, 63, 64, 65, 66, 67, 68] (.seq (.seq (.reg (.op 0 [] (.op 1 [] (.op 2 [] (.grp 2 (.op 3 [] (.op 4 [] (.op 5 [] (.op 6 [] (.op 7 [] (.op 8 [] .nil)))))) 9 (.op 10 [] (.grp 10 (.op 11 [] (.op 12 [] (.op 13 [] (.op 14 [] (.op 15 [] .nil))))) 16 .nil))))))) (.cond .leaf .leaf)) (.seq (.block (.cut [6, 7] [6, 7, 10, 46, 47, 48, 49, 50, 51, 52, 53, 54, 55, 56, 57, 58] (.seq (.reg (.op 0 [] (.op 1 [] (.op 2 [] (.op 3 [] (.op 4 [] (.op 5 [] .nil))))))) (.seq (.reg (.op 0 [] (.op 1 [] (.op 2 [] .nil)))) (.cond (.reg (.op 0 [] (.op 1 [] (.op 2 [] (.op 3 [] (.op 4 [] (.op 5 [] (.op 6 [] .nil)))))))) .leaf))) (.seq (.seq (.reg (.op 0 [] (.op 1 [] .nil))) (.cond .leaf .leaf)) (.reg (.op 0 [] (.op 1 [] (.op 2 [] (.op 3 [] (.op 4 [] (.op 5 [] (.op 6 [] (.op 7 [] (.op 8 [] .nil))))))))))))) (.reg (.op 0 [] (.op 1 [] (.op 2 [] .nil))))))))) (.seq (.seq (.reg (.op 0 [] (.op 1 [] .nil))) (.cond (.seq (.reg (.op 0 [] (.op 1 [] .nil))) .leaf) .leaf)) (.seq (.reg (.op 0 [] (.op 1 [] (.op 2 [] (.op 3 [] .nil))))) .leaf)))))))
/-- (*lighter/match.finder).longest -/
def match_finder_longest.res (f0 : Value) (i1 : Value) (H0 : Heap) (R : Value → Heap → Prop) : Prop :=
 pAdd i1 (.int .i64 3) fun x12 =>
 pNil f0 fun x14 =>
 pFieldAddr 0 x14 fun x15 =>
 pLoad H0 x15 fun x16 =>
 pLenS x16 fun x17 =>
 pGt x12 x17 fun x18 =>
 pCond x18
 (R (.tuple #[(.int .i64 0), (.int .i64 0)]) H0)
 (pNil f0 fun x20 =>
 pFieldAddr 2 x20 fun x21 =>
 pLoad H0 x21 fun x22 =>
 CallsH Tryd.prog 34 #[f0, i1] H0 fun x25 H_1 =>
 (pLoad H_1 x21 fun r_ =>
 r_ = x22) ∧
 pLookup H_1 0 (.int .i64 0) false x22 x25 fun x26 =>
 ∃ J_2 : Value → Value → Heap → Prop, (∀ _ : Env, ∀ best6 : Value, ∀ dist7 : Value, ∀ H_3 : Heap, J_2 best6 dist7 H_3 →
 pLt best6 (.int .i64 3) fun x70 =>
 pCond x70
 (R (.tuple #[(.int .i64 0), (.int .i64 0)]) H_3)
 (R (.tuple #[best6, dist7]) H_3)) ∧
 ∃ (I_4 : Value → Value → Value → Value → Heap → Prop) (m_5 : Value → Value → Value → Value → Heap → Nat), I_4 (.int .i64 0) (.int .i64 0) x26 (.int .i64 0) H_1 ∧
 ∀ _ : Env, ∀ best6' : Value, ∀ dist7' : Value, ∀ k8 : Value, ∀ n9 : Value, ∀ H_6 : Heap, I_4 best6' dist7' k8 n9 H_6 →
 pGt k8 (.int .i64 0) fun x28 =>
 pAnd x28 (fun J_7 =>
 pNil f0 fun x32 =>
 pFieldAddr 4 x32 fun x33 =>
 pLoad H_6 x33 fun x34 =>
 pLt n9 x34 fun x35 =>
 J_7 x35 H_6) H_6 fun x36 H_8 => ∀ _ : Env,
 pAnd x36 (fun J_9 =>
 pSub k8 (.int .i64 1) fun x40 =>
 pSub i1 x40 fun x41 =>
 pLe x41 (.int .i64 32768) fun x42 =>
 J_9 x42 H_8) H_8 fun x43 H_10 => ∀ _ : Env,
 pCond x43
 (∃ J_11 : Value → Value → Heap → Prop, (∀ _ : Env, ∀ best6'' : Value, ∀ dist7'' : Value, ∀ H_12 : Heap, J_11 best6'' dist7'' H_12 →
 pEq 0 best6'' (.int .i64 258) fun x60 =>
 pCond x60
 (J_2 best6'' dist7'' H_12)
 (pNil f0 fun x62 =>
 pFieldAddr 3 x62 fun x63 =>
 pLoad H_12 x63 fun x64 =>
 pSub k8 (.int .i64 1) fun x66 =>
 pIdxSl 1 x64 x66 fun x67 =>
 pLoad H_12 x67 fun x68 =>
 pAdd n9 (.int .i64 1) fun x45 =>
 I_4 best6'' dist7'' x68 x45 H_12 ∧ m_5 best6'' dist7'' x68 x45 H_12 < m_5 best6' dist7' k8 n9 H_6)) ∧
 pSub k8 (.int .i64 1) fun x48 =>
 CallsH Tryd.prog 35 #[f0, x48, i1] H_10 fun x50 H_13 =>
 pGt x50 best6' fun x53 =>
 pCond x53
 (pSub k8 (.int .i64 1) fun x57 =>
 pSub i1 x57 fun x58 =>
 J_11 x50 x58 H_13)
 (J_11 best6' dist7' H_13))
 (J_2 best6' dist7' H_10))
set_option maxRecDepth 100000 in
theorem match_finder_longest.vc (f0 : Value) (i1 : Value) (H0 : Heap) (R : Value → Heap → Prop) (h : match_finder_longest.res f0 i1 H0 R) : CallsH Tryd.prog 25 #[f0, i1] H0 R := by
  have e : vcFn Tryd.prog Tryd.C Tryd.f25 match_finder_longest.an [f0, i1] H0 R = match_finder_longest.res f0 i1 H0 R := by kernel_rfl
  exact vcFn_sound Tryd.callable Tryd.mixed Tryd.func25 (by kernel_rfl) (e.mpr h)

def match_finder_tokens.an : Ann := (.seq (.reg (.op 0 [] .nil)) (.seq (.reg (.op 0 [] .nil)) (.seq .leaf (.seq (.seq (.reg (.op 0 [] (.op 1 [] (.op 2 [] (.op 3 [] (.op 4 [] .nil)))))) (.block (.loop [5, 6] [5, 6, 7, 8, 9, 10, 15, 16, 17, 18, 19, 20, 21, 22, 23, 24, 25, 26, 27, 28, 29, 30, 31, 32, 33, 34, 35, 36, 37, 38, 39, 40, 41, 42, 43, 44, 45, 46, 47, 48, 49, 50, 51, 52, 53, 54, 55, 56, 57, 58, 59, 60, 61, 62, 63, 64, 65, 66, 67, 68, 69, 70, 71, 72, 73, 74, 75, 76, 77, 78, 79, 80, 81] (.seq (.seq (.reg (.op 0 [] (.op 1 [] (.op 2 [] (.op 3 [] (.op 4 [] (.op 5 [] (.op 6 [] .nil)))))))) (.cond .leaf .leaf)) (.block (.seq (.reg (.op 0 [] (.op 1 [] (.op 2 [] (.op 3 [] (.op 4 [] (.op 5 [] (.op 6 [] (.op 7 [] .nil))))))))) (.seq (.reg (.op 0 [] (.op 1 [] (.op 2 [] .nil)))) (.cut [7] [7, 9, 10, 31, 32, 33, 34, 35, 36, 37, 38, 39, 40, 41, 42, 43, 44, 45, 46, 47, 48, 49] (.seq (.reg (.op 0 [] (.op 1 [] (.op 2 [] (.grp 2 (.op 3 [] .nil) 4 (.op 5 [] (.grp 5 (.op 6 [] (.op 7 [] .nil)) 8 .nil))))))) (.cond (.seq (.reg (.op 0 [] (.op 1 [] (.op 2 [] (.op 3 [] (.op 4 [] (.op 5 [] (.op 6 [] (.op 7 [] (.op 8 [] .nil)))))))))) (.seq (.reg (.op 0 [] (.op 1 [] (.op 2 [] .nil)))) (.cond (.reg (.op 0 [] .nil)) .leaf))) .leaf)) (.seq (.seq (.reg (.op 0 [] (.op 1 [] .nil))) (.cond (.seq (.reg (.op 0 [] (.op 1 [] (.op 2 [] (.op 3 [] (.op 4 [] (.op 5 [] (.op 6 [] (.op 7 [] (.op 8 [] (.op 9 [] (.op 10 [] .nil)))))))))))) (.seq (.reg (.op 0 [] (.op 1 [] (.op 2 [] .nil)))) .leaf)) .leaf)) (.seq (.reg (.op 0 [] (.op 1 [] (.op 2 [] (.op 3 [] (.op 4 [] (.op 5 [] (.op 6 [] .nil)))))))) (.seq (.seq (.reg (.op 0 [] (.op 1 [] (.op 2 [] .nil)))) (.block (.loop [6, 72] [6, 72, 73, 74, 75, 76, 77, 78, 79] (.seq (.reg (.op 0 [] .nil)) (.seq (.cond .leaf .leaf) (.seq (.block (.seq (.reg (.op 0 [] (.op 1 [] (.op 2 [] .nil)))) (.reg (.op 0 [] (.op 1 [] (.op 2 [] .nil)))))) (.reg (.op 0 [] (.op 1 [] .nil))))))))) (.reg (.op 0 [] (.op 1 [] (.op 2 [] .nil))))))))))))))) (.seq (.reg (.op 0 [] (.op 1 [] .nil))) .leaf)))))
/-- (*lighter/match.finder).tokens -/
def match_finder_tokens.res (f0 : Value) (lazy1 : Value) (H0 : Heap) (R : Value → Heap → Prop) : Prop :=
 pNil f0 fun x12 =>
 pFieldAddr 1 x12 fun x13 =>
 pLoad H0 x13 fun x14 =>
 ∃ (I_1 : Value → Value → Heap → Prop) (m_2 : Value → Value → Heap → Nat), I_1 (.slice none 0 0) x14 H0 ∧
 ∀ _ : Env, ∀ out5 : Value, ∀ i6 : Value, ∀ H_3 : Heap, I_1 out5 i6 H_3 →
 pNil f0 fun x17 =>
 pFieldAddr 0 x17 fun x18 =>
 pLoad H_3 x18 fun x19 =>
 pLenS x19 fun x20 =>
 pLt i6 x20 fun x21 =>
 pCond x21
 (CallsH Tryd.prog 25 #[f0, i6] H_3 fun x25 H_4 =>
 pExtract 0 x25 fun x26 =>
 pExtract 1 x25 fun x27 =>
 CallsH Tryd.prog 33 #[f0, i6] H_4 fun x30 H_5 =>
 ∃ J_6 : Value → Heap → Prop, (∀ _ : Env, ∀ n7 : Value, ∀ H_7 : Heap, J_6 n7 H_7 →
 pEq 0 n7 (.int .i64 0) fun x51 =>
 pCond x51
 (pNil f0 fun x54 =>
 pFieldAddr 0 x54 fun x55 =>
 pLoad H_7 x55 fun x56 =>
 pIdxStr x56 i6 fun x58 =>
 pBuild [(.int .u8 0), (.int .i64 0), (.int .i64 0)] [(0, 1, x58)] fun x59 =>
 pBuildSl H_7 47 1 [(.int .u8 0), (.int .i64 0), (.int .i64 0)] [(0, 3, x59)] fun x60 H_8 =>
 pAppend H_8 47 3 24 [(.int .u8 0), (.int .i64 0), (.int .i64 0)] out5 x60 fun x61 H_9 =>
 pAdd i6 (.int .i64 1) fun x63 =>
 I_1 x61 x63 H_9 ∧ m_2 x61 x63 H_9 < m_2 out5 i6 H_3)
 (pBuild [(.int .u8 0), (.int .i64 0), (.int .i64 0)] [(1, 1, n7), (2, 1, x27)] fun x67 =>
 pBuildSl H_7 47 1 [(.int .u8 0), (.int .i64 0), (.int .i64 0)] [(0, 3, x67)] fun x68 H_10 =>
 pAppend H_10 47 3 24 [(.int .u8 0), (.int .i64 0), (.int .i64 0)] out5 x68 fun x69 H_11 =>
 pSub n7 (.int .i64 1) fun x71 =>
 ∃ (I_12 : Value → Value → Heap → Prop) (m_13 : Value → Value → Heap → Nat), I_12 i6 (.int .i64 0) H_11 ∧
 ∀ _ : Env, ∀ i6' : Value, ∀ x72 : Value, ∀ H_14 : Heap, I_12 i6' x72 H_14 →
 pLt x72 x71 fun x73 =>
 pCond x73
 (pAdd i6' (.int .i64 1) fun x75 =>
 CallsH Tryd.prog 33 #[f0, x75] H_14 fun x78 H_15 =>
 pAdd x72 (.int .i64 1) fun x79 =>
 I_12 x75 x79 H_15 ∧ m_13 x75 x79 H_15 < m_13 i6' x72 H_14)
 (pAdd i6' (.int .i64 1) fun x81 =>
 I_1 x69 x81 H_14 ∧ m_2 x69 x81 H_14 < m_2 out5 i6 H_3))) ∧
 pGt x26 (.int .i64 0) fun x32 =>
 pAnd x32 (fun J_16 =>
 J_16 lazy1 H_5) H_5 fun x35 H_17 => ∀ _ : Env,
 pAnd x35 (fun J_18 =>
 pLt x26 (.int .i64 258) fun x38 =>
 J_18 x38 H_17) H_17 fun x39 H_19 => ∀ _ : Env,
 pCond x39
 (pAdd i6 (.int .i64 1) fun x43 =>
 CallsH Tryd.prog 25 #[f0, x43] H_19 fun x44 H_20 =>
 pExtract 0 x44 fun x45 =>
 pExtract 1 x44 fun x46 =>
 pGt x45 x26 fun x49 =>
 pCond x49
 (J_6 (.int .i64 0) H_20)
 (J_6 x26 H_20))
 (J_6 x26 H_19))
 (R out5 H_3)
set_option maxRecDepth 100000 in
theorem match_finder_tokens.vc (f0 : Value) (lazy1 : Value) (H0 : Heap) (R : Value → Heap → Prop) (h : match_finder_tokens.res f0 lazy1 H0 R) : CallsH Tryd.prog 26 #[f0, lazy1] H0 R := by
  have e : vcFn Tryd.prog Tryd.C Tryd.f26 match_finder_tokens.an [f0, lazy1] H0 R = match_finder_tokens.res f0 lazy1 H0 R := by kernel_rfl
  exact vcFn_sound Tryd.callable Tryd.mixed Tryd.func26 (by kernel_rfl) (e.mpr h)

def match_finder_enter.an : Ann := (.seq (.seq (.reg (.op 0 [] (.op 1 [] (.op 2 [] (.op 3 [] (.op 4 [] (.op 5 [] (.op 6 [] (.op 7 [] .nil))))))))) (.cond .leaf .leaf)) (.seq (.reg (.op 0 [] (.op 1 [] (.op 2 [] (.op 3 [] .nil))))) (.seq (.drw [0, 1, 3, 7, 0, 0, 32, 96, 224, 0, 992, 2047, 4095] (.op 0 [] (.op 1 [] (.op 2 [] (.op 3 [] (.op 4 [] (.op 5 [] (.op 6 [] (.op 7 [] (.op 8 [] (.op 9 [] (.op 10 [] (.op 11 [] (.op 12 [] .nil)))))))))))))) (.reg (.op 0 [] (.op 1 [] (.op 2 [] (.op 3 [] (.op 4 [] (.op 5 [] (.op 6 [] (.op 7 [] .nil))))))))))))
/-- (*lighter/match.finder).enter -/
def match_finder_enter.res (f0 : Value) (i1 : Value) (H0 : Heap) (R : Value → Heap → Prop) : Prop :=
 pAdd i1 (.int .i64 3) fun x6 =>
 pNil f0 fun x8 =>
 pFieldAddr 0 x8 fun x9 =>
 pLoad H0 x9 fun x10 =>
 pLenS x10 fun x11 =>
 pGt x6 x11 fun x12 =>
 pCond x12
 (R (.tuple #[]) H0)
 (CallsH Tryd.prog 34 #[f0, i1] H0 fun x15 H_1 =>
 pNil f0 fun x17 =>
 pFieldAddr 3 x17 fun x18 =>
 pLoad H_1 x18 fun x19 =>
 pNil f0 fun x22 =>
 pFieldAddr 2 x22 fun x23 =>
 pLoad H_1 x23 fun x24 =>
 pLookup H_1 0 (.int .i64 0) false x24 x15 fun x26 =>
 pIdxSl 1 x19 i1 fun x27 =>
 pStore H_1 x27 x26 fun _ H_2 =>
 pNil f0 fun x29 =>
 pFieldAddr 2 x29 fun x30 =>
 pLoad H_2 x30 fun x31 =>
 pAdd i1 (.int .i64 1) fun x34 =>
 pMapSet H_2 0 x31 x15 x34 fun _ H_3 =>
 R (.tuple #[]) H_3)
set_option maxRecDepth 100000 in
theorem match_finder_enter.vc (f0 : Value) (i1 : Value) (H0 : Heap) (R : Value → Heap → Prop) (h : match_finder_enter.res f0 i1 H0 R) : CallsH Tryd.prog 33 #[f0, i1] H0 R := by
  have e : vcFn Tryd.prog Tryd.C Tryd.f33 match_finder_enter.an [f0, i1] H0 R = match_finder_enter.res f0 i1 H0 R := by kernel_rfl
  exact vcFn_sound Tryd.callable Tryd.mixed Tryd.func33 (by kernel_rfl) (e.mpr h)

def match_finder_hash.an : Ann := (.seq (.reg (.op 0 [] .nil)) (.seq (.reg (.op 0 [] (.op 1 [] (.op 2 [] (.op 3 [] (.op 4 [] .nil)))))) (.seq (.drw [0, 0, 3, 7, 15, 0, 0, 64, 224, 480, 992, 2047, 0, 0, 8192, 28672, 61440, 131071, 262143, 524287] (.op 0 [] (.op 1 [] (.op 2 [] (.op 3 [] (.op 4 [] (.op 5 [] (.op 6 [] (.op 7 [] (.op 8 [] (.op 9 [] (.op 10 [] (.op 11 [] (.op 12 [] (.op 13 [] (.op 14 [] (.op 15 [] (.op 16 [] (.op 17 [] (.op 18 [] (.op 19 [] .nil))))))))))))))))))))) .leaf)))
/-- (*lighter/match.finder).hash -/
def match_finder_hash.res (f0 : Value) (i1 : Value) (H0 : Heap) (R : Value → Heap → Prop) : Prop :=
 pNil f0 fun x7 =>
 pFieldAddr 0 x7 fun x8 =>
 pLoad H0 x8 fun x9 =>
 pIdxStr x9 i1 fun x12 =>
 pConv .i64 x12 fun x13 =>
 pShl x13 (.int .u64 10) fun x14 =>
 pAdd i1 (.int .i64 1) fun x17 =>
 pIdxStr x9 x17 fun x18 =>
 pConv .i64 x18 fun x19 =>
 pShl x19 (.int .u64 5) fun x20 =>
 pBits .xor x14 x20 fun x21 =>
 pAdd i1 (.int .i64 2) fun x24 =>
 pIdxStr x9 x24 fun x25 =>
 pConv .i64 x25 fun x26 =>
 pBits .xor x21 x26 fun x27 =>
 pBits .and x27 (.int .i64 32767) fun x28 =>
 R x28 H0
set_option maxRecDepth 100000 in
theorem match_finder_hash.vc (f0 : Value) (i1 : Value) (H0 : Heap) (R : Value → Heap → Prop) (h : match_finder_hash.res f0 i1 H0 R) : CallsH Tryd.prog 34 #[f0, i1] H0 R := by
  have e : vcFn Tryd.prog Tryd.C Tryd.f34 match_finder_hash.an [f0, i1] H0 R = match_finder_hash.res f0 i1 H0 R := by kernel_rfl
  exact vcFn_sound Tryd.callable Tryd.mixed Tryd.func34 (by kernel_rfl) (e.mpr h)

def match_finder_length.an : Ann := (.seq (.reg (.op 0 [] .nil)) (.seq (.reg (.op 0 [] (.op 1 [] (.op 2 [] (.op 3 [] (.op 4 [] (.op 5 [] (.op 6 [] (.op 7 [] (.op 8 [] .nil)))))))))) (.seq (.reg (.op 0 [] .nil)) (.seq (.block (.loop [8] [8, 17, 18, 19, 20, 21, 22, 23, 24, 25, 26, 27, 28, 29, 30, 31, 32, 33, 34, 35, 36, 37, 38, 39, 40] (.seq (.seq (.drw [0, 0, 3, 7, 15, 31, 63, 127, 15, 15, 783, 2047, 15, 4111, 12303, 28687, 15, 15, 196623, 520207, 1048575, 2097151] (.op 0 [] (.op 1 [] (.op 2 [] (.op 3 [] (.grp 3 (.op 4 [] (.op 5 [] (.op 6 [] (.op 7 [] (.op 8 [] (.op 9 [] (.op 10 [] (.op 11 [] (.op 12 [] (.op 13 [] (.op 14 [] (.op 15 [] (.op 16 [] (.op 17 [] (.op 18 [] (.op 19 [] (.op 20 [] .nil))))))))))))))))) 21 .nil)))))) (.cond .leaf .leaf)) (.block (.reg (.op 0 [] (.op 1 [] (.op 2 [] .nil)))))))) (.seq (.reg (.op 0 [] (.op 1 [] .nil))) .leaf)))))
/-- (*lighter/match.finder).length -/
def match_finder_length.res (f0 : Value) (k1 : Value) (i2 : Value) (H0 : Heap) (R : Value → Heap → Prop) : Prop :=
 pNil f0 fun x10 =>
 pFieldAddr 0 x10 fun x11 =>
 pLoad H0 x11 fun x12 =>
 pLenS x12 fun x13 =>
 pSub x13 i2 fun x15 =>
 pMin (.int .i64 258) x15 fun x16 =>
 ∃ (I_1 : Value → Heap → Prop) (m_2 : Value → Heap → Nat), I_1 (.int .i64 0) H0 ∧
 ∀ _ : Env, ∀ n8 : Value, ∀ H_3 : Heap, I_1 n8 H_3 →
 pLt n8 x16 fun x19 =>
 pAnd x19 (fun J_4 =>
 pNil f0 fun x22 =>
 pFieldAddr 0 x22 fun x23 =>
 pLoad H_3 x23 fun x24 =>
 pAdd k1 n8 fun x27 =>
 pIdxStr x24 x27 fun x28 =>
 pNil f0 fun x30 =>
 pFieldAddr 0 x30 fun x31 =>
 pLoad H_3 x31 fun x32 =>
 pAdd i2 n8 fun x35 =>
 pIdxStr x32 x35 fun x36 =>
 pEq 0 x28 x36 fun x37 =>
 J_4 x37 H_3) H_3 fun x38 H_5 => ∀ _ : Env,
 pCond x38
 (pAdd n8 (.int .i64 1) fun x40 =>
 I_1 x40 H_5 ∧ m_2 x40 H_5 < m_2 n8 H_3)
 (R n8 H_5)
set_option maxRecDepth 100000 in
theorem match_finder_length.vc (f0 : Value) (k1 : Value) (i2 : Value) (H0 : Heap) (R : Value → Heap → Prop) (h : match_finder_length.res f0 k1 i2 H0 R) : CallsH Tryd.prog 35 #[f0, k1, i2] H0 R := by
  have e : vcFn Tryd.prog Tryd.C Tryd.f35 match_finder_length.an [f0, k1, i2] H0 R = match_finder_length.res f0 k1 i2 H0 R := by kernel_rfl
  exact vcFn_sound Tryd.callable Tryd.mixed Tryd.func35 (by kernel_rfl) (e.mpr h)

end Go.Proofs.YtfmbgnchedhneaaDoor
