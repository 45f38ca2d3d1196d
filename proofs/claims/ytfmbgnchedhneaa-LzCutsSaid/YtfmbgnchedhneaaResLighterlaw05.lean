/- The residuals of package lighterlaw05's functions, printed by resid.py. -/
import Derived.Test.YtfmbgnchedhneaaVcSeat
namespace Go.Proofs.Ytfmbgnchedhneaa
open Go Go.Vc Go.Proofs
set_option linter.unusedVariables false
set_option maxHeartbeats 4000000
def lighterlaw05_LzCuts.an : Ann := (.seq (.reg (.op 0 [] .nil)) (.seq (.seq (.reg (.op 0 [] (.op 1 [] .nil))) (.cond (.seq (.reg (.op 0 [] .nil)) .leaf) .leaf)) (.seq (.reg (.op 0 [] (.op 1 [] (.op 2 [] (.op 3 [] (.op 4 [] (.op 5 [] .nil))))))) (.seq (.reg (.op 0 [] .nil)) (.seq (.seq (.reg (.op 0 [] .nil)) (.block (.loop [7, 8] [7, 8, 33, 34, 35, 36, 37, 38, 39, 40, 41, 42, 43, 44, 45, 46, 47, 48, 49] (.seq (.seq (.reg (.op 0 [] (.op 1 [] (.op 2 [] (.op 3 [] (.op 4 [] (.grp 4 (.op 5 [] (.op 6 [] .nil)) 7 .nil))))))) (.cond .leaf .leaf)) (.seq (.block (.reg (.op 0 [] (.op 1 [] (.op 2 [] (.op 3 [] (.op 4 [] (.op 5 [] (.op 6 [] (.op 7 [] .nil)))))))))) (.reg (.op 0 [] (.op 1 [] (.op 2 [] .nil))))))))) (.seq (.reg (.op 0 [] .nil)) (.seq (.seq (.reg (.op 0 [] .nil)) (.block (.loop [9, 10] [6, 9, 10, 11, 12, 13, 50, 51, 52, 53, 54, 55, 56, 57, 58, 59, 60, 61, 62, 63, 64, 65, 66, 67, 68, 69, 70, 71, 72, 73, 74, 75, 76, 77, 78, 79, 80, 81, 82, 83, 84, 85, 86, 87, 88, 89, 90, 91] (.seq (.seq (.reg (.op 0 [] (.op 1 [] (.op 2 [] (.op 3 [] .nil))))) (.cond .leaf .leaf)) (.seq (.block (.seq (.seq (.reg (.op 0 [] (.op 1 [] (.op 2 [] (.op 3 [] (.op 4 [] (.op 5 [] .nil))))))) (.cond (.seq (.reg (.op 0 [] (.op 1 [] (.op 2 [] (.op 3 [] (.op 4 [] (.op 5 [] (.op 6 [] (.op 7 [] (.op 8 [] (.op 9 [] .nil))))))))))) (.seq (.reg (.op 0 [] (.op 1 [] (.op 2 [] (.op 3 [] (.grp 3 (.op 4 [] (.op 5 [] .nil)) 6 (.op 7 [] (.grp 7 (.op 8 [] (.op 9 [] (.op 10 [] (.op 11 [] (.op 12 [] (.op 13 [] .nil)))))) 14 (.op 15 [] .nil))))))))) .leaf)) .leaf)) (.reg (.op 0 [] (.op 1 [] (.op 2 [] (.op 3 [] (.op 4 [] (.op 5 [] (.op 6 [] (.op 7 [] (.op 8 [] .nil)))))))))))) (.reg (.op 0 [] (.op 1 [] (.op 2 [] .nil))))))))) (.seq (.reg (.op 0 [] (.op 1 [] (.op 2 [] (.op 3 [] (.op 4 [] (.op 5 [] (.op 6 [] (.op 7 [] (.op 8 [] (.op 9 [] .nil))))))))))) (.seq (.seq (.reg (.op 0 [] (.op 1 [] (.op 2 [] (.op 3 [] .nil))))) (.cond (.seq (.reg (.op 0 [] .nil)) .leaf) .leaf)) (.seq (.seq (.reg (.op 0 [] (.op 1 [] (.op 2 [] (.grp 2 (.op 3 [] (.op 4 [] (.op 5 [] .nil))) 6 .nil))))) (.cond (.seq (.reg (.op 0 [] (.op 1 [] (.op 2 [] (.grp 2 (.op 3 [] (.op 4 [] (.op 5 [] (.op 6 [] (.op 7 [] (.op 8 [] .nil)))))) 9 (.op 10 [] .nil)))))) .leaf) .leaf)) (.seq (.seq (.reg (.op 0 [] (.op 1 [] .nil))) (.cond (.seq (.reg (.op 0 [] .nil)) (.seq (.seq (.reg (.op 0 [] .nil)) (.block (.loop [17, 18] [6, 17, 18, 19, 122, 123, 124, 125, 126, 127, 128, 129, 130, 131, 132, 133, 134, 135, 136, 137, 138, 139, 140, 141, 142, 143, 144, 145, 146, 147, 148, 149, 150, 151, 152, 153, 154, 155, 156, 157, 158] (.seq (.seq (.reg (.op 0 [] (.op 1 [] (.op 2 [] (.op 3 [] .nil))))) (.cond .leaf .leaf)) (.seq (.block (.seq (.reg (.op 0 [] (.op 1 [] (.op 2 [] (.op 3 [] (.op 4 [] (.op 5 [] (.op 6 [] .nil)))))))) (.seq (.seq (.reg (.op 0 [] (.op 1 [] (.op 2 [] (.op 3 [] (.grp 3 (.op 4 [] (.op 5 [] (.op 6 [] (.op 7 [] (.op 8 [] .nil))))) 9 .nil)))))) (.cond (.seq (.reg (.op 0 [] (.op 1 [] (.op 2 [] (.op 3 [] (.op 4 [] (.grp 4 (.op 5 [] (.op 6 [] (.op 7 [] (.op 8 [] (.op 9 [] (.op 10 [] .nil)))))) 11 (.op 12 [] .nil)))))))) .leaf) .leaf)) (.reg (.op 0 [] (.op 1 [] (.op 2 [] (.op 3 [] .nil)))))))) (.reg (.op 0 [] (.op 1 [] (.op 2 [] .nil))))))))) (.seq (.reg (.op 0 [] .nil)) .leaf))) .leaf)) (.seq (.reg (.op 0 [] (.op 1 [] (.op 2 [] (.op 3 [] (.op 4 [] (.op 5 [] (.op 6 [] (.op 7 [] .nil))))))))) (.seq (.seq (.reg (.op 0 [] (.op 1 [] .nil))) (.cond (.seq (.reg (.op 0 [] (.op 1 [] (.op 2 [] (.op 3 [] (.op 4 [] (.grp 4 (.op 5 [] (.op 6 [] (.op 7 [] (.op 8 [] (.op 9 [] (.op 10 [] .nil)))))) 11 (.op 12 [] .nil)))))))) .leaf) .leaf)) (.seq (.reg (.op 0 [] (.op 1 [] (.op 2 [] (.op 3 [] (.op 4 [] (.op 5 [] (.op 6 [] (.op 7 [] .nil))))))))) (.seq (.reg (.op 0 [] (.op 1 [] (.op 2 [] (.op 3 [] (.op 4 [] (.op 5 [] (.op 6 [] (.op 7 [] (.op 8 [] (.op 9 [] .nil))))))))))) (.seq (.reg (.op 0 [] (.op 1 [] (.grp 1 (.op 2 [] .nil) 3 (.op 4 [] (.grp 4 (.op 5 [] (.op 6 [] (.op 7 [] (.op 8 [] .nil)))) 9 (.op 10 [] (.grp 10 (.op 11 [] (.op 12 [] (.op 13 [] (.op 14 [] (.op 15 [] .nil))))) 16 (.op 17 [] .nil))))))))) .leaf))))))))))))))))
/-- lighter/lighterlaw05.LzCuts -/
def lighterlaw05_LzCuts.res (ahead0 : Value) (l1 : Value) (n2 : Value) (H0 : Heap) (R : Value → Heap → Prop) : Prop :=
 CallsH Try.prog 4 #[] H0 fun x26 H_1 =>
 pNot x26 fun x27 =>
 pCond x27
 (R (.bool false) H_1)
 (pLenS ahead0 fun x30 =>
 pMin x30 (.int .i64 300) fun x31 =>
 pSlStr ahead0 none (some x31) fun x32 =>
 ∃ (I_2 : Value → Value → Heap → Prop) (m_3 : Value → Value → Heap → Nat), I_2 (.slice none 0 0) (.int .i64 0) H_1 ∧
 ∀ _ : Env, ∀ a7 : Value, ∀ i8 : Value, ∀ H_4 : Heap, I_2 a7 i8 H_4 →
 pLen l1 fun x35 =>
 pLt i8 x35 fun x36 =>
 pAnd x36 (fun J_5 =>
 pLt i8 (.int .i64 20) fun x39 =>
 J_5 x39 H_4) H_4 fun x40 H_6 => ∀ _ : Env,
 pCond x40
 (pIdxSl 3 l1 i8 fun x46 =>
 pLoadN H_6 3 x46 fun x47 =>
 pBuildSl H_6 26 1 [(.int .u8 0), (.int .i64 0), (.int .i64 0)] [(0, 3, x47)] fun x48 H_7 =>
 pAppend H_7 26 3 24 [(.int .u8 0), (.int .i64 0), (.int .i64 0)] a7 x48 fun x49 H_8 =>
 pAdd i8 (.int .i64 1) fun x42 =>
 I_2 x49 x42 H_8 ∧ m_3 x49 x42 H_8 < m_3 a7 i8 H_4)
 (∃ (I_9 : Value → Value → Heap → Prop) (m_10 : Value → Value → Heap → Nat), I_9 (.int .i64 0) (.int .i64 0) H_6 ∧
 ∀ _ : Env, ∀ size9 : Value, ∀ i10 : Value, ∀ H_11 : Heap, I_9 size9 i10 H_11 →
 pLen a7 fun x52 =>
 pLt i10 x52 fun x53 =>
 pCond x53
 (pIdxSl 3 a7 i10 fun x58 =>
 pLoadN H_11 3 x58 fun x59 =>
 CallsH Try.prog 5 #[x59] H_11 fun x60 H_12 =>
 pNot x60 fun x61 =>
 pCond x61
 (CallsH Try.prog 6 #[a7, n2] H_12 fun x65 H_13 =>
 pExtract 0 x65 fun x66 =>
 pExtract 1 x65 fun x67 =>
 pExtract 2 x65 fun x68 =>
 CallsH Try.prog 7 #[a7] H_13 fun x70 H_14 =>
 pEq 0 x70 (.int .i64 (-1)) fun x71 =>
 pAnd x71 (fun J_15 =>
 pNot x68 fun x74 =>
 J_15 x74 H_14) H_14 fun x75 H_16 => ∀ _ : Env,
 pAnd x75 (fun J_17 =>
 pLen x66 fun x78 =>
 pLen x67 fun x80 =>
 pAdd x78 x80 fun x81 =>
 pEq 0 x81 (.int .i64 0) fun x82 =>
 J_17 x82 H_16) H_16 fun x83 H_18 => ∀ _ : Env,
 R x83 H_18)
 (pIdxSl 3 a7 i10 fun x87 =>
 pFieldAddr 1 x87 fun x88 =>
 pLoad H_12 x88 fun x89 =>
 pMax x89 (.int .i64 1) fun x90 =>
 pAdd size9 x90 fun x91 =>
 pAdd i10 (.int .i64 1) fun x55 =>
 I_9 x91 x55 H_12 ∧ m_10 x91 x55 H_12 < m_10 size9 i10 H_11))
 (CallsH Try.prog 6 #[a7, n2] H_11 fun x95 H_19 =>
 pExtract 0 x95 fun x96 =>
 pExtract 1 x95 fun x97 =>
 pExtract 2 x95 fun x98 =>
 CallsH Try.prog 7 #[a7] H_19 fun x100 H_20 =>
 pNe 0 x100 size9 fun x102 =>
 pCond x102
 (R (.bool false) H_20)
 (pLt n2 (.int .i64 0) fun x104 =>
 pOr x104 (fun J_21 =>
 pGt n2 size9 fun x108 =>
 J_21 x108 H_20) H_20 fun x109 H_22 => ∀ _ : Env,
 pCond x109
 (pNot x98 fun x111 =>
 pAnd x111 (fun J_23 =>
 pLen x96 fun x114 =>
 pLen x97 fun x116 =>
 pAdd x114 x116 fun x117 =>
 pEq 0 x117 (.int .i64 0) fun x118 =>
 J_23 x118 H_22) H_22 fun x119 H_24 => ∀ _ : Env,
 R x119 H_24)
 (pNot x98 fun x121 =>
 pCond x121
 (∃ (I_25 : Value → Value → Heap → Prop) (m_26 : Value → Value → Heap → Nat), I_25 (.int .i64 0) (.int .i64 0) H_22 ∧
 ∀ _ : Env, ∀ at17 : Value, ∀ i18 : Value, ∀ H_27 : Heap, I_25 at17 i18 H_27 →
 pLen a7 fun x124 =>
 pLt i18 x124 fun x125 =>
 pCond x125
 (pIdxSl 3 a7 i18 fun x130 =>
 pFieldAddr 1 x130 fun x131 =>
 pLoad H_27 x131 fun x132 =>
 pMax x132 (.int .i64 1) fun x133 =>
 pGt n2 at17 fun x136 =>
 pAnd x136 (fun J_28 =>
 pAdd at17 x133 fun x141 =>
 pLt n2 x141 fun x142 =>
 J_28 x142 H_27) H_27 fun x143 H_29 => ∀ _ : Env,
 pCond x143
 (pSub n2 at17 fun x146 =>
 pLt x146 (.int .i64 3) fun x147 =>
 pOr x147 (fun J_30 =>
 pAdd at17 x133 fun x151 =>
 pSub x151 n2 fun x153 =>
 pLt x153 (.int .i64 3) fun x154 =>
 J_30 x154 H_29) H_29 fun x155 H_31 => ∀ _ : Env,
 R x155 H_31)
 (pAdd at17 x133 fun x158 =>
 pAdd i18 (.int .i64 1) fun x127 =>
 I_25 x158 x127 H_29 ∧ m_26 x158 x127 H_29 < m_26 at17 i18 H_27))
 (R (.bool false) H_27))
 (CallsH Try.prog 8 #[x32, a7] H_22 fun x162 H_32 =>
 pExtract 0 x162 fun x163 =>
 pExtract 1 x162 fun x164 =>
 pNot x164 fun x166 =>
 pCond x166
 (CallsH Try.prog 7 #[x96] H_32 fun x168 H_33 =>
 pEq 0 x168 n2 fun x170 =>
 pAnd x170 (fun J_34 =>
 CallsH Try.prog 7 #[x97] H_33 fun x173 H_36 =>
 pSub size9 n2 fun x176 =>
 pEq 0 x173 x176 fun x177 =>
 J_34 x177 H_36) H_33 fun x178 H_35 => ∀ _ : Env,
 R x178 H_35)
 (CallsH Try.prog 8 #[x32, x96] H_32 fun x182 H_37 =>
 pExtract 0 x182 fun x183 =>
 pExtract 1 x182 fun x184 =>
 pAdd x32 x183 fun x188 =>
 CallsH Try.prog 8 #[x188, x97] H_37 fun x190 H_38 =>
 pExtract 0 x190 fun x191 =>
 pExtract 1 x190 fun x192 =>
 pAnd x184 (fun J_39 =>
 J_39 x192 H_38) H_38 fun x196 H_40 => ∀ _ : Env,
 pAnd x196 (fun J_41 =>
 pLenS x183 fun x199 =>
 pEq 0 x199 n2 fun x201 =>
 J_41 x201 H_40) H_40 fun x202 H_42 => ∀ _ : Env,
 pAnd x202 (fun J_43 =>
 pAdd x183 x191 fun x206 =>
 pEq 1 x206 x163 fun x208 =>
 J_43 x208 H_42) H_42 fun x209 H_44 => ∀ _ : Env,
 R x209 H_44)))))))
set_option maxRecDepth 100000 in
theorem lighterlaw05_LzCuts.vc (ahead0 : Value) (l1 : Value) (n2 : Value) (H0 : Heap) (R : Value → Heap → Prop) (h : lighterlaw05_LzCuts.res ahead0 l1 n2 H0 R) : CallsH Try.prog 3 #[ahead0, l1, n2] H0 R := by
  have e : vcFn Try.prog Try.C Try.f3 lighterlaw05_LzCuts.an [ahead0, l1, n2] H0 R = lighterlaw05_LzCuts.res ahead0 l1 n2 H0 R := by kernel_rfl
  exact vcFn_sound Try.callable Try.mixed Try.func3 (by kernel_rfl) (e.mpr h)

def lighterlaw05_speaks.an : Ann := (.seq (.reg (.op 0 [] .nil)) (.seq (.reg (.op 0 [] (.op 1 [] (.op 2 [] (.op 3 [] (.op 4 [] (.op 5 [] (.op 6 [] (.op 7 [] .nil))))))))) (.seq (.reg (.op 0 [] (.op 1 [] (.grp 1 (.op 2 [] (.op 3 [] .nil)) 4 (.op 5 [] (.grp 5 (.op 6 [] (.op 7 [] (.op 8 [] .nil))) 9 (.op 10 [] (.grp 10 (.op 11 [] (.op 12 [] (.op 13 [] .nil))) 14 (.op 15 [] .nil))))))))) .leaf)))
/-- lighter/lighterlaw05.speaks -/
def lighterlaw05_speaks.res (H0 : Heap) (R : Value → Heap → Prop) : Prop :=
 pBuild [(.int .u8 0), (.int .i64 0), (.int .i64 0)] [(1, 1, (.int .i64 3)), (2, 1, (.int .i64 2))] fun x4 =>
 pBuildSl H0 26 1 [(.int .u8 0), (.int .i64 0), (.int .i64 0)] [(0, 3, x4)] fun x5 H_1 =>
 CallsH Try.prog 8 #[(str [97, 98]), x5] H_1 fun x6 H_2 =>
 pExtract 0 x6 fun x7 =>
 pExtract 1 x6 fun x8 =>
 pAnd x8 (fun J_3 =>
 pEq 1 x7 (str [97, 98, 97]) fun x12 =>
 J_3 x12 H_2) H_2 fun x13 H_4 => ∀ _ : Env,
 pAnd x13 (fun J_5 =>
 CallsH Try.prog 9 #[(.int .i64 258)] H_4 fun x15 H_7 =>
 pBuild [(.int .i64 0), (.int .i64 0), (.int .u64 0)] [(0, 1, (.int .i64 285))] fun x16 =>
 pEqA [0, 0, 0] x15 x16 fun x17 =>
 J_5 x17 H_7) H_4 fun x18 H_6 => ∀ _ : Env,
 pAnd x18 (fun J_8 =>
 CallsH Try.prog 10 #[(.int .i64 6)] H_6 fun x20 H_10 =>
 pBuild [(.int .i64 0), (.int .i64 0), (.int .u64 0)] [(0, 1, (.int .i64 4)), (1, 1, (.int .i64 1)), (2, 1, (.int .u64 1))] fun x21 =>
 pEqA [0, 0, 0] x20 x21 fun x22 =>
 J_8 x22 H_10) H_6 fun x23 H_9 => ∀ _ : Env,
 R x23 H_9
set_option maxRecDepth 100000 in
theorem lighterlaw05_speaks.vc (H0 : Heap) (R : Value → Heap → Prop) (h : lighterlaw05_speaks.res H0 R) : CallsH Try.prog 4 #[] H0 R := by
  have e : vcFn Try.prog Try.C Try.f4 lighterlaw05_speaks.an [] H0 R = lighterlaw05_speaks.res H0 R := by kernel_rfl
  exact vcFn_sound Try.callable Try.mixed Try.func4 (by kernel_rfl) (e.mpr h)

end Go.Proofs.Ytfmbgnchedhneaa
