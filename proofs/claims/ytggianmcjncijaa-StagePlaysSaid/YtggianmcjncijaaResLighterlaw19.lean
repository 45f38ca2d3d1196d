/- The residuals of package lighterlaw19's functions, printed by resid.py. -/
import Derived.Test.YtggianmcjncijaaVcSeat
namespace Go.Proofs.Ytggianmcjncijaa
open Go Go.Vc Go.Proofs
set_option linter.unusedVariables false
set_option maxHeartbeats 4000000
def lighterlaw19_StagePlays.an : Ann := (.seq (.reg (.op 0 [] .nil)) (.seq (.seq (.reg (.op 0 [] (.op 1 [] .nil))) (.cond (.seq (.reg (.op 0 [] .nil)) .leaf) .leaf)) (.seq (.reg (.op 0 [] (.op 1 [] (.op 2 [] (.op 3 [] .nil))))) (.seq (.reg (.op 0 [] (.op 1 [] (.op 2 [] (.op 3 [] (.op 4 [] (.op 5 [] .nil))))))) (.seq (.reg (.op 0 [] (.op 1 [] (.op 2 [] (.op 3 [] (.op 4 [] (.op 5 [] (.op 6 [] (.op 7 [] .nil))))))))) (.seq (.seq (.reg (.op 0 [] (.op 1 [] .nil))) (.cond (.seq (.reg (.op 0 [] .nil)) .leaf) .leaf)) (.seq (.reg (.op 0 [] .nil)) (.seq (.seq (.reg (.op 0 [] .nil)) (.block (.loop [7, 9, 10] [4, 7, 9, 10, 11, 12, 13, 14, 15, 16, 17, 18, 19, 20, 21, 22, 23, 24, 42, 43, 44, 45, 46, 47, 48, 49, 50, 51, 52, 53, 54, 55, 56, 57, 58, 59, 60, 61, 62, 63, 64, 65, 66, 67, 68, 69, 70, 71, 72, 73, 74, 75, 76, 77, 78, 79, 80, 81, 82, 83, 84, 85, 86, 87, 88, 89, 90, 91, 92, 93, 94, 95, 96, 97, 98, 99, 100, 101, 102, 103, 104, 105, 106, 107, 108, 109, 110, 111, 112, 113, 114, 115, 116, 117, 118, 119, 120, 121, 122, 123, 124, 125, 126, 127, 128, 129, 130, 131, 132, 133, 134, 135, 136, 137, 138, 139, 140, 141, 142, 143, 144, 145, 146, 147, 148, 149, 150, 151, 152, 153, 154, 155, 156, 157, 158, 159, 160, 161, 162, 163, 164, 165, 166, 167, 168, 169, 170, 171, 172, 173, 174, 175, 176, 177, 178, 179, 180, 181, 182, 183, 184, 185, 186, 187, 188, 189, 190, 191, 192, 193, 194, 195, 196, 197, 198, 199, 200, 201, 202, 203, 204, 205, 206, 207, 208, 209, 210, 211, 212, 213, 214, 215] (.seq (.seq (.reg (.op 0 [] (.op 1 [] (.op 2 [] (.op 3 [] (.op 4 [] (.grp 4 (.op 5 [] (.op 6 [] .nil)) 7 .nil))))))) (.cond .leaf .leaf)) (.seq (.block (.seq (.reg (.op 0 [] (.op 1 [] (.op 2 [] (.op 3 [] (.op 4 [] (.op 5 [] .nil))))))) (.seq (.reg (.op 0 [] (.op 1 [] (.op 2 [] (.op 3 [] (.op 4 [] (.op 5 [] (.op 6 [] (.op 7 [] .nil))))))))) (.cut [7, 9] [4, 7, 9, 13, 14, 15, 16, 17, 18, 19, 20, 21, 22, 63, 64, 65, 66, 67, 68, 69, 70, 71, 72, 73, 74, 75, 76, 77, 78, 79, 80, 81, 82, 83, 84, 85, 86, 87, 88, 89, 90, 91, 92, 93, 94, 95, 96, 97, 98, 99, 100, 101, 102, 103, 104, 105, 106, 107, 108, 109, 110, 111, 112, 113, 114, 115, 116, 117, 118, 119, 120, 121, 122, 123, 124, 125, 126, 127, 128, 129, 130, 131, 132, 133, 134, 135, 136, 137, 138, 139, 140, 141, 142, 143, 144, 145, 146, 147, 148, 149, 150, 151, 152, 153, 154, 155, 156, 157, 158, 159, 160, 161, 162, 163, 164, 165, 166, 167, 168, 169, 170, 171, 172, 173, 174, 175, 176, 177, 178, 179, 180, 181, 182, 183, 184] (.seq (.reg (.op 0 [] (.op 1 [] (.op 2 [] (.op 3 [] (.op 4 [] .nil)))))) (.block (.seq (.reg (.op 0 [] (.op 1 [] .nil))) (.cond (.seq (.reg (.op 0 [] (.op 1 [] (.op 2 [] (.op 3 [] (.op 4 [] (.op 5 [] (.op 6 [] (.op 7 [] (.op 8 [] (.op 9 [] (.op 10 [] .nil)))))))))))) (.seq (.reg (.op 0 [] (.op 1 [] (.op 2 [] (.op 3 [] (.op 4 [] (.op 5 [] (.op 6 [] (.op 7 [] (.op 8 [] (.op 9 [] (.op 10 [] .nil)))))))))))) (.seq (.reg (.op 0 [] (.op 1 [] (.op 2 [] (.op 3 [] (.op 4 [] (.grp 4 (.op 5 [] (.op 6 [] (.op 7 [] .nil))) 8 (.op 9 [] (.grp 9 (.op 10 [] (.op 11 [] (.op 12 [] (.grp 12 (.op 13 [] (.op 14 [] .nil)) 15 .nil)))) 16 .nil))))))))) (.cond (.seq (.reg (.op 0 [] .nil)) .leaf) .leaf)))) (.seq (.reg (.op 0 [] (.op 1 [] .nil))) (.cond (.seq (.reg (.op 0 [] (.op 1 [] (.op 2 [] (.op 3 [] (.op 4 [] .nil)))))) (.seq (.seq (.reg (.op 0 [] (.op 1 [] (.op 2 [] (.op 3 [] (.grp 3 (.op 4 [] (.op 5 [] (.op 6 [] (.op 7 [] (.op 8 [] .nil))))) 9 (.op 10 [] .nil))))))) (.seq (.reg (.op 0 [] (.op 1 [] (.op 2 [] (.op 3 [] (.op 4 [] (.grp 4 (.op 5 [] (.op 6 [] (.op 7 [] (.grp 7 (.op 8 [] (.op 9 [] .nil)) 10 .nil)))) 11 .nil))))))) (.cond (.seq (.reg (.op 0 [] .nil)) .leaf) .leaf))) (.seq (.reg (.op 0 [] (.op 1 [] .nil))) (.cond (.reg (.op 0 [] (.op 1 [] (.op 2 [] (.op 3 [] (.op 4 [] .nil)))))) .leaf)))) (.seq (.reg (.op 0 [] (.op 1 [] .nil))) (.cond (.seq (.reg (.op 0 [] (.op 1 [] (.op 2 [] .nil)))) (.cond (.seq (.reg (.op 0 [] .nil)) .leaf) .leaf)) (.seq (.reg (.op 0 [] (.op 1 [] .nil))) (.cond (.seq (.reg (.op 0 [] (.op 1 [] (.op 2 [] (.op 3 [] (.op 4 [] (.op 5 [] (.op 6 [] (.op 7 [] (.op 8 [] (.op 9 [] .nil))))))))))) (.seq (.seq (.reg (.op 0 [] (.op 1 [] .nil))) (.cond (.seq (.reg (.op 0 [] .nil)) .leaf) .leaf)) (.reg (.op 0 [] (.op 1 [] .nil))))) (.seq (.reg (.op 0 [] (.op 1 [] (.op 2 [] (.op 3 [] .nil))))) (.seq (.seq (.reg (.op 0 [] (.op 1 [] (.op 2 [] (.op 3 [] (.op 4 [] (.op 5 [] (.op 6 [] (.op 7 [] (.op 8 [] .nil)))))))))) (.seq (.reg (.op 0 [] (.op 1 [] (.op 2 [] (.op 3 [] (.op 4 [] (.grp 4 (.op 5 [] (.op 6 [] (.op 7 [] (.grp 7 (.op 8 [] (.op 9 [] .nil)) 10 .nil)))) 11 .nil))))))) (.cond (.seq (.reg (.op 0 [] .nil)) .leaf) .leaf))) (.seq (.reg (.op 0 [] (.op 1 [] .nil))) (.cond (.reg (.op 0 [] (.op 1 [] (.op 2 [] (.op 3 [] .nil))))) .leaf)))))))))))))) (.seq (.reg (.op 0 [] (.op 1 [] (.op 2 [] (.op 3 [] (.op 4 [] (.op 5 [] (.op 6 [] (.op 7 [] (.op 8 [] .nil)))))))))) (.seq (.reg (.op 0 [] (.op 1 [] (.op 2 [] (.grp 2 (.op 3 [] (.op 4 [] (.op 5 [] .nil))) 6 (.op 7 [] (.grp 7 (.op 8 [] (.op 9 [] (.op 10 [] (.op 11 [] (.op 12 [] .nil))))) 13 (.op 14 [] (.grp 14 (.op 15 [] (.op 16 [] (.op 17 [] (.op 18 [] (.op 19 [] (.op 20 [] (.op 21 [] (.op 22 [] .nil)))))))) 23 .nil))))))))) (.cond (.seq (.reg (.op 0 [] .nil)) .leaf) .leaf))))))) (.reg (.op 0 [] (.op 1 [] (.op 2 [] .nil))))))))) (.seq (.reg (.op 0 [] .nil)) .leaf)))))))))
/-- lighter/lighterlaw19.StagePlays -/
def lighterlaw19_StagePlays.res (sectors0 : Value) (l1 : Value) (H0 : Heap) (R : Value → Heap → Prop) : Prop :=
 CallsH Try.prog 7 #[] H0 fun x25 H_1 =>
 pNot x25 fun x26 =>
 pCond x26
 (R (.bool false) H_1)
 (pBits .and sectors0 (.int .i64 7) fun x28 =>
 pAdd (.int .i64 1) x28 fun x29 =>
 CallsH Try.prog 8 #[(.int .i64 12)] H_1 fun x31 H_2 =>
 pExtract 0 x31 fun x32 =>
 pExtract 1 x31 fun x33 =>
 CallsH Try.prog 9 #[x32, (.int .i64 2), x29, (.int .i64 0)] H_2 fun x37 H_3 =>
 pExtract 0 x37 fun x38 =>
 pExtract 1 x37 fun x39 =>
 pNe 0 x39 (.int .i64 0) fun x41 =>
 pCond x41
 (R (.bool false) H_3)
 (∃ (I_4 : Value → Value → Value → Heap → Prop) (m_5 : Value → Value → Value → Heap → Nat), I_4 x38 (str []) (.int .i64 0) H_3 ∧
 ∀ _ : Env, ∀ f7 : Value, ∀ want9 : Value, ∀ i10 : Value, ∀ H_6 : Heap, I_4 f7 want9 i10 H_6 →
 pLen l1 fun x44 =>
 pLt i10 x44 fun x45 =>
 pAnd x45 (fun J_7 =>
 pLt i10 (.int .i64 40) fun x48 =>
 J_7 x48 H_6) H_6 fun x49 H_8 => ∀ _ : Env,
 pCond x49
 (pIdxSl 4 l1 i10 fun x54 =>
 pLoadN H_8 4 x54 fun x55 =>
 pBox H_8 32 (.agg #[(.int .i64 0), (str []), (.int .i64 0), (.int .i64 0)]) fun x11 H_9 =>
 pStoreN H_9 4 x11 x55 fun _ H_10 =>
 pFieldAddr 1 x11 fun x56 =>
 pLoad H_10 x56 fun x57 =>
 pFieldAddr 1 x11 fun x58 =>
 pLoad H_10 x58 fun x59 =>
 pLenS x59 fun x60 =>
 pMin x60 (.int .i64 200) fun x61 =>
 pSlStr x57 none (some x61) fun x62 =>
 ∃ J_11 : Value → Value → Heap → Prop, (∀ _ : Env, ∀ f7' : Value, ∀ want9' : Value, ∀ H_12 : Heap, J_11 f7' want9' H_12 →
 pLenS want9' fun x188 =>
 CallsH Try.prog 10 #[f7', (.int .i64 0), x188] H_12 fun x189 H_13 =>
 pExtract 0 x189 fun x190 =>
 pExtract 1 x189 fun x191 =>
 pNe 0 x191 (.int .i64 0) fun x193 =>
 pOr x193 (fun J_14 =>
 pNe 1 x190 want9' fun x197 =>
 J_14 x197 H_13) H_13 fun x198 H_15 => ∀ _ : Env,
 pOr x198 (fun J_16 =>
 CallsH Try.prog 15 #[f7'] H_15 fun x201 H_18 =>
 pLenS want9' fun x203 =>
 pNe 0 x201 x203 fun x204 =>
 J_16 x204 H_18) H_15 fun x205 H_17 => ∀ _ : Env,
 pOr x205 (fun J_19 =>
 CallsH Try.prog 16 #[f7'] H_17 fun x208 H_21 =>
 pMul (.int .i64 64) x29 fun x210 =>
 pLenS want9' fun x212 =>
 pSub x210 x212 fun x213 =>
 pNe 0 x208 x213 fun x214 =>
 J_19 x214 H_21) H_17 fun x215 H_20 => ∀ _ : Env,
 pCond x215
 (R (.bool false) H_20)
 (pAdd i10 (.int .i64 1) fun x51 =>
 I_4 f7' want9' x51 H_20 ∧ m_5 f7' want9' x51 H_20 < m_5 f7 want9 i10 H_6)) ∧
 pFieldAddr 0 x11 fun x63 =>
 pLoad H_10 x63 fun x64 =>
 pRem x64 (.int .i64 6) fun x65 =>
 pAdd x65 (.int .i64 6) fun x66 =>
 pRem x66 (.int .i64 6) fun x67 =>
 pEq 0 x67 (.int .i64 2) fun x97 =>
 pCond x97
 (pFieldAddr 2 x11 fun x100 =>
 pLoad H_10 x100 fun x101 =>
 pFieldAddr 3 x11 fun x102 =>
 pLoad H_10 x102 fun x103 =>
 CallsH Try.prog 10 #[f7, x101, x103] H_10 fun x104 H_22 =>
 pExtract 0 x104 fun x105 =>
 pExtract 1 x104 fun x106 =>
 pFieldAddr 2 x11 fun x109 =>
 pLoad H_22 x109 fun x110 =>
 pFieldAddr 3 x11 fun x111 =>
 pLoad H_22 x111 fun x112 =>
 CallsH Try.prog 11 #[want9, x110, x112] H_22 fun x113 H_23 =>
 pExtract 0 x113 fun x114 =>
 pExtract 1 x113 fun x115 =>
 pEq 0 x106 (.int .i64 0) fun x117 =>
 pNe 2 x117 x115 fun x119 =>
 pOr x119 (fun J_24 =>
 pNe 1 x105 x114 fun x123 =>
 J_24 x123 H_23) H_23 fun x124 H_25 => ∀ _ : Env,
 pOr x124 (fun J_26 =>
 pNot x115 fun x127 =>
 pAnd x127 (fun J_28 =>
 pNe 0 x106 (.int .i64 20) fun x130 =>
 J_28 x130 H_25) H_25 fun x131 H_29 => ∀ _ : Env,
 J_26 x131 H_29) H_25 fun x132 H_27 => ∀ _ : Env,
 pCond x132
 (R (.bool false) H_27)
 (J_11 f7 want9 H_27))
 (pEq 0 x67 (.int .i64 3) fun x134 =>
 pCond x134
 (pFieldAddr 3 x11 fun x136 =>
 pLoad H_10 x136 fun x137 =>
 CallsH Try.prog 12 #[f7, x137] H_10 fun x138 H_30 =>
 pFieldAddr 3 x11 fun x139 =>
 pLoad H_30 x139 fun x140 =>
 pGe x140 (.int .i64 0) fun x141 =>
 pAnd x141 (fun J_31 =>
 pFieldAddr 3 x11 fun x143 =>
 pLoad H_30 x143 fun x144 =>
 pLenS want9 fun x146 =>
 pLe x144 x146 fun x147 =>
 J_31 x147 H_30) H_30 fun x148 H_32 => ∀ _ : Env,
 pEq 0 x138 (.int .i64 0) fun x150 =>
 pNe 2 x150 x148 fun x152 =>
 pOr x152 (fun J_33 =>
 pNot x148 fun x155 =>
 pAnd x155 (fun J_35 =>
 pNe 0 x138 (.int .i64 20) fun x158 =>
 J_35 x158 H_32) H_32 fun x159 H_36 => ∀ _ : Env,
 J_33 x159 H_36) H_32 fun x160 H_34 => ∀ _ : Env,
 pCond x160
 (R (.bool false) H_34)
 (pEq 0 x138 (.int .i64 0) fun x162 =>
 pCond x162
 (pFieldAddr 3 x11 fun x164 =>
 pLoad H_34 x164 fun x165 =>
 pSlStr want9 none (some x165) fun x166 =>
 J_11 f7 x166 H_34)
 (J_11 f7 want9 H_34)))
 (pEq 0 x67 (.int .i64 4) fun x168 =>
 pCond x168
 (CallsH Try.prog 13 #[f7] H_10 fun x170 H_37 =>
 pNe 0 x170 (.int .i64 0) fun x171 =>
 pCond x171
 (R (.bool false) H_37)
 (J_11 f7 want9 H_37))
 (pEq 0 x67 (.int .i64 5) fun x173 =>
 pCond x173
 (pLenS want9 fun x178 =>
 CallsH Try.prog 9 #[x32, (.int .i64 2), x29, x178] H_10 fun x179 H_38 =>
 pExtract 0 x179 fun x180 =>
 pExtract 1 x179 fun x181 =>
 pNe 0 x181 (.int .i64 0) fun x183 =>
 pCond x183
 (R (.bool false) H_38)
 (J_11 x180 want9 H_38))
 (CallsH Try.prog 14 #[f7, x62] H_10 fun x70 H_39 =>
 pLenS want9 fun x72 =>
 pLenS x62 fun x74 =>
 pAdd x72 x74 fun x75 =>
 pMul (.int .i64 64) x29 fun x77 =>
 pGt x75 x77 fun x78 =>
 pEq 0 x70 (.int .i64 15) fun x81 =>
 pNe 2 x78 x81 fun x82 =>
 pOr x82 (fun J_40 =>
 pNot x78 fun x85 =>
 pAnd x85 (fun J_42 =>
 pNe 0 x70 (.int .i64 0) fun x88 =>
 J_42 x88 H_39) H_39 fun x89 H_43 => ∀ _ : Env,
 J_40 x89 H_43) H_39 fun x90 H_41 => ∀ _ : Env,
 pCond x90
 (R (.bool false) H_41)
 (pEq 0 x70 (.int .i64 0) fun x92 =>
 pCond x92
 (pAdd want9 x62 fun x95 =>
 J_11 f7 x95 H_41)
 (J_11 f7 want9 H_41)))))))
 (R (.bool true) H_8)))
set_option maxRecDepth 100000 in
theorem lighterlaw19_StagePlays.vc (sectors0 : Value) (l1 : Value) (H0 : Heap) (R : Value → Heap → Prop) (h : lighterlaw19_StagePlays.res sectors0 l1 H0 R) : CallsH Try.prog 3 #[sectors0, l1] H0 R := by
  have e : vcFn Try.prog Try.C Try.f3 lighterlaw19_StagePlays.an [sectors0, l1] H0 R = lighterlaw19_StagePlays.res sectors0 l1 H0 R := by kernel_rfl
  exact vcFn_sound Try.callable Try.mixed Try.func3 (by kernel_rfl) (e.mpr h)

def lighterlaw19_StageCrash.an : Ann := (.seq (.reg (.op 0 [] .nil)) (.seq (.seq (.reg (.op 0 [] (.op 1 [] .nil))) (.cond (.seq (.reg (.op 0 [] .nil)) .leaf) .leaf)) (.seq (.reg (.op 0 [] (.op 1 [] (.op 2 [] (.op 3 [] (.op 4 [] (.op 5 [] .nil))))))) (.seq (.reg (.op 0 [] (.op 1 [] (.op 2 [] (.op 3 [] (.op 4 [] (.op 5 [] (.op 6 [] .nil)))))))) (.seq (.reg (.op 0 [] (.op 1 [] (.op 2 [] (.op 3 [] .nil))))) (.seq (.reg (.op 0 [] (.op 1 [] .nil))) (.cut [11] [6, 11, 12, 13, 14, 15, 35, 36, 37, 38, 39, 40, 41, 42, 43, 44, 45, 46, 47, 48, 49, 50, 51, 52, 53, 54, 55, 56, 57, 58, 59, 60, 61, 62, 63, 64, 65, 66, 67, 68, 69, 70, 71, 72, 73, 74, 75, 76, 77, 78, 79, 80, 81] (.seq (.reg (.op 0 [] .nil)) (.block (.loop [11, 12, 13] [6, 11, 12, 13, 14, 15, 35, 36, 37, 38, 39, 40, 41, 42, 43, 44, 45, 46, 47, 48, 49, 50, 51, 52, 53, 54, 55, 56, 57, 58, 59, 60, 61, 62, 63, 64, 65, 66, 67, 68, 69, 70, 71, 72, 73, 74, 75, 76, 77, 78, 79, 80, 81] (.seq (.seq (.reg (.op 0 [] (.op 1 [] (.op 2 [] (.op 3 [] (.op 4 [] (.grp 4 (.op 5 [] (.op 6 [] .nil)) 7 .nil))))))) (.cond .leaf .leaf)) (.cut [11, 12] [6, 11, 12, 14, 15, 45, 46, 47, 48, 49, 50, 51, 52, 53, 54, 55, 56, 57, 58, 59, 60, 61, 62, 63, 64, 65, 66, 67, 68, 69, 70, 71, 72, 73, 74, 75, 76, 77, 78, 79, 80, 81] (.block (.seq (.drw [0, 0, 3, 7, 0, 0, 48, 112, 240, 496, 1023, 2047] (.op 0 [] (.op 1 [] (.op 2 [] (.op 3 [] (.op 4 [] (.op 5 [] (.op 6 [] (.op 7 [] (.op 8 [] (.op 9 [] (.op 10 [] (.op 11 [] .nil))))))))))))) (.seq (.reg (.op 0 [] (.op 1 [] (.op 2 [] (.op 3 [] .nil))))) (.seq (.seq (.reg (.op 0 [] (.op 1 [] .nil))) (.cond .leaf .leaf)) (.seq (.seq (.reg (.op 0 [] (.op 1 [] .nil))) (.cond (.seq (.seq (.reg (.op 0 [] (.op 1 [] (.op 2 [] (.grp 2 (.op 3 [] (.op 4 [] (.op 5 [] (.op 6 [] (.op 7 [] .nil))))) 8 .nil))))) (.cond (.seq (.reg (.op 0 [] .nil)) .leaf) .leaf)) .leaf) .leaf)) (.seq (.reg (.op 0 [] (.op 1 [] (.op 2 [] (.op 3 [] .nil))))) (.seq (.reg (.op 0 [] (.op 1 [] (.op 2 [] .nil)))) (.cond (.seq (.seq (.reg (.op 0 [] (.op 1 [] (.op 2 [] .nil)))) (.cond .leaf .leaf)) (.reg (.op 0 [] (.op 1 [] .nil)))) .leaf)))))))) (.reg (.op 0 [] (.op 1 [] (.op 2 [] .nil))))))))) (.seq (.reg (.op 0 [] (.op 1 [] (.op 2 [] .nil)))) (.seq (.reg (.op 0 [] (.op 1 [] .nil))) (.seq (.reg (.op 0 [] (.op 1 [] (.op 2 [] (.op 3 [] (.op 4 [] (.op 5 [] (.op 6 [] (.op 7 [] (.op 8 [] .nil)))))))))) (.seq (.reg (.op 0 [] (.op 1 [] (.op 2 [] (.op 3 [] (.op 4 [] (.op 5 [] (.op 6 [] (.op 7 [] (.op 8 [] .nil)))))))))) (.seq (.reg (.op 0 [] (.op 1 [] (.op 2 [] (.grp 2 (.op 3 [] (.op 4 [] .nil)) 5 (.op 6 [] (.grp 6 (.op 7 [] (.op 8 [] (.op 9 [] .nil))) 10 (.op 11 [] .nil)))))))) .leaf))))))))))))
/-- lighter/lighterlaw19.StageCrash -/
def lighterlaw19_StageCrash.res (l0 : Value) (fuse1 : Value) (fates2 : Value) (H0 : Heap) (R : Value → Heap → Prop) : Prop :=
 CallsH Try.prog 7 #[] H0 fun x20 H_1 =>
 pNot x20 fun x21 =>
 pCond x21
 (R (.bool false) H_1)
 (CallsH Try.prog 8 #[(.int .i64 16)] H_1 fun x23 H_2 =>
 pExtract 0 x23 fun x24 =>
 pExtract 1 x23 fun x25 =>
 CallsH Try.prog 9 #[x24, (.int .i64 1), (.int .i64 14), (.int .i64 0)] H_2 fun x28 H_3 =>
 pExtract 0 x28 fun x29 =>
 pExtract 1 x28 fun x30 =>
 pBits .and fuse1 (.int .i64 63) fun x33 =>
 CallsH Try.prog 17 #[x24, x33] H_3 fun x34 H_4 =>
 ∃ J_5 : Value → Heap → Prop, (∀ _ : Env, ∀ safe11 : Value, ∀ H_6 : Heap, J_5 safe11 H_6 →
 CallsH Try.prog 18 #[x24, fates2] H_6 fun x84 H_7 =>
 CallsH Try.prog 19 #[x24] H_7 fun x86 H_8 =>
 pLenS safe11 fun x90 =>
 CallsH Try.prog 9 #[x24, (.int .i64 1), (.int .i64 14), x90] H_8 fun x91 H_9 =>
 pExtract 0 x91 fun x92 =>
 pExtract 1 x91 fun x93 =>
 pLenS safe11 fun x97 =>
 CallsH Try.prog 10 #[x92, (.int .i64 0), x97] H_9 fun x98 H_10 =>
 pExtract 0 x98 fun x99 =>
 pExtract 1 x98 fun x100 =>
 pEq 0 x93 (.int .i64 0) fun x102 =>
 pAnd x102 (fun J_11 =>
 pEq 0 x100 (.int .i64 0) fun x105 =>
 J_11 x105 H_10) H_10 fun x106 H_12 => ∀ _ : Env,
 pAnd x106 (fun J_13 =>
 pEq 1 x99 safe11 fun x110 =>
 J_13 x110 H_12) H_12 fun x111 H_14 => ∀ _ : Env,
 R x111 H_14) ∧
 ∃ (I_15 : Value → Value → Value → Heap → Prop) (m_16 : Value → Value → Value → Heap → Nat), I_15 (str []) (str []) (.int .i64 0) H_4 ∧
 ∀ _ : Env, ∀ safe11' : Value, ∀ all12 : Value, ∀ i13 : Value, ∀ H_17 : Heap, I_15 safe11' all12 i13 H_17 →
 pLen l0 fun x37 =>
 pLt i13 x37 fun x38 =>
 pAnd x38 (fun J_18 =>
 pLt i13 (.int .i64 20) fun x41 =>
 J_18 x41 H_17) H_17 fun x42 H_19 => ∀ _ : Env,
 pCond x42
 (∃ J_20 : Value → Value → Heap → Prop, (∀ _ : Env, ∀ safe11'' : Value, ∀ all12' : Value, ∀ H_21 : Heap, J_20 safe11'' all12' H_21 →
 pAdd i13 (.int .i64 1) fun x44 =>
 I_15 safe11'' all12' x44 H_21 ∧ m_16 safe11'' all12' x44 H_21 < m_16 safe11' all12 i13 H_17) ∧
 pIdxSl 1 l0 i13 fun x47 =>
 pLoad H_19 x47 fun x48 =>
 pIdxSl 1 l0 i13 fun x51 =>
 pLoad H_19 x51 fun x52 =>
 pLenS x52 fun x53 =>
 pMin x53 (.int .i64 100) fun x54 =>
 pSlStr x48 none (some x54) fun x55 =>
 CallsH Try.prog 14 #[x29, x55] H_19 fun x58 H_22 =>
 pEq 0 x58 (.int .i64 15) fun x60 =>
 pCond x60
 (J_5 safe11' H_22)
 (pNe 0 x58 (.int .i64 0) fun x62 =>
 pCond x62
 (pNe 0 x58 (.int .i64 14) fun x64 =>
 pOr x64 (fun J_23 =>
 CallsH Try.prog 15 #[x29] H_22 fun x67 H_25 =>
 pLenS all12 fun x69 =>
 pNe 0 x67 x69 fun x70 =>
 J_23 x70 H_25) H_22 fun x71 H_24 => ∀ _ : Env,
 pCond x71
 (R (.bool false) H_24)
 (J_5 safe11' H_24))
 (pAdd all12 x55 fun x74 =>
 pBits .and i13 (.int .i64 1) fun x76 =>
 pEq 0 x76 (.int .i64 1) fun x77 =>
 pCond x77
 (CallsH Try.prog 13 #[x29] H_22 fun x79 H_26 =>
 pNe 0 x79 (.int .i64 0) fun x80 =>
 pCond x80
 (J_5 safe11' H_26)
 (J_20 x74 x74 H_26))
 (J_20 safe11' x74 H_22))))
 (J_5 safe11' H_19))
set_option maxRecDepth 100000 in
theorem lighterlaw19_StageCrash.vc (l0 : Value) (fuse1 : Value) (fates2 : Value) (H0 : Heap) (R : Value → Heap → Prop) (h : lighterlaw19_StageCrash.res l0 fuse1 fates2 H0 R) : CallsH Try.prog 4 #[l0, fuse1, fates2] H0 R := by
  have e : vcFn Try.prog Try.C Try.f4 lighterlaw19_StageCrash.an [l0, fuse1, fates2] H0 R = lighterlaw19_StageCrash.res l0 fuse1 fates2 H0 R := by kernel_rfl
  exact vcFn_sound Try.callable Try.mixed Try.func4 (by kernel_rfl) (e.mpr h)

def lighterlaw19_StageRefuses.an : Ann := (.seq (.reg (.op 0 [] .nil)) (.seq (.seq (.reg (.op 0 [] (.op 1 [] .nil))) (.cond (.seq (.reg (.op 0 [] .nil)) .leaf) .leaf)) (.seq (.reg (.op 0 [] (.op 1 [] (.op 2 [] (.op 3 [] (.op 4 [] (.op 5 [] .nil))))))) (.seq (.reg (.op 0 [] (.op 1 [] (.op 2 [] (.op 3 [] (.op 4 [] (.op 5 [] (.op 6 [] (.op 7 [] (.op 8 [] (.op 9 [] .nil))))))))))) (.seq (.reg (.op 0 [] (.op 1 [] (.op 2 [] (.op 3 [] (.op 4 [] (.op 5 [] .nil))))))) (.seq (.reg (.op 0 [] .nil)) (.seq (.reg (.op 0 [] (.op 1 [] (.op 2 [] (.op 3 [] (.op 4 [] (.op 5 [] (.op 6 [] .nil)))))))) (.seq (.seq (.reg (.op 0 [] (.op 1 [] (.op 2 [] (.grp 2 (.op 3 [] (.op 4 [] .nil)) 5 (.op 6 [] (.grp 6 (.op 7 [] (.op 8 [] (.op 9 [] .nil))) 10 (.op 11 [] (.grp 11 (.op 12 [] (.op 13 [] (.op 14 [] .nil))) 15 (.op 16 [] (.grp 16 (.op 17 [] (.op 18 [] (.op 19 [] .nil))) 20 (.op 21 [] (.grp 21 (.op 22 [] (.op 23 [] (.op 24 [] (.op 25 [] (.op 26 [] (.op 27 [] .nil)))))) 28 .nil))))))))))))) (.cond (.seq (.reg (.op 0 [] .nil)) .leaf) .leaf)) (.seq (.seq (.reg (.op 0 [] (.op 1 [] .nil))) (.cond (.seq (.reg (.op 0 [] (.op 1 [] (.op 2 [] (.grp 2 (.op 3 [] (.op 4 [] .nil)) 5 (.op 6 [] .nil)))))) .leaf) .leaf)) (.seq (.reg (.op 0 [] (.op 1 [] (.op 2 [] (.grp 2 (.op 3 [] (.op 4 [] .nil)) 5 (.op 6 [] (.grp 6 (.op 7 [] (.op 8 [] (.op 9 [] (.op 10 [] .nil)))) 11 (.op 12 [] (.grp 12 (.op 13 [] (.op 14 [] .nil)) 15 (.op 16 [] (.grp 16 (.op 17 [] (.op 18 [] .nil)) 19 (.op 20 [] (.grp 20 (.op 21 [] (.op 22 [] (.op 23 [] (.op 24 [] .nil)))) 25 (.op 26 [] .nil)))))))))))))) (.seq (.reg (.op 0 [] (.op 1 [] (.op 2 [] (.op 3 [] (.op 4 [] (.grp 4 (.op 5 [] (.op 6 [] (.grp 6 (.op 7 [] (.op 8 [] (.op 9 [] (.grp 9 (.op 10 [] (.op 11 [] .nil)) 12 .nil)))) 13 .nil))) 14 (.op 15 [] (.grp 15 (.op 16 [] (.op 17 [] (.op 18 [] (.grp 18 (.op 19 [] (.op 20 [] (.op 21 [] (.op 22 [] (.op 23 [] (.grp 23 (.op 24 [] (.op 25 [] (.op 26 [] (.op 27 [] (.op 28 [] (.op 29 [] (.op 30 [] .nil))))))) 31 .nil)))))) 32 .nil)))) 33 (.op 34 [] .nil)))))))))) .leaf)))))))))))
/-- lighter/lighterlaw19.StageRefuses -/
def lighterlaw19_StageRefuses.res (at0 : Value) (sectors1 : Value) (size2 : Value) (H0 : Heap) (R : Value → Heap → Prop) : Prop :=
 CallsH Try.prog 7 #[] H0 fun x17 H_1 =>
 pNot x17 fun x18 =>
 pCond x18
 (R (.bool false) H_1)
 (CallsH Try.prog 8 #[(.int .i64 8)] H_1 fun x20 H_2 =>
 pExtract 0 x20 fun x21 =>
 pExtract 1 x20 fun x22 =>
 CallsH Try.prog 9 #[x21, at0, sectors1, size2] H_2 fun x28 H_3 =>
 pExtract 0 x28 fun x29 =>
 pExtract 1 x28 fun x30 =>
 CallsH Try.prog 9 #[(.pointer none), (.int .i64 0), (.int .i64 1), (.int .i64 0)] H_3 fun x32 H_4 =>
 pExtract 0 x32 fun x33 =>
 pExtract 1 x32 fun x34 =>
 CallsH Try.prog 10 #[(.pointer none), (.int .i64 0), (.int .i64 0)] H_4 fun x37 H_5 =>
 pExtract 0 x37 fun x38 =>
 pExtract 1 x37 fun x39 =>
 pNe 0 x34 (.int .i64 1) fun x41 =>
 pOr x41 (fun J_6 =>
 pNe 0 x39 (.int .i64 1) fun x44 =>
 J_6 x44 H_5) H_5 fun x45 H_7 => ∀ _ : Env,
 pOr x45 (fun J_8 =>
 CallsH Try.prog 14 #[(.pointer none), (str [120])] H_7 fun x48 H_10 =>
 pNe 0 x48 (.int .i64 1) fun x49 =>
 J_8 x49 H_10) H_7 fun x50 H_9 => ∀ _ : Env,
 pOr x50 (fun J_11 =>
 CallsH Try.prog 13 #[(.pointer none)] H_9 fun x53 H_13 =>
 pNe 0 x53 (.int .i64 1) fun x54 =>
 J_11 x54 H_13) H_9 fun x55 H_12 => ∀ _ : Env,
 pOr x55 (fun J_14 =>
 CallsH Try.prog 12 #[(.pointer none), (.int .i64 0)] H_12 fun x58 H_16 =>
 pNe 0 x58 (.int .i64 1) fun x59 =>
 J_14 x59 H_16) H_12 fun x60 H_15 => ∀ _ : Env,
 pOr x60 (fun J_17 =>
 CallsH Try.prog 15 #[(.pointer none)] H_15 fun x63 H_19 =>
 CallsH Try.prog 16 #[(.pointer none)] H_19 fun x65 H_20 =>
 pAdd x63 x65 fun x66 =>
 pNe 0 x66 (.int .i64 0) fun x67 =>
 J_17 x67 H_20) H_15 fun x68 H_18 => ∀ _ : Env,
 pCond x68
 (R (.bool false) H_18)
 (pLt sectors1 (.int .i64 1) fun x70 =>
 pCond x70
 (pEq 0 x30 (.int .i64 1) fun x72 =>
 pAnd x72 (fun J_21 =>
 pEq 3 x29 (.pointer none) fun x75 =>
 J_21 x75 H_18) H_18 fun x76 H_22 => ∀ _ : Env,
 R x76 H_22)
 (pGe at0 (.int .i64 0) fun x78 =>
 pAnd x78 (fun J_23 =>
 pLe at0 (.int .i64 8) fun x81 =>
 J_23 x81 H_18) H_18 fun x82 H_24 => ∀ _ : Env,
 pAnd x82 (fun J_25 =>
 pSub (.int .i64 8) at0 fun x86 =>
 pLe sectors1 x86 fun x87 =>
 J_25 x87 H_24) H_24 fun x88 H_26 => ∀ _ : Env,
 pAnd x88 (fun J_27 =>
 pGe size2 (.int .i64 0) fun x91 =>
 J_27 x91 H_26) H_26 fun x92 H_28 => ∀ _ : Env,
 pAnd x92 (fun J_29 =>
 pLe size2 (.int .i64 512) fun x95 =>
 J_29 x95 H_28) H_28 fun x96 H_30 => ∀ _ : Env,
 pAnd x96 (fun J_31 =>
 pMul (.int .i64 64) sectors1 fun x100 =>
 pLe size2 x100 fun x101 =>
 J_31 x101 H_30) H_30 fun x102 H_32 => ∀ _ : Env,
 pEq 0 x30 (.int .i64 0) fun x104 =>
 pEq 2 x104 x102 fun x106 =>
 pAnd x106 (fun J_33 =>
 pOr x102 (fun J_35 =>
 pEq 0 x30 (.int .i64 20) fun x111 =>
 pAnd x111 (fun J_37 =>
 pEq 3 x29 (.pointer none) fun x114 =>
 J_37 x114 H_32) H_32 fun x115 H_38 => ∀ _ : Env,
 J_35 x115 H_38) H_32 fun x116 H_36 => ∀ _ : Env,
 J_33 x116 H_36) H_32 fun x117 H_34 => ∀ _ : Env,
 pAnd x117 (fun J_39 =>
 pNot x102 fun x120 =>
 pOr x120 (fun J_41 =>
 CallsH Try.prog 15 #[x29] H_34 fun x123 H_43 =>
 pEq 0 x123 size2 fun x125 =>
 pAnd x125 (fun J_44 =>
 CallsH Try.prog 16 #[x29] H_43 fun x128 H_46 =>
 pMul (.int .i64 64) sectors1 fun x130 =>
 pSub x130 size2 fun x132 =>
 pEq 0 x128 x132 fun x133 =>
 J_44 x133 H_46) H_43 fun x134 H_45 => ∀ _ : Env,
 J_41 x134 H_45) H_34 fun x135 H_42 => ∀ _ : Env,
 J_39 x135 H_42) H_34 fun x136 H_40 => ∀ _ : Env,
 R x136 H_40)))
set_option maxRecDepth 100000 in
theorem lighterlaw19_StageRefuses.vc (at0 : Value) (sectors1 : Value) (size2 : Value) (H0 : Heap) (R : Value → Heap → Prop) (h : lighterlaw19_StageRefuses.res at0 sectors1 size2 H0 R) : CallsH Try.prog 5 #[at0, sectors1, size2] H0 R := by
  have e : vcFn Try.prog Try.C Try.f5 lighterlaw19_StageRefuses.an [at0, sectors1, size2] H0 R = lighterlaw19_StageRefuses.res at0 sectors1 size2 H0 R := by kernel_rfl
  exact vcFn_sound Try.callable Try.mixed Try.func5 (by kernel_rfl) (e.mpr h)

def lighterlaw19_StageSums.an : Ann := (.seq (.reg (.op 0 [] .nil)) (.seq (.seq (.reg (.op 0 [] (.op 1 [] .nil))) (.cond (.seq (.reg (.op 0 [] .nil)) .leaf) .leaf)) (.seq (.reg (.op 0 [] (.op 1 [] (.op 2 [] (.op 3 [] (.op 4 [] (.op 5 [] .nil))))))) (.seq (.reg (.op 0 [] (.op 1 [] (.op 2 [] (.op 3 [] (.op 4 [] (.op 5 [] (.op 6 [] .nil)))))))) (.seq (.reg (.op 0 [] .nil)) (.seq (.seq (.reg (.op 0 [] .nil)) (.block (.loop [11, 12] [6, 11, 12, 13, 37, 38, 39, 40, 41, 42, 43, 44, 45, 46, 47, 48, 49, 50, 51, 52, 53, 54, 55, 56, 57, 58, 59, 60, 61, 62, 63, 64] (.seq (.seq (.reg (.op 0 [] (.op 1 [] (.op 2 [] (.op 3 [] (.op 4 [] (.grp 4 (.op 5 [] (.op 6 [] .nil)) 7 .nil))))))) (.cond .leaf .leaf)) (.seq (.block (.seq (.drw [0, 0, 3, 7, 0, 0, 48, 112, 240, 496, 1023, 2047] (.op 0 [] (.op 1 [] (.op 2 [] (.op 3 [] (.op 4 [] (.op 5 [] (.op 6 [] (.op 7 [] (.op 8 [] (.op 9 [] (.op 10 [] (.op 11 [] .nil))))))))))))) (.seq (.seq (.reg (.op 0 [] (.op 1 [] (.op 2 [] (.op 3 [] .nil))))) (.cond (.seq (.reg (.op 0 [] .nil)) .leaf) .leaf)) (.reg (.op 0 [] (.op 1 [] (.op 2 [] (.op 3 [] .nil)))))))) (.reg (.op 0 [] (.op 1 [] (.op 2 [] .nil))))))))) (.seq (.reg (.op 0 [] (.op 1 [] (.op 2 [] (.op 3 [] (.op 4 [] (.op 5 [] (.op 6 [] (.op 7 [] (.op 8 [] .nil)))))))))) (.seq (.reg (.op 0 [] (.op 1 [] (.op 2 [] (.op 3 [] (.op 4 [] (.op 5 [] (.op 6 [] (.op 7 [] (.op 8 [] .nil)))))))))) (.seq (.seq (.reg (.op 0 [] (.op 1 [] (.op 2 [] (.op 3 [] (.op 4 [] (.grp 4 (.op 5 [] (.op 6 [] (.grp 6 (.op 7 [] (.op 8 [] (.op 9 [] (.op 10 [] .nil)))) 11 .nil))) 12 (.op 13 [] (.grp 13 (.op 14 [] (.op 15 [] (.op 16 [] (.grp 16 (.op 17 [] (.op 18 [] (.op 19 [] (.grp 19 (.op 20 [] (.op 21 [] .nil)) 22 .nil)))) 23 .nil)))) 24 .nil))))))))) (.cond (.seq (.reg (.op 0 [] .nil)) .leaf) .leaf)) (.seq (.reg (.op 0 [] (.op 1 [] (.op 2 [] (.op 3 [] (.op 4 [] (.op 5 [] (.op 6 [] .nil)))))))) (.seq (.reg (.op 0 [] (.op 1 [] (.op 2 [] (.op 3 [] (.op 4 [] (.op 5 [] (.op 6 [] (.op 7 [] (.op 8 [] (.op 9 [] .nil))))))))))) (.seq (.reg (.op 0 [] (.op 1 [] (.op 2 [] (.op 3 [] (.op 4 [] (.op 5 [] (.op 6 [] (.op 7 [] (.op 8 [] (.op 9 [] (.op 10 [] .nil)))))))))))) (.seq (.reg (.op 0 [] .nil)) (.seq (.reg (.op 0 [] (.op 1 [] (.op 2 [] (.op 3 [] (.op 4 [] (.op 5 [] (.op 6 [] .nil)))))))) (.seq (.reg (.op 0 [] (.op 1 [] (.op 2 [] (.grp 2 (.op 3 [] .nil) 4 (.op 5 [] (.grp 5 (.op 6 [] (.op 7 [] .nil)) 8 (.op 9 [] (.grp 9 (.op 10 [] (.op 11 [] (.op 12 [] (.op 13 [] (.op 14 [] (.op 15 [] (.grp 15 (.op 16 [] (.op 17 [] (.op 18 [] (.op 19 [] .nil)))) 20 (.op 21 [] .nil)))))))) 22 (.op 23 [] (.grp 23 (.op 24 [] (.op 25 [] .nil)) 26 (.op 27 [] (.grp 27 (.op 28 [] (.op 29 [] .nil)) 30 (.op 31 [] .nil)))))))))))))) .leaf)))))))))))))))
/-- lighter/lighterlaw19.StageSums -/
def lighterlaw19_StageSums.res (l0 : Value) (from1 : Value) (n2 : Value) (H0 : Heap) (R : Value → Heap → Prop) : Prop :=
 CallsH Try.prog 7 #[] H0 fun x26 H_1 =>
 pNot x26 fun x27 =>
 pCond x27
 (R (.bool false) H_1)
 (CallsH Try.prog 8 #[(.int .i64 12)] H_1 fun x29 H_2 =>
 pExtract 0 x29 fun x30 =>
 pExtract 1 x29 fun x31 =>
 CallsH Try.prog 9 #[x30, (.int .i64 2), (.int .i64 9), (.int .i64 0)] H_2 fun x34 H_3 =>
 pExtract 0 x34 fun x35 =>
 pExtract 1 x34 fun x36 =>
 ∃ (I_4 : Value → Value → Heap → Prop) (m_5 : Value → Value → Heap → Nat), I_4 (str []) (.int .i64 0) H_3 ∧
 ∀ _ : Env, ∀ all11 : Value, ∀ i12 : Value, ∀ H_6 : Heap, I_4 all11 i12 H_6 →
 pLen l0 fun x39 =>
 pLt i12 x39 fun x40 =>
 pAnd x40 (fun J_7 =>
 pLt i12 (.int .i64 6) fun x43 =>
 J_7 x43 H_6) H_6 fun x44 H_8 => ∀ _ : Env,
 pCond x44
 (pIdxSl 1 l0 i12 fun x49 =>
 pLoad H_8 x49 fun x50 =>
 pIdxSl 1 l0 i12 fun x53 =>
 pLoad H_8 x53 fun x54 =>
 pLenS x54 fun x55 =>
 pMin x55 (.int .i64 90) fun x56 =>
 pSlStr x50 none (some x56) fun x57 =>
 CallsH Try.prog 14 #[x35, x57] H_8 fun x60 H_9 =>
 pNe 0 x60 (.int .i64 0) fun x61 =>
 pCond x61
 (R (.bool false) H_9)
 (pAdd all11 x57 fun x64 =>
 pAdd i12 (.int .i64 1) fun x46 =>
 I_4 x64 x46 H_9 ∧ m_5 x64 x46 H_9 < m_5 all11 i12 H_6))
 (CallsH Try.prog 20 #[x35, from1, n2] H_8 fun x69 H_10 =>
 pExtract 0 x69 fun x70 =>
 pExtract 1 x69 fun x71 =>
 CallsH Try.prog 11 #[all11, from1, n2] H_10 fun x76 H_11 =>
 pExtract 0 x76 fun x77 =>
 pExtract 1 x76 fun x78 =>
 pEq 0 x71 (.int .i64 0) fun x80 =>
 pNe 2 x80 x78 fun x82 =>
 pOr x82 (fun J_12 =>
 pAnd x78 (fun J_14 =>
 CallsH Try.prog 21 #[(.int .u32 0), x77] H_11 fun x88 H_16 =>
 pNe 0 x70 x88 fun x89 =>
 J_14 x89 H_16) H_11 fun x90 H_15 => ∀ _ : Env,
 J_12 x90 H_15) H_11 fun x91 H_13 => ∀ _ : Env,
 pOr x91 (fun J_17 =>
 pNot x78 fun x94 =>
 pAnd x94 (fun J_19 =>
 pNe 0 x70 (.int .u32 0) fun x97 =>
 pOr x97 (fun J_21 =>
 pNe 0 x71 (.int .i64 20) fun x100 =>
 J_21 x100 H_13) H_13 fun x101 H_22 => ∀ _ : Env,
 J_19 x101 H_22) H_13 fun x102 H_20 => ∀ _ : Env,
 J_17 x102 H_20) H_13 fun x103 H_18 => ∀ _ : Env,
 pCond x103
 (R (.bool false) H_18)
 (pBits .and n2 (.int .i64 127) fun x105 =>
 pLenS all11 fun x107 =>
 pAdd x107 (.int .i64 1) fun x108 =>
 pRem x105 x108 fun x109 =>
 pSlStr all11 none (some x109) fun x114 =>
 CallsH Try.prog 22 #[x35, x114] H_18 fun x115 H_23 =>
 pExtract 0 x115 fun x116 =>
 pExtract 1 x115 fun x117 =>
 pSlStr all11 none (some x109) fun x122 =>
 pAdd x122 (str [33]) fun x123 =>
 CallsH Try.prog 22 #[x35, x123] H_23 fun x124 H_24 =>
 pExtract 0 x124 fun x125 =>
 pExtract 1 x124 fun x126 =>
 CallsH Try.prog 22 #[(.pointer none), (str [120])] H_24 fun x129 H_25 =>
 pExtract 0 x129 fun x130 =>
 pExtract 1 x129 fun x131 =>
 pEq 0 x117 (.int .i64 0) fun x133 =>
 pAnd x133 (fun J_26 =>
 J_26 x116 H_25) H_25 fun x136 H_27 => ∀ _ : Env,
 pAnd x136 (fun J_28 =>
 pEq 0 x126 (.int .i64 0) fun x139 =>
 J_28 x139 H_27) H_27 fun x140 H_29 => ∀ _ : Env,
 pAnd x140 (fun J_30 =>
 pLenS all11 fun x145 =>
 pLt x109 x145 fun x146 =>
 pAnd x146 (fun J_32 =>
 pIdxStr all11 x109 fun x150 =>
 pEq 0 x150 (.int .u8 33) fun x151 =>
 J_32 x151 H_29) H_29 fun x152 H_33 => ∀ _ : Env,
 pEq 2 x125 x152 fun x153 =>
 J_30 x153 H_33) H_29 fun x154 H_31 => ∀ _ : Env,
 pAnd x154 (fun J_34 =>
 pNot x130 fun x157 =>
 J_34 x157 H_31) H_31 fun x158 H_35 => ∀ _ : Env,
 pAnd x158 (fun J_36 =>
 pEq 0 x131 (.int .i64 1) fun x161 =>
 J_36 x161 H_35) H_35 fun x162 H_37 => ∀ _ : Env,
 R x162 H_37)))
set_option maxRecDepth 100000 in
theorem lighterlaw19_StageSums.vc (l0 : Value) (from1 : Value) (n2 : Value) (H0 : Heap) (R : Value → Heap → Prop) (h : lighterlaw19_StageSums.res l0 from1 n2 H0 R) : CallsH Try.prog 6 #[l0, from1, n2] H0 R := by
  have e : vcFn Try.prog Try.C Try.f6 lighterlaw19_StageSums.an [l0, from1, n2] H0 R = lighterlaw19_StageSums.res l0 from1 n2 H0 R := by kernel_rfl
  exact vcFn_sound Try.callable Try.mixed Try.func6 (by kernel_rfl) (e.mpr h)

def lighterlaw19_speaks.an : Ann := (.seq (.reg (.op 0 [] .nil)) (.seq (.reg (.op 0 [] (.op 1 [] (.op 2 [] (.op 3 [] (.op 4 [] (.op 5 [] .nil))))))) (.seq (.reg (.op 0 [] (.op 1 [] (.op 2 [] (.op 3 [] (.op 4 [] (.op 5 [] (.op 6 [] .nil)))))))) (.seq (.seq (.reg (.op 0 [] (.op 1 [] (.op 2 [] (.grp 2 (.op 3 [] (.op 4 [] (.op 5 [] .nil))) 6 .nil))))) (.cond (.seq (.reg (.op 0 [] .nil)) .leaf) .leaf)) (.seq (.reg (.op 0 [] (.op 1 [] (.op 2 [] (.op 3 [] (.op 4 [] (.op 5 [] (.op 6 [] .nil)))))))) (.seq (.reg (.op 0 [] (.op 1 [] (.op 2 [] (.grp 2 (.op 3 [] (.op 4 [] .nil)) 5 (.op 6 [] (.grp 6 (.op 7 [] (.op 8 [] (.op 9 [] .nil))) 10 (.op 11 [] (.grp 11 (.op 12 [] (.op 13 [] (.op 14 [] .nil))) 15 (.op 16 [] .nil)))))))))) .leaf))))))
/-- lighter/lighterlaw19.speaks -/
def lighterlaw19_speaks.res (H0 : Heap) (R : Value → Heap → Prop) : Prop :=
 CallsH Try.prog 8 #[(.int .i64 4)] H0 fun x8 H_1 =>
 pExtract 0 x8 fun x9 =>
 pExtract 1 x8 fun x10 =>
 CallsH Try.prog 9 #[x9, (.int .i64 1), (.int .i64 2), (.int .i64 0)] H_1 fun x13 H_2 =>
 pExtract 0 x13 fun x14 =>
 pExtract 1 x13 fun x15 =>
 pNe 0 x15 (.int .i64 0) fun x17 =>
 pOr x17 (fun J_3 =>
 CallsH Try.prog 14 #[x14, (str [97, 98, 99])] H_2 fun x20 H_5 =>
 pNe 0 x20 (.int .i64 0) fun x21 =>
 J_3 x21 H_5) H_2 fun x22 H_4 => ∀ _ : Env,
 pCond x22
 (R (.bool false) H_4)
 (CallsH Try.prog 10 #[x14, (.int .i64 1), (.int .i64 2)] H_4 fun x25 H_6 =>
 pExtract 0 x25 fun x26 =>
 pExtract 1 x25 fun x27 =>
 pEq 0 x27 (.int .i64 0) fun x29 =>
 pAnd x29 (fun J_7 =>
 pEq 1 x26 (str [98, 99]) fun x32 =>
 J_7 x32 H_6) H_6 fun x33 H_8 => ∀ _ : Env,
 pAnd x33 (fun J_9 =>
 CallsH Try.prog 15 #[x14] H_8 fun x36 H_11 =>
 pEq 0 x36 (.int .i64 3) fun x37 =>
 J_9 x37 H_11) H_8 fun x38 H_10 => ∀ _ : Env,
 pAnd x38 (fun J_12 =>
 CallsH Try.prog 16 #[x14] H_10 fun x41 H_14 =>
 pEq 0 x41 (.int .i64 125) fun x42 =>
 J_12 x42 H_14) H_10 fun x43 H_13 => ∀ _ : Env,
 R x43 H_13)
set_option maxRecDepth 100000 in
theorem lighterlaw19_speaks.vc (H0 : Heap) (R : Value → Heap → Prop) (h : lighterlaw19_speaks.res H0 R) : CallsH Try.prog 7 #[] H0 R := by
  have e : vcFn Try.prog Try.C Try.f7 lighterlaw19_speaks.an [] H0 R = lighterlaw19_speaks.res H0 R := by kernel_rfl
  exact vcFn_sound Try.callable Try.mixed Try.func7 (by kernel_rfl) (e.mpr h)

end Go.Proofs.Ytggianmcjncijaa
