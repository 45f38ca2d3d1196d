/- The residuals of package lighterlaw24's functions, printed by resid.py. -/
import Derived.Test.YtmolkhfohpfhaaaVcSeat
namespace Go.Proofs.Ytmolkhfohpfhaaa
open Go Go.Vc Go.Proofs
set_option linter.unusedVariables false
set_option maxHeartbeats 4000000
def lighterlaw24_SendEnds.an : Ann := (.seq (.reg (.op 0 [] (.op 1 [] .nil))) (.seq (.seq (.reg (.op 0 [] (.op 1 [] .nil))) (.cond (.seq (.reg (.op 0 [] .nil)) .leaf) .leaf)) (.seq (.drw [0, 1, 3, 0, 8, 24, 56, 7, 255] (.op 0 [] (.op 1 [] (.op 2 [] (.op 3 [] (.op 4 [] (.op 5 [] (.op 6 [] (.op 7 [] (.op 8 [] .nil)))))))))) (.seq (.reg (.op 0 [] (.op 1 [] (.op 2 [] (.op 3 [] (.op 4 [] (.op 5 [] (.op 6 [] (.op 7 [] (.op 8 [] .nil)))))))))) (.seq (.reg (.op 0 [] (.op 1 [] .nil))) (.seq (.seq (.reg (.op 0 [] .nil)) (.block (.loop [12] [6, 12, 14, 15, 16, 17, 37, 38, 39, 40, 41, 42, 43, 44, 45, 46, 47, 48, 49, 50, 51, 52, 53, 54, 55, 56, 57, 58, 59, 60, 61, 62, 63, 64, 65, 66, 67, 68, 69, 70, 71, 72, 73, 74, 75, 76, 77, 78, 79, 80, 81, 82, 83, 84, 85, 86, 87, 88, 89, 90, 91, 92, 93, 94, 95, 96, 97, 98, 99, 100, 101, 102, 103, 104, 105, 106, 107, 108] (.seq (.seq (.reg (.op 0 [] (.op 1 [] (.op 2 [] (.grp 2 (.op 3 [] (.op 4 [] (.op 5 [] .nil))) 6 .nil))))) (.cond .leaf .leaf)) (.cut [] [6, 14, 15, 16, 17, 46, 47, 48, 49, 50, 51, 52, 53, 54, 55, 56, 57, 58, 59, 60, 61, 62, 63, 64, 65, 66, 67, 68, 69, 70, 71, 72, 73, 74, 75, 76, 77, 78, 79, 80, 81, 82, 83, 84, 85, 86, 87, 88, 89, 90, 91, 92, 93, 94, 95, 96, 97, 98, 99, 100, 101, 102, 103, 104, 105, 106, 107, 108] (.block (.seq (.seq (.reg (.op 0 [] (.op 1 [] (.op 2 [] (.op 3 [] .nil))))) (.block (.loop [49] [14, 49, 50, 51, 52, 53, 54, 55, 56, 57] (.seq (.reg (.op 0 [] .nil)) (.seq (.cond .leaf .leaf) (.seq (.block (.seq (.reg (.op 0 [] (.op 1 [] (.op 2 [] .nil)))) (.reg (.op 0 [] (.op 1 [] (.op 2 [] (.op 3 [] (.op 4 [] .nil)))))))) (.reg (.op 0 [] (.op 1 [] .nil))))))))) (.seq (.reg (.op 0 [] (.op 1 [] (.op 2 [] .nil)))) (.seq (.seq (.reg (.op 0 [] (.op 1 [] (.op 2 [] (.op 3 [] (.grp 3 (.op 4 [] (.op 5 [] (.op 6 [] (.op 7 [] .nil)))) 8 .nil)))))) (.cond (.seq (.reg (.op 0 [] .nil)) .leaf) .leaf)) (.seq (.reg (.op 0 [] .nil)) (.cut [16] [16, 69, 70, 71, 72, 73, 74, 75, 76, 77, 78, 79, 80, 81, 82, 83, 84, 85] (.seq (.reg (.op 0 [] (.op 1 [] (.op 2 [] (.op 3 [] .nil))))) (.cond (.reg (.op 0 [] (.op 1 [] (.op 2 [] (.op 3 [] (.op 4 [] (.op 5 [] (.op 6 [] (.op 7 [] (.op 8 [] (.op 9 [] (.op 10 [] (.op 11 [] (.op 12 [] (.op 13 [] .nil))))))))))))))) .leaf)) (.seq (.reg (.op 0 [] (.op 1 [] (.op 2 [] .nil)))) (.seq (.reg (.op 0 [] (.op 1 [] (.op 2 [] (.op 3 [] (.op 4 [] (.op 5 [] .nil))))))) (.cond (.reg (.op 0 [] (.op 1 [] (.op 2 [] (.op 3 [] .nil))))) (.reg (.op 0 [] (.op 1 [] (.op 2 [] (.op 3 [] (.op 4 [] (.op 5 [] (.op 6 [] (.op 7 [] (.op 8 [] (.op 9 [] (.op 10 [] .nil))))))))))))))))))))) (.reg (.op 0 [] (.op 1 [] (.op 2 [] .nil))))))))) (.seq (.seq (.reg (.op 0 [] (.op 1 [] .nil))) (.block (.loop [] [6, 19, 111, 112, 113, 114, 115, 116] (.seq (.reg (.op 0 [] (.op 1 [] .nil))) (.seq (.cond .leaf .leaf) (.block (.seq (.reg (.op 0 [] (.op 1 [] (.op 2 [] .nil)))) (.seq (.reg (.op 0 [] (.op 1 [] .nil))) (.cond (.seq (.reg (.op 0 [] .nil)) .leaf) .leaf))))))))) (.seq (.reg (.op 0 [] (.op 1 [] (.op 2 [] (.grp 2 (.op 3 [] (.op 4 [] (.op 5 [] (.op 6 [] .nil)))) 7 (.op 8 [] (.grp 8 (.op 9 [] (.op 10 [] (.op 11 [] (.op 12 [] .nil)))) 13 (.op 14 [] (.grp 14 (.op 15 [] (.op 16 [] (.op 17 [] (.op 18 [] .nil)))) 19 (.op 20 [] (.grp 20 (.op 21 [] (.op 22 [] (.op 23 [] (.op 24 [] (.op 25 [] (.op 26 [] (.op 27 [] .nil))))))) 28 (.op 29 [] .nil)))))))))))) .leaf))))))))
/-- lighter/lighterlaw24.SendEnds -/
def lighterlaw24_SendEnds.res (first0 : Value) (plan1 : Value) (picks2 : Value) (H0 : Heap) (R : Value → Heap → Prop) : Prop :=
 pBox H0 53 plan1 fun plan4 H_1 =>
 CallsH Try.prog 22 #[] H_1 fun x20 H_2 =>
 pNot x20 fun x21 =>
 pCond x21
 (R (.bool false) H_2)
 (pIdxArr 2 1 plan4 (.int .i64 0) fun x22 =>
 pLoad H_2 x22 fun x23 =>
 pBits .and x23 (.int .i64 63) fun x24 =>
 pIdxArr 2 1 plan4 (.int .i64 1) fun x25 =>
 pLoad H_2 x25 fun x26 =>
 pBits .and x26 (.int .i64 31) fun x27 =>
 pAdd (.int .i64 1) x27 fun x28 =>
 CallsH Try.prog 23 #[first0, x24, x28] H_2 fun x33 H_3 =>
 pExtract 0 x33 fun x34 =>
 pExtract 1 x33 fun x35 =>
 pMakeMap H_3 fun x36 H_4 =>
 ∃ (I_5 : Value → Heap → Prop) (m_6 : Value → Heap → Nat), I_5 (.int .i64 0) H_4 ∧
 ∀ _ : Env, ∀ i12 : Value, ∀ H_7 : Heap, I_5 i12 H_7 →
 pLt i12 (.int .i64 200) fun x38 =>
 pAnd x38 (fun J_8 =>
 CallsH Try.prog 24 #[x34] H_7 fun x41 H_10 =>
 pNot x41 fun x42 =>
 J_8 x42 H_10) H_7 fun x43 H_9 => ∀ _ : Env,
 pCond x43
 (∃ J_11 : Heap → Prop, (∀ _ : Env, ∀ H_12 : Heap, J_11 H_12 →
 pAdd i12 (.int .i64 1) fun x45 =>
 I_5 x45 H_12 ∧ m_6 x45 H_12 < m_6 i12 H_7) ∧
 CallsH Try.prog 25 #[x34] H_9 fun x47 H_13 =>
 pLen x47 fun x48 =>
 ∃ (I_14 : Value → Heap → Prop) (m_15 : Value → Heap → Nat), I_14 (.int .i64 0) H_13 ∧
 ∀ _ : Env, ∀ x49 : Value, ∀ H_16 : Heap, I_14 x49 H_16 →
 pLt x49 x48 fun x50 =>
 pCond x50
 (pIdxSl 1 x47 x49 fun x51 =>
 pLoad H_16 x51 fun x52 =>
 pLookup H_16 0 (.int .i64 0) false x36 x52 fun x55 =>
 pAdd x55 (.int .i64 1) fun x56 =>
 pMapSet H_16 0 x36 x52 x56 fun _ H_17 =>
 pAdd x49 (.int .i64 1) fun x57 =>
 I_14 x57 H_17 ∧ m_15 x57 H_17 < m_15 x49 H_16)
 (CallsH Try.prog 26 #[x34] H_16 fun x59 H_18 =>
 pLen x59 fun x61 =>
 pEq 0 x61 (.int .i64 0) fun x62 =>
 pOr x62 (fun J_19 =>
 pLen x59 fun x65 =>
 pGt x65 x28 fun x67 =>
 J_19 x67 H_18) H_18 fun x68 H_20 => ∀ _ : Env,
 pCond x68
 (R (.bool false) H_20)
 (∃ J_21 : Value → Heap → Prop, (∀ _ : Env, ∀ k16 : Value, ∀ H_22 : Heap, J_21 k16 H_22 →
 CallsH Try.prog 27 #[x34] H_22 fun x87 H_23 =>
 pIdxSl 1 x59 k16 fun x90 =>
 pLoad H_23 x90 fun x91 =>
 pEq 0 x91 x87 fun x93 =>
 pCond x93
 (pAdd x87 (.int .u32 1) fun x96 =>
 CallsH Try.prog 28 #[x34, x96, (.int .u32 0)] H_23 fun x97 H_24 =>
 J_11 H_24)
 (pIdxSl 1 x59 k16 fun x102 =>
 pLoad H_23 x102 fun x103 =>
 pSub x103 x87 fun x105 =>
 pSub x105 (.int .u32 1) fun x106 =>
 pShl (.int .u32 1) x106 fun x107 =>
 CallsH Try.prog 28 #[x34, x87, x107] H_23 fun x108 H_25 =>
 J_11 H_25)) ∧
 pLen picks2 fun x71 =>
 pLt i12 x71 fun x72 =>
 pCond x72
 (pIdxSl 1 picks2 i12 fun x75 =>
 pLoad H_20 x75 fun x76 =>
 pLen x59 fun x78 =>
 pRem x76 x78 fun x79 =>
 pLen x59 fun x81 =>
 pAdd x79 x81 fun x82 =>
 pLen x59 fun x84 =>
 pRem x82 x84 fun x85 =>
 J_21 x85 H_20)
 (J_21 (.int .i64 0) H_20))))
 (pSem H_9 Try.prog (Instr.range 58 x36) fun x110 H_26 =>
 ∃ (I_27 : Heap → Prop) (m_28 : Heap → Nat), I_27 H_26 ∧
 ∀ _ : Env, ∀ H_29 : Heap, I_27 H_29 →
 pSem H_29 Try.prog (Instr.next x110 false 0) fun x111 H_30 =>
 pExtract 0 x111 fun x112 =>
 pCond x112
 (pSem H_30 Try.prog (Instr.entry x110) fun x113 H_31 =>
 pExtract 1 x113 fun x114 =>
 pNe 0 x114 (.int .i64 1) fun x116 =>
 pCond x116
 (R (.bool false) H_31)
 (I_27 H_31 ∧ m_28 H_31 < m_28 H_29))
 (CallsH Try.prog 24 #[x34] H_30 fun x118 H_32 =>
 pAnd x118 (fun J_33 =>
 pLenM H_32 x36 fun x121 =>
 pEq 0 x121 x24 fun x123 =>
 J_33 x123 H_32) H_32 fun x124 H_34 => ∀ _ : Env,
 pAnd x124 (fun J_35 =>
 CallsH Try.prog 26 #[x34] H_34 fun x127 H_37 =>
 pLen x127 fun x128 =>
 pEq 0 x128 (.int .i64 0) fun x129 =>
 J_35 x129 H_37) H_34 fun x130 H_36 => ∀ _ : Env,
 pAnd x130 (fun J_38 =>
 CallsH Try.prog 25 #[x34] H_36 fun x133 H_40 =>
 pLen x133 fun x134 =>
 pEq 0 x134 (.int .i64 0) fun x135 =>
 J_38 x135 H_40) H_36 fun x136 H_39 => ∀ _ : Env,
 pAnd x136 (fun J_41 =>
 CallsH Try.prog 27 #[x34] H_39 fun x139 H_43 =>
 pConv .u32 x24 fun x142 =>
 pAdd first0 x142 fun x143 =>
 pEq 0 x139 x143 fun x144 =>
 J_41 x144 H_43) H_39 fun x145 H_42 => ∀ _ : Env,
 R x145 H_42)))
set_option maxRecDepth 100000 in
theorem lighterlaw24_SendEnds.vc (first0 : Value) (plan1 : Value) (picks2 : Value) (H0 : Heap) (R : Value → Heap → Prop) (h : lighterlaw24_SendEnds.res first0 plan1 picks2 H0 R) : CallsH Try.prog 6 #[first0, plan1, picks2] H0 R := by
  have e : vcFn Try.prog Try.C Try.f6 lighterlaw24_SendEnds.an [first0, plan1, picks2] H0 R = lighterlaw24_SendEnds.res first0 plan1 picks2 H0 R := by kernel_rfl
  exact vcFn_sound Try.callable Try.mixed Try.func6 (by kernel_rfl) (e.mpr h)

def lighterlaw24_SendTells.an : Ann := (.seq (.reg (.op 0 [] .nil)) (.seq (.seq (.reg (.op 0 [] (.op 1 [] .nil))) (.cond (.seq (.reg (.op 0 [] .nil)) .leaf) .leaf)) (.seq (.reg (.op 0 [] (.op 1 [] (.op 2 [] (.op 3 [] (.op 4 [] .nil)))))) (.seq (.reg (.op 0 [] (.op 1 [] (.op 2 [] (.op 3 [] (.op 4 [] (.op 5 [] (.op 6 [] (.op 7 [] .nil))))))))) (.seq (.seq (.reg (.op 0 [] (.op 1 [] .nil))) (.cond (.seq (.reg (.op 0 [] .nil)) .leaf) .leaf)) (.seq (.reg (.op 0 [] (.op 1 [] .nil))) (.seq (.reg (.op 0 [] (.op 1 [] (.op 2 [] (.op 3 [] .nil))))) (.seq (.reg (.op 0 [] .nil)) (.seq (.seq (.reg (.op 0 [] .nil)) (.block (.loop [9, 10] [9, 10, 33, 34, 35, 36, 37, 38, 39, 40, 41, 42, 43, 44, 45] (.seq (.seq (.reg (.op 0 [] (.op 1 [] (.op 2 [] (.op 3 [] .nil))))) (.cond .leaf .leaf)) (.cut [9] [9, 39, 40, 41, 42, 43, 44, 45] (.block (.seq (.reg (.op 0 [] (.op 1 [] (.op 2 [] (.op 3 [] (.op 4 [] .nil)))))) (.cond (.reg (.op 0 [] (.op 1 [] (.op 2 [] .nil)))) .leaf))) (.reg (.op 0 [] (.op 1 [] (.op 2 [] .nil))))))))) (.seq (.seq (.reg (.op 0 [] (.op 1 [] (.op 2 [] (.op 3 [] (.op 4 [] (.op 5 [] (.op 6 [] (.op 7 [] (.grp 7 (.op 8 [] (.op 9 [] (.op 10 [] (.op 11 [] .nil)))) 12 .nil)))))))))) (.cond (.seq (.reg (.op 0 [] .nil)) .leaf) .leaf)) (.seq (.reg (.op 0 [] (.op 1 [] (.op 2 [] (.op 3 [] .nil))))) (.seq (.reg (.op 0 [] (.op 1 [] (.op 2 [] .nil)))) (.seq (.reg (.op 0 [] (.op 1 [] (.op 2 [] (.op 3 [] (.op 4 [] .nil)))))) (.cut [12] [12, 69, 70, 71, 72, 73] (.seq (.reg (.op 0 [] (.op 1 [] (.op 2 [] .nil)))) (.cond (.reg (.op 0 [] (.op 1 [] (.op 2 [] .nil)))) .leaf)) (.seq (.reg (.op 0 [] (.op 1 [] (.op 2 [] (.op 3 [] (.op 4 [] (.op 5 [] (.grp 5 (.op 6 [] (.op 7 [] (.op 8 [] (.op 9 [] .nil)))) 10 (.op 11 [] (.grp 11 (.op 12 [] (.op 13 [] (.op 14 [] (.op 15 [] (.op 16 [] (.op 17 [] .nil)))))) 18 (.op 19 [] (.grp 19 (.op 20 [] (.op 21 [] (.op 22 [] (.op 23 [] .nil)))) 24 (.op 25 [] .nil))))))))))))) .leaf)))))))))))))))
/-- lighter/lighterlaw24.SendTells -/
def lighterlaw24_SendTells.res (first0 : Value) (size1 : Value) (bits2 : Value) (H0 : Heap) (R : Value → Heap → Prop) : Prop :=
 CallsH Try.prog 22 #[] H0 fun x13 H_1 =>
 pNot x13 fun x14 =>
 pCond x14
 (R (.bool false) H_1)
 (pBits .and size1 (.int .i64 31) fun x16 =>
 pRem x16 (.int .i64 31) fun x17 =>
 pAdd (.int .i64 2) x17 fun x18 =>
 CallsH Try.prog 23 #[first0, (.int .i64 40), x18] H_1 fun x22 H_2 =>
 pExtract 0 x22 fun x23 =>
 pExtract 1 x22 fun x24 =>
 pNe 0 x24 (.int .i64 0) fun x26 =>
 pCond x26
 (R (.bool false) H_2)
 (CallsH Try.prog 25 #[x23] H_2 fun x28 H_3 =>
 CallsH Try.prog 28 #[x23, first0, bits2] H_3 fun x32 H_4 =>
 ∃ (I_5 : Value → Value → Heap → Prop) (m_6 : Value → Value → Heap → Nat), I_5 (.int .i64 0) (.int .i64 0) H_4 ∧
 ∀ _ : Env, ∀ there9 : Value, ∀ k10 : Value, ∀ H_7 : Heap, I_5 there9 k10 H_7 →
 pSub x18 (.int .i64 1) fun x35 =>
 pLt k10 x35 fun x36 =>
 pCond x36
 (∃ J_8 : Value → Heap → Prop, (∀ _ : Env, ∀ there9' : Value, ∀ H_9 : Heap, J_8 there9' H_9 →
 pAdd k10 (.int .i64 1) fun x38 =>
 I_5 there9' x38 H_9 ∧ m_6 there9' x38 H_9 < m_6 there9 k10 H_7) ∧
 pShr bits2 k10 fun x41 =>
 pBits .and x41 (.int .u32 1) fun x42 =>
 pEq 0 x42 (.int .u32 1) fun x43 =>
 pCond x43
 (pAdd there9 (.int .i64 1) fun x45 =>
 J_8 x45 H_7)
 (J_8 there9 H_7))
 (CallsH Try.prog 26 #[x23] H_7 fun x47 H_10 =>
 pLen x47 fun x48 =>
 pSub x18 there9 fun x51 =>
 pNe 0 x48 x51 fun x52 =>
 pOr x52 (fun J_11 =>
 CallsH Try.prog 27 #[x23] H_10 fun x55 H_13 =>
 pNe 0 x55 first0 fun x57 =>
 J_11 x57 H_13) H_10 fun x58 H_12 => ∀ _ : Env,
 pCond x58
 (R (.bool false) H_12)
 (pAdd first0 (.int .u32 1) fun x61 =>
 CallsH Try.prog 28 #[x23, x61, (.int .u32 0)] H_12 fun x62 H_14 =>
 CallsH Try.prog 26 #[x23] H_14 fun x64 H_15 =>
 pSub x18 (.int .i64 1) fun x66 =>
 pSub x66 there9 fun x68 =>
 ∃ J_16 : Value → Heap → Prop, (∀ _ : Env, ∀ left12 : Value, ∀ H_17 : Heap, J_16 left12 H_17 →
 CallsH Try.prog 27 #[x23] H_17 fun x75 H_18 =>
 pAdd first0 (.int .u32 1) fun x77 =>
 pEq 0 x75 x77 fun x78 =>
 pAnd x78 (fun J_19 =>
 pLen x64 fun x81 =>
 pEq 0 x81 left12 fun x83 =>
 J_19 x83 H_18) H_18 fun x84 H_20 => ∀ _ : Env,
 pAnd x84 (fun J_21 =>
 pIdxSl 1 x64 (.int .i64 0) fun x87 =>
 pLoad H_20 x87 fun x88 =>
 pAdd first0 (.int .u32 1) fun x90 =>
 pEq 0 x88 x90 fun x91 =>
 J_21 x91 H_20) H_20 fun x92 H_22 => ∀ _ : Env,
 pAnd x92 (fun J_23 =>
 CallsH Try.prog 25 #[x23] H_22 fun x95 H_25 =>
 pLen x95 fun x96 =>
 pEq 0 x96 (.int .i64 1) fun x97 =>
 J_23 x97 H_25) H_22 fun x98 H_24 => ∀ _ : Env,
 R x98 H_24) ∧
 pBits .and bits2 (.int .u32 1) fun x70 =>
 pEq 0 x70 (.int .u32 1) fun x71 =>
 pCond x71
 (pAdd x68 (.int .i64 1) fun x73 =>
 J_16 x73 H_15)
 (J_16 x68 H_15)))))
set_option maxRecDepth 100000 in
theorem lighterlaw24_SendTells.vc (first0 : Value) (size1 : Value) (bits2 : Value) (H0 : Heap) (R : Value → Heap → Prop) (h : lighterlaw24_SendTells.res first0 size1 bits2 H0 R) : CallsH Try.prog 7 #[first0, size1, bits2] H0 R := by
  have e : vcFn Try.prog Try.C Try.f7 lighterlaw24_SendTells.an [first0, size1, bits2] H0 R = lighterlaw24_SendTells.res first0 size1 bits2 H0 R := by kernel_rfl
  exact vcFn_sound Try.callable Try.mixed Try.func7 (by kernel_rfl) (e.mpr h)

def lighterlaw24_SendPlays.an : Ann := (.seq (.reg (.op 0 [] (.op 1 [] .nil))) (.seq (.seq (.reg (.op 0 [] (.op 1 [] .nil))) (.cond (.seq (.reg (.op 0 [] .nil)) .leaf) .leaf)) (.seq (.drw [0, 1, 3, 0, 8, 24, 56, 7, 255] (.op 0 [] (.op 1 [] (.op 2 [] (.op 3 [] (.op 4 [] (.op 5 [] (.op 6 [] (.op 7 [] (.op 8 [] .nil)))))))))) (.seq (.reg (.op 0 [] (.op 1 [] (.op 2 [] (.op 3 [] (.op 4 [] (.op 5 [] (.op 6 [] (.op 7 [] (.op 8 [] .nil)))))))))) (.seq (.seq (.reg (.op 0 [] (.op 1 [] .nil))) (.cond (.seq (.reg (.op 0 [] .nil)) .leaf) .leaf)) (.cut [11] [11, 40, 41, 42, 43, 44, 45, 46] (.drw [0, 0, 0, 4, 0, 16, 63, 0, 255] (.op 0 [] (.op 1 [] (.op 2 [] (.op 4 [] (.fork (.op 3 [] (.fork (.op 5 [] (.op 6 [] (.op 7 [] (.op 8 [] .nil)))) (.op 7 [] (.op 5 [] (.op 6 [] (.op 8 [] .nil)))))) (.fork (.op 5 [] (.fork (.op 3 [] (.op 6 [] (.op 7 [] (.op 8 [] .nil)))) (.op 7 [] (.op 3 [] (.op 6 [] (.op 8 [] .nil)))))) (.op 7 [] (.fork (.op 3 [] (.op 5 [] (.op 6 [] (.op 8 [] .nil)))) (.op 5 [] (.op 3 [] (.op 6 [] (.op 8 [] .nil))))))))))))) (.seq (.seq (.reg (.op 0 [] .nil)) (.block (.loop [12] [6, 12, 13, 14, 15, 16, 17, 18, 19, 20, 21, 47, 48, 49, 50, 51, 52, 53, 54, 55, 56, 57, 58, 59, 60, 61, 62, 63, 64, 65, 66, 67, 68, 69, 70, 71, 72, 73, 74, 75, 76, 77, 78, 79, 80, 81, 82, 83, 84, 85, 86, 87, 88, 89, 90, 91, 92, 93, 94, 95, 96, 97, 98, 99, 100, 101, 102, 103, 104, 105, 106, 107, 108, 109, 110, 111, 112, 113, 114, 115, 116, 117, 118, 119, 120, 121, 122, 123, 124, 125, 126, 127, 128, 129, 130, 131, 132, 133, 134, 135, 136, 137, 138, 139, 140, 141, 142, 143, 144, 145, 146, 147, 148, 149, 150, 151, 152, 153, 154, 155, 156, 157, 158, 159, 160, 161, 162] (.seq (.seq (.reg (.op 0 [] (.op 1 [] (.op 2 [] (.op 3 [] (.op 4 [] (.grp 4 (.op 5 [] (.op 6 [] .nil)) 7 .nil))))))) (.cond .leaf .leaf)) (.seq (.block (.seq (.reg (.op 0 [] (.op 1 [] (.op 2 [] (.op 3 [] (.op 4 [] (.op 5 [] .nil))))))) (.seq (.drw [0, 0, 2, 0, 8, 24, 62, 126, 254, 511, 1023] (.op 0 [] (.op 1 [] (.op 3 [] (.op 4 [] (.op 5 [] (.op 2 [4] (.op 6 [] (.op 7 [] (.op 8 [] (.op 9 [] (.op 10 [] .nil)))))))))))) (.cut [14] [14, 71, 72, 73, 74] (.seq (.reg (.op 0 [] (.op 1 [] .nil))) (.cond (.reg (.op 0 [] (.op 1 [] (.op 2 [] .nil)))) .leaf)) (.cut [] [6, 15, 16, 17, 18, 75, 76, 77, 78, 79, 80, 81, 82, 83, 84, 85, 86, 87, 88, 89, 90, 91, 92, 93, 94, 95, 96, 97, 98, 99, 100, 101, 102, 103, 104, 105, 106, 107, 108, 109, 110, 111, 112, 113, 114, 115] (.seq (.reg (.op 0 [] (.op 1 [] (.op 2 [] (.op 3 [] (.op 4 [] .nil)))))) (.block (.seq (.reg (.op 0 [] (.op 1 [] .nil))) (.cond (.seq (.reg (.op 0 [] (.op 1 [] (.op 2 [] (.op 3 [] (.op 4 [] (.op 5 [] (.op 6 [] (.op 7 [] .nil))))))))) (.seq (.seq (.drw [0, 1, 0, 0, 15, 31] (.op 0 [] (.op 2 [] (.op 3 [] (.op 1 [2] (.op 4 [] (.op 5 [] .nil))))))) (.cond (.seq (.reg (.op 0 [] .nil)) .leaf) .leaf)) (.reg (.op 0 [] (.op 1 [] .nil))))) (.seq (.reg (.op 0 [] (.op 1 [] .nil))) (.cond (.seq (.reg (.op 0 [] (.op 1 [] .nil))) (.reg (.op 0 [] (.op 1 [] (.op 2 [] .nil))))) (.seq (.reg (.op 0 [] (.op 1 [] (.op 2 [] (.op 3 [] (.op 4 [] (.op 5 [] (.op 6 [] (.op 7 [] (.op 8 [] (.op 9 [] (.op 10 [] .nil)))))))))))) (.seq (.seq (.reg (.op 0 [] (.op 1 [] (.op 2 [] (.op 3 [] (.op 4 [] (.op 5 [] (.op 6 [] .nil)))))))) (.cond (.seq (.reg (.op 0 [] .nil)) .leaf) .leaf)) (.reg (.op 0 [] (.op 1 [] .nil))))))))))) (.seq (.reg (.op 0 [] .nil)) (.seq (.seq (.reg (.op 0 [] .nil)) (.block (.loop [19, 20] [19, 20, 116, 117, 118, 119, 120, 121, 122, 123, 124, 125, 126, 127, 128, 129, 130, 131, 132, 133, 134, 135, 136, 137] (.seq (.seq (.reg (.op 0 [] (.op 1 [] (.op 2 [] .nil)))) (.cond .leaf .leaf)) (.cut [19] [19, 121, 122, 123, 124, 125, 126, 127, 128, 129, 130, 131, 132, 133, 134, 135, 136, 137] (.block (.seq (.reg (.op 0 [] (.op 1 [] (.op 2 [] (.op 3 [] (.op 4 [] (.op 5 [] (.grp 5 (.op 6 [] (.op 7 [] (.op 8 [] (.op 9 [] (.op 10 [] (.op 11 [] .nil)))))) 12 .nil)))))))) (.cond (.reg (.op 0 [] (.op 1 [] (.op 2 [] (.op 3 [] (.op 4 [] .nil)))))) .leaf))) (.reg (.op 0 [] (.op 1 [] (.op 2 [] .nil))))))))) (.seq (.reg (.op 0 [] (.op 1 [] (.op 2 [] .nil)))) (.seq (.drw [0, 1, 0, 0, 15, 31, 63, 127, 255, 127, 127, 1151, 3711, 8191, 16383, 32767, 65535, 131071, 65535, 65535, 851967, 2097151, 4194303] (.op 0 [] (.op 2 [] (.op 3 [] (.op 1 [2] (.op 4 [] (.op 5 [] (.op 6 [] (.grp 6 (.op 7 [] (.op 9 [] (.op 10 [] (.op 11 [] (.op 12 [] (.op 8 [] (.op 13 [] .nil))))))) 14 (.op 15 [] (.grp 15 (.op 16 [] (.op 18 [] (.op 19 [] (.op 20 [] (.op 17 [] (.op 21 [] .nil)))))) 22 .nil))))))))))) (.cond (.seq (.reg (.op 0 [] .nil)) .leaf) .leaf)))))))))) (.reg (.op 0 [] (.op 1 [] (.op 2 [] .nil))))))))) (.seq (.reg (.op 0 [] .nil)) .leaf))))))))
/-- lighter/lighterlaw24.SendPlays -/
def lighterlaw24_SendPlays.res (first0 : Value) (plan1 : Value) (l2 : Value) (H0 : Heap) (R : Value → Heap → Prop) : Prop :=
 pBox H0 53 plan1 fun plan4 H_1 =>
 CallsH Try.prog 22 #[] H_1 fun x22 H_2 =>
 pNot x22 fun x23 =>
 pCond x23
 (R (.bool false) H_2)
 (pIdxArr 2 1 plan4 (.int .i64 0) fun x24 =>
 pLoad H_2 x24 fun x25 =>
 pBits .and x25 (.int .i64 63) fun x26 =>
 pIdxArr 2 1 plan4 (.int .i64 1) fun x27 =>
 pLoad H_2 x27 fun x28 =>
 pBits .and x28 (.int .i64 31) fun x29 =>
 pAdd (.int .i64 1) x29 fun x30 =>
 CallsH Try.prog 23 #[first0, x26, x30] H_2 fun x35 H_3 =>
 pExtract 0 x35 fun x36 =>
 pExtract 1 x35 fun x37 =>
 pNe 0 x37 (.int .i64 0) fun x39 =>
 pCond x39
 (R (.bool false) H_3)
 (∃ J_4 : Value → Heap → Prop, (∀ _ : Env, ∀ m11 : Value, ∀ H_5 : Heap, J_4 m11 H_5 →
 ∃ (I_6 : Value → Heap → Prop) (m_7 : Value → Heap → Nat), I_6 (.int .i64 0) H_5 ∧
 ∀ _ : Env, ∀ i12 : Value, ∀ H_8 : Heap, I_6 i12 H_8 →
 pLen l2 fun x49 =>
 pLt i12 x49 fun x50 =>
 pAnd x50 (fun J_9 =>
 pLt i12 (.int .i64 60) fun x53 =>
 J_9 x53 H_8) H_8 fun x54 H_10 => ∀ _ : Env,
 pCond x54
 (pIdxSl 5 l2 i12 fun x59 =>
 pLoadN H_10 5 x59 fun x60 =>
 pBox H_10 69 (.agg #[(.int .i64 0), (.int .i64 0), (.bool false), (.int .u32 0), (.int .u32 0)]) fun x13 H_11 =>
 pStoreN H_11 5 x13 x60 fun _ H_12 =>
 pLoadN H_12 4 m11 fun x62 =>
 pFieldAddr 1 x13 fun x64 =>
 pLoad H_12 x64 fun x65 =>
 pBits .and x65 (.int .i64 15) fun x66 =>
 CallsH Try.prog 29 #[x62] H_12 fun x63 H_13 =>
 (pLoad H_13 x64 fun r_ =>
 r_ = x65) ∧
 pAdd x63 x66 fun x67 =>
 pSub x67 (.int .i64 3) fun x68 =>
 pConv .u32 x68 fun x69 =>
 pAdd first0 x69 fun x70 =>
 ∃ J_14 : Value → Heap → Prop, (∀ _ : Env, ∀ upto14 : Value, ∀ H_15 : Heap, J_14 upto14 H_15 →
 ∃ J_16 : Heap → Prop, (∀ _ : Env, ∀ H_17 : Heap, J_16 H_17 →
 ∃ (I_18 : Value → Value → Heap → Prop) (m_19 : Value → Value → Heap → Nat), I_18 (.slice none 0 0) (.int .i64 0) H_17 ∧
 ∀ _ : Env, ∀ open19 : Value, ∀ k20 : Value, ∀ H_20 : Heap, I_18 open19 k20 H_20 →
 pLt k20 x26 fun x118 =>
 pCond x118
 (∃ J_21 : Value → Heap → Prop, (∀ _ : Env, ∀ open19' : Value, ∀ H_22 : Heap, J_21 open19' H_22 →
 pAdd k20 (.int .i64 1) fun x120 =>
 I_18 open19' x120 H_22 ∧ m_19 open19' x120 H_22 < m_19 open19 k20 H_20) ∧
 pFieldAddr 2 m11 fun x121 =>
 pLoad H_20 x121 fun x122 =>
 pIdxSl 1 x122 k20 fun x124 =>
 pLoad H_20 x124 fun x125 =>
 pAnd x125 (fun J_23 =>
 pFieldAddr 3 m11 fun x127 =>
 pLoad H_20 x127 fun x128 =>
 pIdxSl 1 x128 k20 fun x130 =>
 pLoad H_20 x130 fun x131 =>
 pNot x131 fun x132 =>
 J_23 x132 H_20) H_20 fun x133 H_24 => ∀ _ : Env,
 pCond x133
 (pBuildSl H_24 3 1 [(.int .i64 0)] [(0, 1, k20)] fun x136 H_25 =>
 pAppend H_25 3 1 8 [(.int .i64 0)] open19 x136 fun x137 H_26 =>
 J_21 x137 H_26)
 (J_21 open19 H_24))
 (pLoadN H_20 4 m11 fun x138 =>
 CallsH Try.prog 29 #[x138] H_20 fun x139 H_27 =>
 pLoadN H_27 4 m11 fun x142 =>
 CallsH Try.prog 26 #[x36] H_27 fun x141 H_28 =>
 (pLoadN H_28 4 m11 fun r_ =>
 r_ = x142) ∧
 CallsH Try.prog 31 #[x141, x142, open19] H_28 fun x144 H_29 =>
 pNot x144 fun x145 =>
 pOr x145 (fun J_30 =>
 pConv .u32 x139 fun x151 =>
 pAdd first0 x151 fun x152 =>
 CallsH Try.prog 27 #[x36] H_29 fun x148 H_32 =>
 pNe 0 x148 x152 fun x153 =>
 J_30 x153 H_32) H_29 fun x154 H_31 => ∀ _ : Env,
 pOr x154 (fun J_33 =>
 pEq 0 x139 x26 fun x160 =>
 CallsH Try.prog 24 #[x36] H_31 fun x157 H_35 =>
 pNe 2 x157 x160 fun x161 =>
 J_33 x161 H_35) H_31 fun x162 H_34 => ∀ _ : Env,
 pCond x162
 (R (.bool false) H_34)
 (pAdd i12 (.int .i64 1) fun x56 =>
 I_6 x56 H_34 ∧ m_7 x56 H_34 < m_7 i12 H_8))) ∧
 pFieldAddr 0 x13 fun x75 =>
 pLoad H_15 x75 fun x76 =>
 pRem x76 (.int .i64 5) fun x77 =>
 pAdd x77 (.int .i64 5) fun x78 =>
 pRem x78 (.int .i64 5) fun x79 =>
 pEq 0 x79 (.int .i64 0) fun x97 =>
 pCond x97
 (pLoadN H_15 4 m11 fun x99 =>
 CallsH Try.prog 30 #[x99] H_15 fun x100 H_36 =>
 pExtract 0 x100 fun x101 =>
 pExtract 1 x100 fun x102 =>
 pBox H_36 67 (.agg #[(.int .u32 0), (.int .i64 0), (.slice none 0 0), (.slice none 0 0)]) fun n15 H_37 =>
 pStoreN H_37 4 n15 x101 fun _ H_38 =>
 pLoadN H_38 4 m11 fun x105 =>
 CallsH Try.prog 25 #[x36] H_38 fun x104 H_39 =>
 (pLoadN H_39 4 m11 fun r_ =>
 r_ = x105) ∧
 CallsH Try.prog 31 #[x104, x105, x102] H_39 fun x107 H_40 =>
 pNot x107 fun x108 =>
 pCond x108
 (R (.bool false) H_40)
 (pLoadN H_40 4 n15 fun x109 =>
 pStoreN H_40 4 m11 x109 fun _ H_41 =>
 J_16 H_41))
 (pEq 0 x79 (.int .i64 4) fun x111 =>
 pCond x111
 (CallsH Try.prog 32 #[x36] H_15 fun x113 H_42 =>
 pLoadN H_42 4 m11 fun x114 =>
 CallsH Try.prog 33 #[x114] H_42 fun x115 H_43 =>
 pStoreN H_43 4 m11 x115 fun _ H_44 =>
 J_16 H_44)
 (pLoadN H_15 4 m11 fun x81 =>
 pFieldAddr 4 x13 fun x83 =>
 pLoad H_15 x83 fun x84 =>
 CallsH Try.prog 34 #[x81, upto14, x84] H_15 fun x85 H_45 =>
 pExtract 0 x85 fun x86 =>
 pExtract 1 x85 fun x87 =>
 pBox H_45 67 (.agg #[(.int .u32 0), (.int .i64 0), (.slice none 0 0), (.slice none 0 0)]) fun n17 H_46 =>
 pStoreN H_46 4 n17 x86 fun _ H_47 =>
 pFieldAddr 4 x13 fun x90 =>
 pLoad H_47 x90 fun x91 =>
 CallsH Try.prog 28 #[x36, upto14, x91] H_47 fun x92 H_48 =>
 pNe 2 x92 x87 fun x94 =>
 pCond x94
 (R (.bool false) H_48)
 (pLoadN H_48 4 n17 fun x95 =>
 pStoreN H_48 4 m11 x95 fun _ H_49 =>
 J_16 H_49)))) ∧
 pFieldAddr 2 x13 fun x71 =>
 pLoad H_13 x71 fun x72 =>
 pCond x72
 (pFieldAddr 3 x13 fun x73 =>
 pLoad H_13 x73 fun x74 =>
 J_14 x74 H_13)
 (J_14 x70 H_13))
 (R (.bool true) H_10)) ∧
 (pMakeSl H_3 4 1 [(.bool false)] x26 x26 fun x43 H_50 =>
 (pMakeSl H_50 4 1 [(.bool false)] x26 x26 fun x45 H_51 =>
 pBuild [(.int .u32 0), (.int .i64 0), (.slice none 0 0), (.slice none 0 0)] [(0, 1, first0), (1, 1, x30), (2, 1, x43), (3, 1, x45)] fun x46 =>
 pBox H_51 67 (.agg #[(.int .u32 0), (.int .i64 0), (.slice none 0 0), (.slice none 0 0)]) fun m11 H_52 =>
 pStoreN H_52 4 m11 x46 fun _ H_53 =>
 J_4 m11 H_53) ∧
 (pBox H_50 67 (.agg #[(.int .u32 0), (.int .i64 0), (.slice none 0 0), (.slice none 0 0)]) fun m11 H_54 =>
 pMakeSl H_54 4 1 [(.bool false)] x26 x26 fun x45 H_55 =>
 pBuild [(.int .u32 0), (.int .i64 0), (.slice none 0 0), (.slice none 0 0)] [(0, 1, first0), (1, 1, x30), (2, 1, x43), (3, 1, x45)] fun x46 =>
 pStoreN H_55 4 m11 x46 fun _ H_56 =>
 J_4 m11 H_56)) ∧
 ((pMakeSl H_3 4 1 [(.bool false)] x26 x26 fun x45 H_57 =>
 (pMakeSl H_57 4 1 [(.bool false)] x26 x26 fun x43 H_58 =>
 pBuild [(.int .u32 0), (.int .i64 0), (.slice none 0 0), (.slice none 0 0)] [(0, 1, first0), (1, 1, x30), (2, 1, x43), (3, 1, x45)] fun x46 =>
 pBox H_58 67 (.agg #[(.int .u32 0), (.int .i64 0), (.slice none 0 0), (.slice none 0 0)]) fun m11 H_59 =>
 pStoreN H_59 4 m11 x46 fun _ H_60 =>
 J_4 m11 H_60) ∧
 (pBox H_57 67 (.agg #[(.int .u32 0), (.int .i64 0), (.slice none 0 0), (.slice none 0 0)]) fun m11 H_61 =>
 pMakeSl H_61 4 1 [(.bool false)] x26 x26 fun x43 H_62 =>
 pBuild [(.int .u32 0), (.int .i64 0), (.slice none 0 0), (.slice none 0 0)] [(0, 1, first0), (1, 1, x30), (2, 1, x43), (3, 1, x45)] fun x46 =>
 pStoreN H_62 4 m11 x46 fun _ H_63 =>
 J_4 m11 H_63)) ∧
 (pBox H_3 67 (.agg #[(.int .u32 0), (.int .i64 0), (.slice none 0 0), (.slice none 0 0)]) fun m11 H_64 =>
 (pMakeSl H_64 4 1 [(.bool false)] x26 x26 fun x43 H_65 =>
 pMakeSl H_65 4 1 [(.bool false)] x26 x26 fun x45 H_66 =>
 pBuild [(.int .u32 0), (.int .i64 0), (.slice none 0 0), (.slice none 0 0)] [(0, 1, first0), (1, 1, x30), (2, 1, x43), (3, 1, x45)] fun x46 =>
 pStoreN H_66 4 m11 x46 fun _ H_67 =>
 J_4 m11 H_67) ∧
 (pMakeSl H_64 4 1 [(.bool false)] x26 x26 fun x45 H_68 =>
 pMakeSl H_68 4 1 [(.bool false)] x26 x26 fun x43 H_69 =>
 pBuild [(.int .u32 0), (.int .i64 0), (.slice none 0 0), (.slice none 0 0)] [(0, 1, first0), (1, 1, x30), (2, 1, x43), (3, 1, x45)] fun x46 =>
 pStoreN H_69 4 m11 x46 fun _ H_70 =>
 J_4 m11 H_70)))))
set_option maxRecDepth 100000 in
theorem lighterlaw24_SendPlays.vc (first0 : Value) (plan1 : Value) (l2 : Value) (H0 : Heap) (R : Value → Heap → Prop) (h : lighterlaw24_SendPlays.res first0 plan1 l2 H0 R) : CallsH Try.prog 8 #[first0, plan1, l2] H0 R := by
  have e : vcFn Try.prog Try.C Try.f8 lighterlaw24_SendPlays.an [first0, plan1, l2] H0 R = lighterlaw24_SendPlays.res first0 plan1 l2 H0 R := by kernel_rfl
  exact vcFn_sound Try.callable Try.mixed Try.func8 (by kernel_rfl) (e.mpr h)

def lighterlaw24_SendRefuses.an : Ann := (.seq (.reg (.op 0 [] .nil)) (.seq (.seq (.reg (.op 0 [] (.op 1 [] .nil))) (.cond (.seq (.reg (.op 0 [] .nil)) .leaf) .leaf)) (.seq (.reg (.op 0 [] (.op 1 [] (.op 2 [] (.op 3 [] (.op 4 [] (.op 5 [] (.op 6 [] (.op 7 [] (.op 8 [] .nil)))))))))) (.seq (.reg (.op 0 [] (.op 1 [] (.op 2 [] (.grp 2 (.op 3 [] (.op 4 [] .nil)) 5 (.op 6 [] (.grp 6 (.op 7 [] (.op 8 [] .nil)) 9 (.op 10 [] (.grp 10 (.op 11 [] (.op 12 [] .nil)) 13 (.op 14 [] .nil)))))))))) (.seq (.reg (.op 0 [] .nil)) (.seq (.reg (.op 0 [] (.op 1 [] .nil))) (.seq (.reg (.op 0 [] (.op 1 [] (.op 2 [] (.op 3 [] (.op 4 [] (.grp 4 (.op 5 [] (.op 6 [] (.op 7 [] (.op 8 [] .nil)))) 9 (.op 10 [] (.grp 10 (.op 11 [] (.op 12 [] (.grp 12 (.op 13 [] (.op 14 [] .nil)) 15 .nil))) 16 (.op 17 [] (.grp 17 (.op 18 [] (.op 19 [] (.op 20 [] (.op 21 [] (.op 22 [] (.op 23 [] (.op 24 [] (.op 25 [] .nil)))))))) 26 (.op 27 [] (.grp 27 (.op 28 [] (.op 29 [] (.op 30 [] (.op 31 [] .nil)))) 32 (.op 33 [] (.grp 33 (.op 34 [] (.op 35 [] (.op 36 [] .nil))) 37 (.op 38 [] (.grp 38 (.op 39 [] (.op 40 [] (.op 41 [] .nil))) 42 (.op 43 [] .nil)))))))))))))))))) .leaf)))))))
/-- lighter/lighterlaw24.SendRefuses -/
def lighterlaw24_SendRefuses.res (first0 : Value) (count1 : Value) (size2 : Value) (H0 : Heap) (R : Value → Heap → Prop) : Prop :=
 CallsH Try.prog 22 #[] H0 fun x11 H_1 =>
 pNot x11 fun x12 =>
 pCond x12
 (R (.bool false) H_1)
 (CallsH Try.prog 23 #[first0, count1, size2] H_1 fun x17 H_2 =>
 pExtract 0 x17 fun x18 =>
 pExtract 1 x17 fun x19 =>
 pGe count1 (.int .i64 0) fun x21 =>
 pAnd x21 (fun J_3 =>
 pLe count1 (.int .i64 1048576) fun x24 =>
 J_3 x24 H_2) H_2 fun x25 H_4 => ∀ _ : Env,
 pAnd x25 (fun J_5 =>
 pGe size2 (.int .i64 1) fun x28 =>
 J_5 x28 H_4) H_4 fun x29 H_6 => ∀ _ : Env,
 pAnd x29 (fun J_7 =>
 pLe size2 (.int .i64 32) fun x32 =>
 J_7 x32 H_6) H_6 fun x33 H_8 => ∀ _ : Env,
 CallsH Try.prog 32 #[(.pointer none)] H_8 fun x35 H_9 =>
 pEq 0 x19 (.int .i64 0) fun x37 =>
 pEq 2 x37 x33 fun x39 =>
 pAnd x39 (fun J_10 =>
 pNe 3 x18 (.pointer none) fun x42 =>
 pEq 2 x42 x33 fun x44 =>
 J_10 x44 H_9) H_9 fun x45 H_11 => ∀ _ : Env,
 pAnd x45 (fun J_12 =>
 pOr x33 (fun J_14 =>
 pEq 0 x19 (.int .i64 1) fun x50 =>
 J_14 x50 H_11) H_11 fun x51 H_15 => ∀ _ : Env,
 J_12 x51 H_15) H_11 fun x52 H_13 => ∀ _ : Env,
 pAnd x52 (fun J_16 =>
 CallsH Try.prog 25 #[(.pointer none)] H_13 fun x55 H_18 =>
 pLen x55 fun x56 =>
 CallsH Try.prog 26 #[(.pointer none)] H_18 fun x58 H_19 =>
 pLen x58 fun x59 =>
 pAdd x56 x59 fun x60 =>
 pEq 0 x60 (.int .i64 0) fun x61 =>
 J_16 x61 H_19) H_13 fun x62 H_17 => ∀ _ : Env,
 pAnd x62 (fun J_20 =>
 CallsH Try.prog 28 #[(.pointer none), first0, (.int .u32 1)] H_17 fun x66 H_22 =>
 pNot x66 fun x67 =>
 J_20 x67 H_22) H_17 fun x68 H_21 => ∀ _ : Env,
 pAnd x68 (fun J_23 =>
 CallsH Try.prog 27 #[(.pointer none)] H_21 fun x71 H_25 =>
 pEq 0 x71 (.int .u32 0) fun x72 =>
 J_23 x72 H_25) H_21 fun x73 H_24 => ∀ _ : Env,
 pAnd x73 (fun J_26 =>
 CallsH Try.prog 24 #[(.pointer none)] H_24 fun x76 H_28 =>
 pNot x76 fun x77 =>
 J_26 x77 H_28) H_24 fun x78 H_27 => ∀ _ : Env,
 R x78 H_27)
set_option maxRecDepth 100000 in
theorem lighterlaw24_SendRefuses.vc (first0 : Value) (count1 : Value) (size2 : Value) (H0 : Heap) (R : Value → Heap → Prop) (h : lighterlaw24_SendRefuses.res first0 count1 size2 H0 R) : CallsH Try.prog 9 #[first0, count1, size2] H0 R := by
  have e : vcFn Try.prog Try.C Try.f9 lighterlaw24_SendRefuses.an [first0, count1, size2] H0 R = lighterlaw24_SendRefuses.res first0 count1 size2 H0 R := by kernel_rfl
  exact vcFn_sound Try.callable Try.mixed Try.func9 (by kernel_rfl) (e.mpr h)

def lighterlaw24_speaks.an : Ann := (.seq (.reg (.op 0 [] .nil)) (.seq (.reg (.op 0 [] (.op 1 [] (.op 2 [] (.op 3 [] (.op 4 [] (.op 5 [] .nil))))))) (.seq (.reg (.op 0 [] (.op 1 [] (.op 2 [] .nil)))) (.seq (.reg (.op 0 [] (.op 1 [] (.op 2 [] .nil)))) (.seq (.reg (.op 0 [] (.op 1 [] (.op 2 [] .nil)))) (.seq (.reg (.op 0 [] (.op 1 [] (.op 2 [] (.grp 2 (.op 3 [] (.op 4 [] (.op 5 [] .nil))) 6 (.op 7 [] (.grp 7 (.op 8 [] (.op 9 [] (.op 10 [] (.op 11 [] .nil)))) 12 (.op 13 [] (.grp 13 (.op 14 [] .nil) 15 (.op 16 [] (.grp 16 (.op 17 [] (.op 18 [] (.op 19 [] .nil))) 20 (.op 21 [] (.grp 21 (.op 22 [] (.op 23 [] (.op 24 [] (.op 25 [] .nil)))) 26 (.op 27 [] (.grp 27 (.op 28 [] (.op 29 [] (.op 30 [] .nil))) 31 (.op 32 [] (.grp 32 (.op 33 [] (.op 34 [] (.op 35 [] .nil))) 36 (.op 37 [] .nil)))))))))))))))))) .leaf))))))
/-- lighter/lighterlaw24.speaks -/
def lighterlaw24_speaks.res (H0 : Heap) (R : Value → Heap → Prop) : Prop :=
 CallsH Try.prog 23 #[(.int .u32 5), (.int .i64 3), (.int .i64 2)] H0 fun x7 H_1 =>
 pExtract 0 x7 fun x8 =>
 pExtract 1 x7 fun x9 =>
 CallsH Try.prog 25 #[x8] H_1 fun x11 H_2 =>
 CallsH Try.prog 28 #[x8, (.int .u32 6), (.int .u32 0)] H_2 fun x13 H_3 =>
 CallsH Try.prog 25 #[x8] H_3 fun x15 H_4 =>
 pEq 0 x9 (.int .i64 0) fun x17 =>
 pAnd x17 (fun J_5 =>
 pLen x11 fun x20 =>
 pEq 0 x20 (.int .i64 2) fun x21 =>
 J_5 x21 H_4) H_4 fun x22 H_6 => ∀ _ : Env,
 pAnd x22 (fun J_7 =>
 pIdxSl 1 x11 (.int .i64 1) fun x25 =>
 pLoad H_6 x25 fun x26 =>
 pEq 0 x26 (.int .u32 6) fun x27 =>
 J_7 x27 H_6) H_6 fun x28 H_8 => ∀ _ : Env,
 pAnd x28 (fun J_9 =>
 J_9 x13 H_8) H_8 fun x31 H_10 => ∀ _ : Env,
 pAnd x31 (fun J_11 =>
 pLen x15 fun x34 =>
 pEq 0 x34 (.int .i64 1) fun x35 =>
 J_11 x35 H_10) H_10 fun x36 H_12 => ∀ _ : Env,
 pAnd x36 (fun J_13 =>
 pIdxSl 1 x15 (.int .i64 0) fun x39 =>
 pLoad H_12 x39 fun x40 =>
 pEq 0 x40 (.int .u32 7) fun x41 =>
 J_13 x41 H_12) H_12 fun x42 H_14 => ∀ _ : Env,
 pAnd x42 (fun J_15 =>
 CallsH Try.prog 27 #[x8] H_14 fun x45 H_17 =>
 pEq 0 x45 (.int .u32 6) fun x46 =>
 J_15 x46 H_17) H_14 fun x47 H_16 => ∀ _ : Env,
 pAnd x47 (fun J_18 =>
 CallsH Try.prog 24 #[x8] H_16 fun x50 H_20 =>
 pNot x50 fun x51 =>
 J_18 x51 H_20) H_16 fun x52 H_19 => ∀ _ : Env,
 R x52 H_19
set_option maxRecDepth 100000 in
theorem lighterlaw24_speaks.vc (H0 : Heap) (R : Value → Heap → Prop) (h : lighterlaw24_speaks.res H0 R) : CallsH Try.prog 22 #[] H0 R := by
  have e : vcFn Try.prog Try.C Try.f22 lighterlaw24_speaks.an [] H0 R = lighterlaw24_speaks.res H0 R := by kernel_rfl
  exact vcFn_sound Try.callable Try.mixed Try.func22 (by kernel_rfl) (e.mpr h)

def lighterlaw24_numbers.an : Ann := (.seq (.reg (.op 0 [] (.op 1 [] .nil))) (.seq (.seq (.reg (.op 0 [] (.op 1 [] (.op 2 [] (.op 3 [] (.op 4 [] .nil)))))) (.cond (.seq (.reg (.op 0 [] .nil)) .leaf) .leaf)) (.seq (.seq (.reg (.op 0 [] .nil)) (.block (.loop [7] [6, 7, 13, 14, 15, 16, 17, 18, 19, 20, 21, 22, 23, 24, 25, 26, 27, 28, 29] (.seq (.seq (.reg (.op 0 [] (.op 1 [] (.op 2 [] (.op 3 [] .nil))))) (.cond .leaf .leaf)) (.seq (.block (.seq (.drw [0, 0, 3, 7, 0, 0, 0, 96, 224, 496, 1023] (.op 0 [] (.op 1 [] (.op 2 [] (.op 3 [] (.op 4 [] (.op 5 [] (.op 6 [] (.op 7 [] (.op 8 [] (.op 9 [3] (.op 10 [] .nil)))))))))))) (.cond (.seq (.reg (.op 0 [] .nil)) .leaf) .leaf))) (.reg (.op 0 [] (.op 1 [] (.op 2 [] .nil))))))))) (.seq (.reg (.op 0 [] .nil)) .leaf))))
/-- lighter/lighterlaw24.numbers -/
def lighterlaw24_numbers.res (l0 : Value) (m1 : Value) (want2 : Value) (H0 : Heap) (R : Value → Heap → Prop) : Prop :=
 pBox H0 67 m1 fun m4 H_1 =>
 pLen l0 fun x9 =>
 pLen want2 fun x11 =>
 pNe 0 x9 x11 fun x12 =>
 pCond x12
 (R (.bool false) H_1)
 (∃ (I_2 : Value → Heap → Prop) (m_3 : Value → Heap → Nat), I_2 (.int .i64 0) H_1 ∧
 ∀ _ : Env, ∀ i7 : Value, ∀ H_4 : Heap, I_2 i7 H_4 →
 pLen l0 fun x15 =>
 pLt i7 x15 fun x16 =>
 pCond x16
 (pIdxSl 1 l0 i7 fun x21 =>
 pLoad H_4 x21 fun x22 =>
 pLoadN H_4 4 m4 fun x23 =>
 pIdxSl 1 want2 i7 fun x26 =>
 pLoad H_4 x26 fun x27 =>
 CallsH Try.prog 39 #[x23, x27] H_4 fun x28 H_5 =>
 (pLoad H_5 x21 fun r_ =>
 r_ = x22) ∧
 pNe 0 x22 x28 fun x29 =>
 pCond x29
 (R (.bool false) H_5)
 (pAdd i7 (.int .i64 1) fun x18 =>
 I_2 x18 H_5 ∧ m_3 x18 H_5 < m_3 i7 H_4))
 (R (.bool true) H_4))
set_option maxRecDepth 100000 in
theorem lighterlaw24_numbers.vc (l0 : Value) (m1 : Value) (want2 : Value) (H0 : Heap) (R : Value → Heap → Prop) (h : lighterlaw24_numbers.res l0 m1 want2 H0 R) : CallsH Try.prog 31 #[l0, m1, want2] H0 R := by
  have e : vcFn Try.prog Try.C Try.f31 lighterlaw24_numbers.an [l0, m1, want2] H0 R = lighterlaw24_numbers.res l0 m1 want2 H0 R := by kernel_rfl
  exact vcFn_sound Try.callable Try.mixed Try.func31 (by kernel_rfl) (e.mpr h)

end Go.Proofs.Ytmolkhfohpfhaaa
