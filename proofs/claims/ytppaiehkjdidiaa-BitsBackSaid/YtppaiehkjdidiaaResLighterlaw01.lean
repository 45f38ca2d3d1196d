/- The residuals of package lighterlaw01's functions, printed by resid.py. -/
import Derived.Test.YtppaiehkjdidiaaVcSeat
namespace Go.Proofs.Ytppaiehkjdidiaa
open Go Go.Vc Go.Proofs
set_option linter.unusedVariables false
set_option maxHeartbeats 4000000
def lighterlaw01_BitsBack.an : Ann := (.seq (.reg (.op 0 [] .nil)) (.seq (.seq (.reg (.op 0 [] (.op 1 [] .nil))) (.cond (.seq (.reg (.op 0 [] .nil)) .leaf) .leaf)) (.seq (.reg (.op 0 [] .nil)) (.seq (.seq (.reg (.op 0 [] .nil)) (.block (.loop [6] [6, 16, 17, 18, 19, 20, 21, 22, 23, 24, 25, 26, 27, 28, 29, 30, 31, 32, 33, 34, 35, 36, 37, 38, 39] (.seq (.seq (.reg (.op 0 [] (.op 1 [] (.op 2 [] (.op 3 [] (.op 4 [] (.grp 4 (.op 5 [] (.op 6 [] .nil)) 7 .nil))))))) (.cond .leaf .leaf)) (.seq (.block (.drw [0, 0, 3, 7, 15, 0, 0, 96, 224, 480, 992, 2016, 4064, 8191] (.op 0 [] (.op 1 [] (.op 2 [] (.op 3 [] (.op 4 [] (.op 5 [] (.op 6 [] (.op 7 [] (.op 8 [] (.op 9 [] (.op 10 [] (.op 11 [] (.op 12 [] (.op 13 [] .nil)))))))))))))))) (.reg (.op 0 [] (.op 1 [] (.op 2 [] .nil))))))))) (.seq (.reg (.op 0 [] .nil)) (.seq (.reg (.op 0 [] (.op 1 [] .nil))) (.seq (.reg (.op 0 [] (.op 1 [] (.op 2 [] (.op 3 [] .nil))))) (.seq (.reg (.op 0 [] .nil)) (.seq (.reg (.op 0 [] .nil)) (.seq (.seq (.reg (.op 0 [] .nil)) (.block (.loop [9, 10] [4, 9, 10, 11, 12, 13, 45, 46, 47, 48, 49, 50, 51, 52, 53, 54, 55, 56, 57, 58, 59, 60, 61, 62, 63, 64, 65, 66, 67, 68, 69, 70, 71, 72, 73, 74, 75, 76, 77, 78, 79, 80, 81, 82, 83, 84, 85, 86, 87, 88, 89, 90, 91, 92, 93, 94, 95, 96, 97, 98, 99, 100, 101, 102, 103, 104, 105, 106, 107, 108] (.seq (.seq (.reg (.op 0 [] (.op 1 [] (.op 2 [] (.op 3 [] (.op 4 [] (.grp 4 (.op 5 [] (.op 6 [] .nil)) 7 .nil))))))) (.cond .leaf .leaf)) (.seq (.block (.seq (.reg (.op 0 [] (.op 1 [] (.op 2 [] (.op 3 [] (.op 4 [] (.op 5 [] (.op 6 [] (.op 7 [] (.op 8 [] .nil)))))))))) (.seq (.reg (.op 0 [] (.op 1 [] (.op 2 [] (.op 3 [] (.op 4 [] (.op 5 [] (.op 6 [] .nil)))))))) (.seq (.block (.loop [9, 12, 13] [9, 12, 13, 68, 69, 70, 71, 72, 73, 74, 75, 76, 77, 78, 79, 80, 81, 82, 83, 84, 85, 86, 87, 88, 89, 90, 91, 92, 93] (.seq (.seq (.reg (.op 0 [] (.op 1 [] (.op 2 [] (.grp 2 (.op 3 [] (.op 4 [] (.op 5 [] (.op 6 [] .nil)))) 7 .nil))))) (.cond .leaf .leaf)) (.block (.seq (.reg (.op 0 [] (.op 1 [] (.op 2 [] (.op 3 [] (.op 4 [] (.op 5 [] (.op 6 [] (.op 7 [] (.op 8 [] (.op 9 [] .nil))))))))))) (.seq (.reg (.op 0 [] (.op 1 [] (.op 2 [] (.op 3 [] .nil))))) (.reg (.op 0 [] (.op 1 [] (.op 2 [] (.op 3 [] (.op 4 [] (.op 5 [] (.op 6 [] .nil)))))))))))))) (.seq (.drw [0, 1, 3, 7, 7, 7, 55, 119, 247, 7, 519, 1543, 4087, 8191, 16383] (.op 0 [] (.op 1 [] (.op 2 [] (.grp 2 (.op 3 [] (.op 4 [] (.op 5 [] (.op 6 [] (.op 7 [] (.op 8 [] (.op 9 [] (.op 10 [] (.op 11 [] (.op 12 [] (.op 13 [] .nil))))))))))) 14 .nil))))) (.cond (.seq (.reg (.op 0 [] .nil)) .leaf) .leaf)))))) (.reg (.op 0 [] (.op 1 [] (.op 2 [] .nil))))))))) (.seq (.reg (.op 0 [] (.op 1 [] (.op 2 [] (.grp 2 (.op 3 [] (.op 4 [] (.op 5 [] (.op 6 [] .nil)))) 7 (.op 8 [] (.grp 8 (.op 9 [] (.op 10 [] .nil)) 11 (.op 12 [] .nil)))))))) .leaf)))))))))))
/-- lighter/lighterlaw01.BitsBack -/
def lighterlaw01_BitsBack.res (l0 : Value) (piece1 : Value) (H0 : Heap) (R : Value → Heap → Prop) : Prop :=
 CallsH Try.prog 18 #[] H0 fun x14 H_1 =>
 pNot x14 fun x15 =>
 pCond x15
 (R (.bool false) H_1)
 (pBox H_1 38 (.agg #[(.slice none 0 0), (.int .u64 0), (.int .i64 0)]) fun w5 H_2 =>
 ∃ (I_3 : Value → Heap → Prop) (m_4 : Value → Heap → Nat), I_3 (.int .i64 0) H_2 ∧
 ∀ _ : Env, ∀ i6 : Value, ∀ H_5 : Heap, I_3 i6 H_5 →
 pLen l0 fun x18 =>
 pLt i6 x18 fun x19 =>
 pAnd x19 (fun J_6 =>
 pLt i6 (.int .i64 100) fun x22 =>
 J_6 x22 H_5) H_5 fun x23 H_7 => ∀ _ : Env,
 pCond x23
 (pIdxSl 2 l0 i6 fun x28 =>
 pIdxArr 2 1 x28 (.int .i64 0) fun x29 =>
 pLoad H_7 x29 fun x30 =>
 pIdxSl 2 l0 i6 fun x33 =>
 pIdxArr 2 1 x33 (.int .i64 1) fun x34 =>
 pLoad H_7 x34 fun x35 =>
 pBits .and x35 (.int .u64 31) fun x36 =>
 pConv .i64 x36 fun x37 =>
 pAdd (.int .i64 1) x37 fun x38 =>
 CallsH Try.prog 19 #[w5, x30, x38] H_7 fun x39 H_8 =>
 pAdd i6 (.int .i64 1) fun x25 =>
 I_3 x25 H_8 ∧ m_4 x25 H_8 < m_4 i6 H_5)
 (CallsH Try.prog 20 #[w5] H_7 fun x40 H_9 =>
 CallsH Try.prog 21 #[w5] H_9 fun x41 H_10 =>
 pBits .and piece1 (.int .i64 15) fun x43 =>
 pAdd (.int .i64 1) x43 fun x44 =>
 pBox H_10 43 (.agg #[(str []), (.int .u64 0), (.int .i64 0)]) fun r8 H_11 =>
 ∃ (I_12 : Value → Value → Heap → Prop) (m_13 : Value → Value → Heap → Nat), I_12 (.int .i64 0) (.int .i64 0) H_11 ∧
 ∀ _ : Env, ∀ at9 : Value, ∀ i10 : Value, ∀ H_14 : Heap, I_12 at9 i10 H_14 →
 pLen l0 fun x47 =>
 pLt i10 x47 fun x48 =>
 pAnd x48 (fun J_15 =>
 pLt i10 (.int .i64 100) fun x51 =>
 J_15 x51 H_14) H_14 fun x52 H_16 => ∀ _ : Env,
 pCond x52
 (pIdxSl 2 l0 i10 fun x57 =>
 pIdxArr 2 1 x57 (.int .i64 1) fun x58 =>
 pLoad H_16 x58 fun x59 =>
 pBits .and x59 (.int .u64 31) fun x60 =>
 pConv .i64 x60 fun x61 =>
 pAdd (.int .i64 1) x61 fun x62 =>
 CallsH Try.prog 22 #[r8, x62] H_16 fun x65 H_17 =>
 pExtract 0 x65 fun x66 =>
 pExtract 1 x65 fun x67 =>
 ∃ (I_18 : Value → Value → Value → Heap → Prop) (m_19 : Value → Value → Value → Heap → Nat), I_18 at9 x66 x67 H_17 ∧
 ∀ _ : Env, ∀ at9' : Value, ∀ v12 : Value, ∀ ok13 : Value, ∀ H_20 : Heap, I_18 at9' v12 ok13 H_20 →
 pNot ok13 fun x69 =>
 pAnd x69 (fun J_21 =>
 pLenS x41 fun x73 =>
 pLt at9' x73 fun x74 =>
 J_21 x74 H_20) H_20 fun x75 H_22 => ∀ _ : Env,
 pCond x75
 (pAdd at9' x44 fun x80 =>
 pLenS x41 fun x82 =>
 pMin x80 x82 fun x83 =>
 pSlStr x41 (some at9') (some x83) fun x84 =>
 CallsH Try.prog 23 #[r8, x84] H_22 fun x85 H_23 =>
 pAdd at9' x44 fun x88 =>
 CallsH Try.prog 22 #[r8, x62] H_23 fun x91 H_24 =>
 pExtract 0 x91 fun x92 =>
 pExtract 1 x91 fun x93 =>
 I_18 x88 x92 x93 H_24 ∧ m_19 x88 x92 x93 H_24 < m_19 at9' v12 ok13 H_20)
 (pNot ok13 fun x95 =>
 pOr x95 (fun J_25 =>
 pIdxSl 2 l0 i10 fun x100 =>
 pIdxArr 2 1 x100 (.int .i64 0) fun x101 =>
 pLoad H_22 x101 fun x102 =>
 pShl (.int .u64 1) x62 fun x104 =>
 pSub x104 (.int .u64 1) fun x105 =>
 pBits .and x102 x105 fun x106 =>
 pNe 0 v12 x106 fun x107 =>
 J_25 x107 H_22) H_22 fun x108 H_26 => ∀ _ : Env,
 pCond x108
 (R (.bool false) H_26)
 (pAdd i10 (.int .i64 1) fun x54 =>
 I_12 at9' x54 H_26 ∧ m_13 at9' x54 H_26 < m_13 at9 i10 H_14)))
 (CallsH Try.prog 24 #[r8] H_16 fun x109 H_27 =>
 pLt x109 (.int .i64 8) fun x110 =>
 pOr x110 (fun J_28 =>
 pLenS x41 fun x114 =>
 pLt at9 x114 fun x115 =>
 J_28 x115 H_27) H_27 fun x116 H_29 => ∀ _ : Env,
 pOr x116 (fun J_30 =>
 pGt x44 (.int .i64 1) fun x119 =>
 J_30 x119 H_29) H_29 fun x120 H_31 => ∀ _ : Env,
 R x120 H_31)))
set_option maxRecDepth 100000 in
theorem lighterlaw01_BitsBack.vc (l0 : Value) (piece1 : Value) (H0 : Heap) (R : Value → Heap → Prop) (h : lighterlaw01_BitsBack.res l0 piece1 H0 R) : CallsH Try.prog 6 #[l0, piece1] H0 R := by
  have e : vcFn Try.prog Try.C Try.f6 lighterlaw01_BitsBack.an [l0, piece1] H0 R = lighterlaw01_BitsBack.res l0 piece1 H0 R := by kernel_rfl
  exact vcFn_sound Try.callable Try.mixed Try.func6 (by kernel_rfl) (e.mpr h)

def lighterlaw01_BitsWrites.an : Ann := (.seq (.reg (.op 0 [] .nil)) (.seq (.seq (.reg (.op 0 [] (.op 1 [] .nil))) (.cond (.seq (.reg (.op 0 [] .nil)) .leaf) .leaf)) (.seq (.reg (.op 0 [] .nil)) (.seq (.reg (.op 0 [] .nil)) (.seq (.seq (.reg (.op 0 [] .nil)) (.block (.loop [4, 5] [2, 4, 5, 6, 7, 10, 11, 12, 13, 14, 15, 16, 17, 18, 19, 20, 21, 22, 23, 24, 25, 26, 27, 28, 29, 30, 31, 32, 33, 34, 35, 36, 37, 38, 39, 40, 41, 42, 43, 44, 45, 46, 47, 48, 49, 50, 51, 52, 53, 54, 55, 56, 57, 58, 59, 60, 61, 62, 63, 64, 65, 66, 67, 68, 69, 70, 71, 72, 73, 74, 75, 76, 77, 78, 79, 80, 81, 82, 83, 84, 85, 86, 87] (.seq (.seq (.reg (.op 0 [] (.op 1 [] (.op 2 [] (.op 3 [] (.op 4 [] (.grp 4 (.op 5 [] (.op 6 [] .nil)) 7 .nil))))))) (.cond .leaf .leaf)) (.seq (.block (.seq (.reg (.op 0 [] (.op 1 [] (.op 2 [] (.op 3 [] (.op 4 [] (.op 5 [] .nil))))))) (.cut [4] [2, 4, 7, 24, 25, 26, 27, 28, 29, 30, 31, 32, 33, 34, 35, 36, 37, 38, 39, 40, 41, 42, 43, 44, 45, 46, 47, 48, 49, 50, 51, 52, 53, 54, 55, 56, 57, 58, 59, 60, 61, 62, 63, 64, 65, 66, 67, 68, 69, 70, 71, 72, 73, 74, 75, 76, 77, 78, 79, 80, 81, 82, 83] (.seq (.reg (.op 0 [] (.op 1 [] (.op 2 [] .nil)))) (.block (.cut [39] [39, 40, 41] (.seq (.reg (.op 0 [] (.op 1 [] .nil))) (.cond .leaf (.reg (.op 0 [] (.op 1 [] .nil))))) (.cond (.seq (.reg (.op 0 [] (.op 1 [] (.op 2 [] (.op 3 [] (.op 4 [] .nil)))))) (.seq (.reg (.op 0 [] (.op 1 [] (.op 2 [] (.op 3 [] (.grp 3 (.op 4 [] (.op 5 [] (.op 6 [] .nil))) 7 .nil)))))) (.cond (.reg (.op 0 [] (.op 1 [] (.op 2 [] (.op 3 [] (.op 4 [] (.op 5 [] (.op 6 [] (.op 7 [] .nil))))))))) .leaf))) (.seq (.reg (.op 0 [] (.op 1 [] .nil))) (.cond (.seq (.reg (.op 0 [] (.op 1 [] (.op 2 [] (.op 3 [] (.op 4 [] (.op 5 [] (.op 6 [] (.op 7 [] .nil))))))))) (.seq (.reg (.op 0 [] (.op 1 [] .nil))) (.seq (.block (.loop [4] [4, 73, 74, 75, 76, 77, 78, 79] (.seq (.seq (.reg (.op 0 [] (.op 1 [] (.op 2 [] (.op 3 [] .nil))))) (.cond .leaf .leaf)) (.block (.reg (.op 0 [] (.op 1 [] (.op 2 [] (.op 3 [] .nil))))))))) (.reg (.op 0 [] (.op 1 [] (.op 2 [] (.op 3 [] (.op 4 [] .nil))))))))) (.seq (.seq (.reg (.op 0 [] (.op 1 [] (.op 2 [] (.op 3 [] .nil))))) (.cond (.seq (.reg (.op 0 [] .nil)) .leaf) .leaf)) (.reg (.op 0 [] (.op 1 [] (.op 2 [] (.op 3 [] (.op 4 [] (.op 5 [] (.op 6 [] (.op 7 [] (.op 8 [] .nil))))))))))))))))) (.seq (.reg (.op 0 [] (.op 1 [] (.op 2 [] (.op 3 [] .nil))))) (.cond (.seq (.reg (.op 0 [] .nil)) .leaf) .leaf))))) (.reg (.op 0 [] (.op 1 [] (.op 2 [] .nil))))))))) (.seq (.reg (.op 0 [] .nil)) (.seq (.block (.loop [4] [4, 89, 90, 91, 92, 93, 94, 95] (.seq (.seq (.reg (.op 0 [] (.op 1 [] (.op 2 [] (.op 3 [] .nil))))) (.cond .leaf .leaf)) (.block (.reg (.op 0 [] (.op 1 [] (.op 2 [] (.op 3 [] .nil))))))))) (.seq (.reg (.op 0 [] (.op 1 [] (.op 2 [] (.op 3 [] (.op 4 [] (.grp 4 (.op 5 [] (.op 6 [] .nil)) 7 (.op 8 [] .nil)))))))) .leaf))))))))
/-- lighter/lighterlaw01.BitsWrites -/
def lighterlaw01_BitsWrites.res (l0 : Value) (H0 : Heap) (R : Value → Heap → Prop) : Prop :=
 CallsH Try.prog 18 #[] H0 fun x8 H_1 =>
 pNot x8 fun x9 =>
 pCond x9
 (R (.bool false) H_1)
 (pBox H_1 38 (.agg #[(.slice none 0 0), (.int .u64 0), (.int .i64 0)]) fun w3 H_2 =>
 ∃ (I_3 : Value → Value → Heap → Prop) (m_4 : Value → Value → Heap → Nat), I_3 (.slice none 0 0) (.int .i64 0) H_2 ∧
 ∀ _ : Env, ∀ want4 : Value, ∀ i5 : Value, ∀ H_5 : Heap, I_3 want4 i5 H_5 →
 pLen l0 fun x12 =>
 pLt i5 x12 fun x13 =>
 pAnd x13 (fun J_6 =>
 pLt i5 (.int .i64 60) fun x16 =>
 J_6 x16 H_5) H_5 fun x17 H_7 => ∀ _ : Env,
 pCond x17
 (pIdxSl 4 l0 i5 fun x22 =>
 pLoadN H_7 4 x22 fun x23 =>
 pBox H_7 52 (.agg #[(.int .i64 0), (.int .u64 0), (.int .i64 0), (str [])]) fun x6 H_8 =>
 pStoreN H_8 4 x6 x23 fun _ H_9 =>
 ∃ J_10 : Value → Heap → Prop, (∀ _ : Env, ∀ want4' : Value, ∀ H_11 : Heap, J_10 want4' H_11 →
 CallsH Try.prog 29 #[w3] H_11 fun x84 H_12 =>
 pLen want4' fun x86 =>
 pNe 0 x84 x86 fun x87 =>
 pCond x87
 (R (.bool false) H_12)
 (pAdd i5 (.int .i64 1) fun x19 =>
 I_3 want4' x19 H_12 ∧ m_4 want4' x19 H_12 < m_4 want4 i5 H_5)) ∧
 pFieldAddr 0 x6 fun x24 =>
 pLoad H_9 x24 fun x25 =>
 pBits .and x25 (.int .i64 3) fun x26 =>
 ∃ J_13 : Value → Heap → Prop, (∀ _ : Env, ∀ x39 : Value, ∀ H_14 : Heap, J_13 x39 H_14 →
 pCond x39
 (pFieldAddr 1 x6 fun x42 =>
 pLoad H_14 x42 fun x43 =>
 pFieldAddr 2 x6 fun x44 =>
 pLoad H_14 x44 fun x45 =>
 CallsH Try.prog 19 #[w3, x43, x45] H_14 fun x46 H_15 =>
 pFieldAddr 2 x6 fun x47 =>
 pLoad H_15 x47 fun x48 =>
 pGe x48 (.int .i64 1) fun x49 =>
 pAnd x49 (fun J_16 =>
 pFieldAddr 2 x6 fun x51 =>
 pLoad H_15 x51 fun x52 =>
 pLe x52 (.int .i64 32) fun x53 =>
 J_16 x53 H_15) H_15 fun x54 H_17 => ∀ _ : Env,
 pCond x54
 (pFieldAddr 1 x6 fun x56 =>
 pLoad H_17 x56 fun x57 =>
 pFieldAddr 2 x6 fun x58 =>
 pLoad H_17 x58 fun x59 =>
 CallsH Try.prog 25 #[x57, x59] H_17 fun x60 H_18 =>
 pAppend H_18 3 1 8 [(.int .i64 0)] want4 x60 fun x61 H_19 =>
 J_10 x61 H_19)
 (J_10 want4 H_17))
 (pEq 0 x26 (.int .i64 2) fun x63 =>
 pCond x63
 (pFieldAddr 3 x6 fun x64 =>
 pLoad H_14 x64 fun x65 =>
 pFieldAddr 3 x6 fun x66 =>
 pLoad H_14 x66 fun x67 =>
 pLenS x67 fun x68 =>
 pMin x68 (.int .i64 20) fun x69 =>
 pSlStr x65 none (some x69) fun x70 =>
 CallsH Try.prog 26 #[w3, x70] H_14 fun x72 H_20 =>
 ∃ (I_21 : Value → Heap → Prop) (m_22 : Value → Heap → Nat), I_21 want4 H_20 ∧
 ∀ _ : Env, ∀ want4'' : Value, ∀ H_23 : Heap, I_21 want4'' H_23 →
 pLen want4'' fun x74 =>
 pRem x74 (.int .i64 8) fun x75 =>
 pGt x75 (.int .i64 0) fun x76 =>
 pCond x76
 (pBuildSl H_23 3 1 [(.int .i64 0)] [(0, 1, (.int .i64 0))] fun x78 H_24 =>
 pAppend H_24 3 1 8 [(.int .i64 0)] want4'' x78 fun x79 H_25 =>
 I_21 x79 H_25 ∧ m_22 x79 H_25 < m_22 want4'' H_23)
 (CallsH Try.prog 27 #[x70] H_23 fun x82 H_26 =>
 pAppend H_26 3 1 8 [(.int .i64 0)] want4'' x82 fun x83 H_27 =>
 J_10 x83 H_27))
 (CallsH Try.prog 21 #[w3] H_14 fun x27 H_28 =>
 CallsH Try.prog 28 #[want4] H_28 fun x29 H_29 =>
 pNe 1 x27 x29 fun x30 =>
 pCond x30
 (R (.bool false) H_29)
 (pBuildSl H_29 3 0 [] [] fun x31 H_30 =>
 pLen want4 fun x34 =>
 pQuo x34 (.int .i64 8) fun x35 =>
 pMul x35 (.int .i64 8) fun x36 =>
 pSlSl 1 want4 (some x36) none fun x37 =>
 pAppend H_30 3 1 8 [(.int .i64 0)] x31 x37 fun x38 H_31 =>
 J_10 x38 H_31)))) ∧
 pEq 0 x26 (.int .i64 0) fun x40 =>
 pCond x40
 (J_13 x40 H_9)
 (pEq 0 x26 (.int .i64 1) fun x41 =>
 J_13 x41 H_9))
 (CallsH Try.prog 20 #[w3] H_7 fun x88 H_32 =>
 ∃ (I_33 : Value → Heap → Prop) (m_34 : Value → Heap → Nat), I_33 want4 H_32 ∧
 ∀ _ : Env, ∀ want4'3 : Value, ∀ H_35 : Heap, I_33 want4'3 H_35 →
 pLen want4'3 fun x90 =>
 pRem x90 (.int .i64 8) fun x91 =>
 pGt x91 (.int .i64 0) fun x92 =>
 pCond x92
 (pBuildSl H_35 3 1 [(.int .i64 0)] [(0, 1, (.int .i64 0))] fun x94 H_36 =>
 pAppend H_36 3 1 8 [(.int .i64 0)] want4'3 x94 fun x95 H_37 =>
 I_33 x95 H_37 ∧ m_34 x95 H_37 < m_34 want4'3 H_35)
 (CallsH Try.prog 21 #[w3] H_35 fun x96 H_38 =>
 CallsH Try.prog 28 #[want4'3] H_38 fun x98 H_39 =>
 pEq 1 x96 x98 fun x99 =>
 pAnd x99 (fun J_40 =>
 CallsH Try.prog 29 #[w3] H_39 fun x101 H_42 =>
 pEq 0 x101 (.int .i64 0) fun x102 =>
 J_40 x102 H_42) H_39 fun x103 H_41 => ∀ _ : Env,
 R x103 H_41)))
set_option maxRecDepth 100000 in
theorem lighterlaw01_BitsWrites.vc (l0 : Value) (H0 : Heap) (R : Value → Heap → Prop) (h : lighterlaw01_BitsWrites.res l0 H0 R) : CallsH Try.prog 7 #[l0] H0 R := by
  have e : vcFn Try.prog Try.C Try.f7 lighterlaw01_BitsWrites.an [l0] H0 R = lighterlaw01_BitsWrites.res l0 H0 R := by kernel_rfl
  exact vcFn_sound Try.callable Try.mixed Try.func7 (by kernel_rfl) (e.mpr h)

def lighterlaw01_BitsReads.an : Ann := (.seq (.reg (.op 0 [] .nil)) (.seq (.seq (.reg (.op 0 [] (.op 1 [] .nil))) (.cond (.seq (.reg (.op 0 [] .nil)) .leaf) .leaf)) (.seq (.reg (.op 0 [] .nil)) (.seq (.reg (.op 0 [] .nil)) (.seq (.reg (.op 0 [] .nil)) (.seq (.seq (.reg (.op 0 [] .nil)) (.block (.loop [4, 5, 6] [2, 4, 5, 6, 7, 8, 9, 10, 11, 12, 13, 14, 15, 16, 17, 20, 21, 22, 23, 24, 25, 26, 27, 28, 29, 30, 31, 32, 33, 34, 35, 36, 37, 38, 39, 40, 41, 42, 43, 44, 45, 46, 47, 48, 49, 50, 51, 52, 53, 54, 55, 56, 57, 58, 59, 60, 61, 62, 63, 64, 65, 66, 67, 68, 69, 70, 71, 72, 73, 74, 75, 76, 77, 78, 79, 80, 81, 82, 83, 84, 85, 86, 87, 88, 89, 90, 91, 92, 93, 94, 95, 96, 97, 98, 99, 100, 101, 102, 103, 104, 105, 106, 107, 108, 109, 110, 111, 112, 113, 114, 115, 116, 117, 118, 119, 120, 121, 122, 123, 124, 125, 126, 127, 128, 129, 130, 131, 132, 133, 134, 135, 136, 137, 138, 139, 140, 141, 142, 143, 144, 145, 146, 147, 148, 149, 150, 151, 152, 153, 154, 155, 156, 157, 158, 159, 160, 161, 162, 163, 164, 165, 166, 167, 168, 169, 170, 171, 172, 173, 174, 175, 176, 177, 178, 179, 180, 181, 182, 183, 184, 185, 186, 187, 188, 189, 190, 191, 192, 193, 194, 195, 196, 197, 198, 199, 200, 201, 202] (.seq (.seq (.reg (.op 0 [] (.op 1 [] (.op 2 [] (.op 3 [] (.op 4 [] (.grp 4 (.op 5 [] (.op 6 [] .nil)) 7 .nil))))))) (.cond .leaf .leaf)) (.seq (.block (.seq (.reg (.op 0 [] (.op 1 [] (.op 2 [] (.op 3 [] (.op 4 [] (.op 5 [] .nil))))))) (.seq (.reg (.op 0 [] (.op 1 [] (.op 2 [] (.op 3 [] (.op 4 [] .nil)))))) (.cut [4, 5] [2, 4, 5, 9, 10, 11, 12, 13, 14, 15, 16, 17, 38, 39, 40, 41, 42, 43, 44, 45, 46, 47, 48, 49, 50, 51, 52, 53, 54, 55, 56, 57, 58, 59, 60, 61, 62, 63, 64, 65, 66, 67, 68, 69, 70, 71, 72, 73, 74, 75, 76, 77, 78, 79, 80, 81, 82, 83, 84, 85, 86, 87, 88, 89, 90, 91, 92, 93, 94, 95, 96, 97, 98, 99, 100, 101, 102, 103, 104, 105, 106, 107, 108, 109, 110, 111, 112, 113, 114, 115, 116, 117, 118, 119, 120, 121, 122, 123, 124, 125, 126, 127, 128, 129, 130, 131, 132, 133, 134, 135, 136, 137, 138, 139, 140, 141, 142, 143, 144, 145, 146, 147, 148, 149, 150, 151, 152, 153, 154, 155, 156, 157, 158, 159, 160, 161, 162, 163, 164, 165, 166, 167, 168, 169, 170, 171, 172, 173, 174, 175, 176, 177, 178, 179, 180, 181, 182, 183, 184, 185, 186, 187, 188, 189, 190, 191, 192, 193, 194, 195, 196] (.seq (.reg (.op 0 [] (.op 1 [] (.op 2 [] (.op 3 [] (.op 4 [] .nil)))))) (.block (.cut [73] [73, 74, 75] (.seq (.reg (.op 0 [] (.op 1 [] .nil))) (.cond .leaf (.reg (.op 0 [] (.op 1 [] .nil))))) (.cond (.seq (.reg (.op 0 [] (.op 1 [] (.op 2 [] (.op 3 [] (.op 4 [] (.op 5 [] (.op 6 [] (.op 7 [] .nil))))))))) (.seq (.reg (.op 0 [] (.op 1 [] .nil))) (.reg (.op 0 [] (.op 1 [] (.op 2 [] (.op 3 [] (.op 4 [] .nil)))))))) (.seq (.reg (.op 0 [] (.op 1 [] .nil))) (.cond (.seq (.reg (.op 0 [] (.op 1 [] (.op 2 [] (.op 3 [] (.op 4 [] (.op 5 [] (.op 6 [] (.op 7 [] .nil))))))))) (.seq (.reg (.op 0 [] (.op 1 [] (.op 2 [] (.op 3 [] (.grp 3 (.op 4 [] (.op 5 [] (.op 6 [] .nil))) 7 (.op 8 [] (.grp 8 (.op 9 [] (.op 10 [] (.op 11 [] (.op 12 [] .nil)))) 13 (.op 14 [] .nil))))))))) (.seq (.reg (.op 0 [] (.op 1 [] (.op 2 [] (.op 3 [] (.grp 3 (.op 4 [] (.op 5 [] (.grp 5 (.op 6 [] (.op 7 [] (.op 8 [] (.op 9 [] (.op 10 [] (.op 11 [] (.op 12 [] (.op 13 [] (.op 14 [] (.op 15 [] .nil)))))))))) 16 .nil))) 17 (.op 18 [] (.grp 18 (.op 19 [] (.op 20 [] (.op 21 [] (.grp 21 (.op 22 [] (.op 23 [] .nil)) 24 .nil)))) 25 .nil)))))))) (.cond (.seq (.reg (.op 0 [] .nil)) .leaf) .leaf)))) (.seq (.reg (.op 0 [] (.op 1 [] .nil))) (.cond (.seq (.reg (.op 0 [] (.op 1 [] (.op 2 [] (.op 3 [] (.op 4 [] (.op 5 [] (.op 6 [] (.op 7 [] .nil))))))))) (.seq (.reg (.op 0 [] (.op 1 [] (.op 2 [] (.op 3 [] (.grp 3 (.op 4 [] (.op 5 [] (.op 6 [] .nil))) 7 (.op 8 [] (.grp 8 (.op 9 [] (.op 10 [] (.op 11 [] (.op 12 [] .nil)))) 13 (.op 14 [] .nil))))))))) (.seq (.seq (.reg (.op 0 [] (.op 1 [] (.op 2 [] (.op 3 [] (.grp 3 (.op 4 [] (.op 5 [] (.grp 5 (.op 6 [] (.op 7 [] (.op 8 [] (.op 9 [] (.op 10 [] (.op 11 [] (.op 12 [] (.op 13 [] (.op 14 [] (.op 15 [] .nil)))))))))) 16 .nil))) 17 (.op 18 [] (.grp 18 (.op 19 [] (.op 20 [] (.op 21 [] (.grp 21 (.op 22 [] (.op 23 [] .nil)) 24 .nil)))) 25 .nil)))))))) (.cond (.seq (.reg (.op 0 [] .nil)) .leaf) .leaf)) (.seq (.reg (.op 0 [] .nil)) (.cond (.reg (.op 0 [] (.op 1 [] (.op 2 [] (.op 3 [] (.op 4 [] .nil)))))) .leaf))))) (.seq (.reg (.op 0 [] (.op 1 [] .nil))) (.cond (.seq (.reg (.op 0 [] .nil)) (.reg (.op 0 [] (.op 1 [] (.op 2 [] (.op 3 [] (.op 4 [] .nil))))))) (.seq (.reg (.op 0 [] (.op 1 [] (.op 2 [] (.op 3 [] .nil))))) (.seq (.reg (.op 0 [] (.op 1 [] (.op 2 [] (.op 3 [] (.op 4 [] .nil)))))) (.seq (.reg (.op 0 [] (.op 1 [] (.op 2 [] (.op 3 [] (.op 4 [] (.op 5 [] (.op 6 [] (.op 7 [] (.op 8 [] (.op 9 [] .nil))))))))))) (.seq (.seq (.reg (.op 0 [] (.op 1 [] (.op 2 [] (.op 3 [] (.op 4 [] (.op 5 [] (.op 6 [] (.op 7 [] (.op 8 [] (.op 9 [] .nil))))))))))) (.cond (.seq (.reg (.op 0 [] .nil)) .leaf) .leaf)) (.reg (.op 0 [] (.op 1 [] (.op 2 [] (.op 3 [] (.op 4 [] .nil)))))))))))))))))))) (.seq (.reg (.op 0 [] (.op 1 [] (.op 2 [] (.op 3 [] (.op 4 [] (.op 5 [] .nil))))))) (.cond (.seq (.reg (.op 0 [] .nil)) .leaf) .leaf)))))) (.reg (.op 0 [] (.op 1 [] (.op 2 [] .nil))))))))) (.seq (.reg (.op 0 [] .nil)) .leaf)))))))
/-- lighter/lighterlaw01.BitsReads -/
def lighterlaw01_BitsReads.res (l0 : Value) (H0 : Heap) (R : Value → Heap → Prop) : Prop :=
 CallsH Try.prog 18 #[] H0 fun x18 H_1 =>
 pNot x18 fun x19 =>
 pCond x19
 (R (.bool false) H_1)
 (pBox H_1 43 (.agg #[(str []), (.int .u64 0), (.int .i64 0)]) fun r3 H_2 =>
 ∃ (I_3 : Value → Value → Value → Heap → Prop) (m_4 : Value → Value → Value → Heap → Nat), I_3 (.slice none 0 0) (.int .i64 0) (.int .i64 0) H_2 ∧
 ∀ _ : Env, ∀ all4 : Value, ∀ at5 : Value, ∀ i6 : Value, ∀ H_5 : Heap, I_3 all4 at5 i6 H_5 →
 pLen l0 fun x22 =>
 pLt i6 x22 fun x23 =>
 pAnd x23 (fun J_6 =>
 pLt i6 (.int .i64 60) fun x26 =>
 J_6 x26 H_5) H_5 fun x27 H_7 => ∀ _ : Env,
 pCond x27
 (pIdxSl 4 l0 i6 fun x32 =>
 pLoadN H_7 4 x32 fun x33 =>
 pBox H_7 52 (.agg #[(.int .i64 0), (.int .u64 0), (.int .i64 0), (str [])]) fun x7 H_8 =>
 pStoreN H_8 4 x7 x33 fun _ H_9 =>
 pLen all4 fun x35 =>
 pSub x35 at5 fun x37 =>
 ∃ J_10 : Value → Value → Heap → Prop, (∀ _ : Env, ∀ all4' : Value, ∀ at5' : Value, ∀ H_11 : Heap, J_10 all4' at5' H_11 →
 CallsH Try.prog 24 #[r3] H_11 fun x197 H_12 =>
 pLen all4' fun x199 =>
 pSub x199 at5' fun x201 =>
 pNe 0 x197 x201 fun x202 =>
 pCond x202
 (R (.bool false) H_12)
 (pAdd i6 (.int .i64 1) fun x29 =>
 I_3 all4' at5' x29 H_12 ∧ m_4 all4' at5' x29 H_12 < m_4 all4 at5 i6 H_5)) ∧
 pFieldAddr 0 x7 fun x38 =>
 pLoad H_9 x38 fun x39 =>
 pRem x39 (.int .i64 6) fun x40 =>
 pAdd x40 (.int .i64 6) fun x41 =>
 pRem x41 (.int .i64 6) fun x42 =>
 ∃ J_13 : Value → Heap → Prop, (∀ _ : Env, ∀ x73 : Value, ∀ H_14 : Heap, J_13 x73 H_14 →
 pCond x73
 (pFieldAddr 3 x7 fun x76 =>
 pLoad H_14 x76 fun x77 =>
 pFieldAddr 3 x7 fun x78 =>
 pLoad H_14 x78 fun x79 =>
 pLenS x79 fun x80 =>
 pMin x80 (.int .i64 30) fun x81 =>
 pSlStr x77 none (some x81) fun x82 =>
 CallsH Try.prog 23 #[r3, x82] H_14 fun x84 H_15 =>
 CallsH Try.prog 27 #[x82] H_15 fun x87 H_16 =>
 pAppend H_16 3 1 8 [(.int .i64 0)] all4 x87 fun x88 H_17 =>
 J_10 x88 at5 H_17)
 (pEq 0 x42 (.int .i64 2) fun x90 =>
 pCond x90
 (pFieldAddr 2 x7 fun x92 =>
 pLoad H_14 x92 fun x93 =>
 CallsH Try.prog 30 #[r3, x93] H_14 fun x94 H_18 =>
 pExtract 0 x94 fun x95 =>
 pExtract 1 x94 fun x96 =>
 pFieldAddr 2 x7 fun x97 =>
 pLoad H_18 x97 fun x98 =>
 pGe x98 (.int .i64 0) fun x99 =>
 pAnd x99 (fun J_19 =>
 pFieldAddr 2 x7 fun x101 =>
 pLoad H_18 x101 fun x102 =>
 pLe x102 (.int .i64 32) fun x103 =>
 J_19 x103 H_18) H_18 fun x104 H_20 => ∀ _ : Env,
 pAnd x104 (fun J_21 =>
 pFieldAddr 2 x7 fun x106 =>
 pLoad H_20 x106 fun x107 =>
 pLe x107 x37 fun x109 =>
 J_21 x109 H_20) H_20 fun x110 H_22 => ∀ _ : Env,
 pNe 2 x96 x110 fun x113 =>
 pOr x113 (fun J_23 =>
 pAnd x110 (fun J_25 =>
 pFieldAddr 2 x7 fun x121 =>
 pLoad H_22 x121 fun x122 =>
 pAdd at5 x122 fun x123 =>
 pSlSl 1 all4 (some at5) (some x123) fun x124 =>
 CallsH Try.prog 31 #[x124] H_22 fun x125 H_27 =>
 pNe 0 x95 x125 fun x126 =>
 J_25 x126 H_27) H_22 fun x127 H_26 => ∀ _ : Env,
 J_23 x127 H_26) H_22 fun x128 H_24 => ∀ _ : Env,
 pOr x128 (fun J_28 =>
 pNot x110 fun x131 =>
 pAnd x131 (fun J_30 =>
 pNe 0 x95 (.int .u64 0) fun x134 =>
 J_30 x134 H_24) H_24 fun x135 H_31 => ∀ _ : Env,
 J_28 x135 H_31) H_24 fun x136 H_29 => ∀ _ : Env,
 pCond x136
 (R (.bool false) H_29)
 (J_10 all4 at5 H_29))
 (pEq 0 x42 (.int .i64 3) fun x138 =>
 pCond x138
 (pFieldAddr 2 x7 fun x140 =>
 pLoad H_14 x140 fun x141 =>
 CallsH Try.prog 22 #[r3, x141] H_14 fun x142 H_32 =>
 pExtract 0 x142 fun x143 =>
 pExtract 1 x142 fun x144 =>
 pFieldAddr 2 x7 fun x145 =>
 pLoad H_32 x145 fun x146 =>
 pGe x146 (.int .i64 0) fun x147 =>
 pAnd x147 (fun J_33 =>
 pFieldAddr 2 x7 fun x149 =>
 pLoad H_32 x149 fun x150 =>
 pLe x150 (.int .i64 32) fun x151 =>
 J_33 x151 H_32) H_32 fun x152 H_34 => ∀ _ : Env,
 pAnd x152 (fun J_35 =>
 pFieldAddr 2 x7 fun x154 =>
 pLoad H_34 x154 fun x155 =>
 pLe x155 x37 fun x157 =>
 J_35 x157 H_34) H_34 fun x158 H_36 => ∀ _ : Env,
 pNe 2 x144 x158 fun x161 =>
 pOr x161 (fun J_37 =>
 pAnd x158 (fun J_39 =>
 pFieldAddr 2 x7 fun x169 =>
 pLoad H_36 x169 fun x170 =>
 pAdd at5 x170 fun x171 =>
 pSlSl 1 all4 (some at5) (some x171) fun x172 =>
 CallsH Try.prog 31 #[x172] H_36 fun x173 H_41 =>
 pNe 0 x143 x173 fun x174 =>
 J_39 x174 H_41) H_36 fun x175 H_40 => ∀ _ : Env,
 J_37 x175 H_40) H_36 fun x176 H_38 => ∀ _ : Env,
 pOr x176 (fun J_42 =>
 pNot x158 fun x179 =>
 pAnd x179 (fun J_44 =>
 pNe 0 x143 (.int .u64 0) fun x182 =>
 J_44 x182 H_38) H_38 fun x183 H_45 => ∀ _ : Env,
 J_42 x183 H_45) H_38 fun x184 H_43 => ∀ _ : Env,
 pCond x184
 (R (.bool false) H_43)
 (pCond x158
 (pFieldAddr 2 x7 fun x187 =>
 pLoad H_43 x187 fun x188 =>
 pAdd at5 x188 fun x189 =>
 J_10 all4 x189 H_43)
 (J_10 all4 at5 H_43)))
 (pEq 0 x42 (.int .i64 4) fun x191 =>
 pCond x191
 (CallsH Try.prog 32 #[r3] H_14 fun x192 H_46 =>
 pAdd at5 (.int .i64 7) fun x194 =>
 pQuo x194 (.int .i64 8) fun x195 =>
 pMul x195 (.int .i64 8) fun x196 =>
 J_10 all4 x196 H_46)
 (pFieldAddr 2 x7 fun x43 =>
 pLoad H_14 x43 fun x44 =>
 CallsH Try.prog 33 #[r3, x44] H_14 fun x45 H_47 =>
 pAdd at5 (.int .i64 7) fun x47 =>
 pQuo x47 (.int .i64 8) fun x48 =>
 pMul x48 (.int .i64 8) fun x49 =>
 pFieldAddr 2 x7 fun x50 =>
 pLoad H_47 x50 fun x51 =>
 pLen all4 fun x53 =>
 pSub x53 x49 fun x55 =>
 pQuo x55 (.int .i64 8) fun x56 =>
 pMin x51 x56 fun x57 =>
 pMax x57 (.int .i64 0) fun x58 =>
 pMul (.int .i64 8) x58 fun x64 =>
 pAdd x49 x64 fun x65 =>
 pSlSl 1 all4 (some x49) (some x65) fun x66 =>
 CallsH Try.prog 28 #[x66] H_47 fun x67 H_48 =>
 pNe 1 x45 x67 fun x68 =>
 pCond x68
 (R (.bool false) H_48)
 (pMul (.int .i64 8) x58 fun x71 =>
 pAdd x49 x71 fun x72 =>
 J_10 all4 x72 H_48)))))) ∧
 pEq 0 x42 (.int .i64 0) fun x74 =>
 pCond x74
 (J_13 x74 H_9)
 (pEq 0 x42 (.int .i64 1) fun x75 =>
 J_13 x75 H_9))
 (R (.bool true) H_7))
set_option maxRecDepth 100000 in
theorem lighterlaw01_BitsReads.vc (l0 : Value) (H0 : Heap) (R : Value → Heap → Prop) (h : lighterlaw01_BitsReads.res l0 H0 R) : CallsH Try.prog 8 #[l0] H0 R := by
  have e : vcFn Try.prog Try.C Try.f8 lighterlaw01_BitsReads.an [l0] H0 R = lighterlaw01_BitsReads.res l0 H0 R := by kernel_rfl
  exact vcFn_sound Try.callable Try.mixed Try.func8 (by kernel_rfl) (e.mpr h)

def lighterlaw01_BitsNumbers.an : Ann := (.seq (.reg (.op 0 [] .nil)) (.seq (.seq (.reg (.op 0 [] (.op 1 [] .nil))) (.cond (.seq (.reg (.op 0 [] .nil)) .leaf) .leaf)) (.seq (.reg (.op 0 [] (.op 1 [] (.op 2 [] (.op 3 [] (.op 4 [] (.op 5 [] .nil))))))) (.seq (.reg (.op 0 [] (.op 1 [] (.op 2 [] (.op 3 [] .nil))))) (.seq (.seq (.reg (.op 0 [] (.op 1 [] (.op 2 [] (.op 3 [] (.op 4 [] (.op 5 [] (.grp 5 (.op 6 [] (.op 7 [] (.op 8 [] (.op 9 [] (.op 10 [] .nil))))) 11 (.op 12 [] (.grp 12 (.op 13 [] (.op 14 [] (.op 15 [] (.grp 15 (.op 16 [] (.op 17 [] .nil)) 18 (.op 19 [] (.grp 19 (.op 20 [] (.op 21 [] (.op 22 [] (.op 23 [] (.op 24 [] .nil))))) 25 .nil)))))) 26 .nil)))))))))) (.cond (.seq (.reg (.op 0 [] .nil)) .leaf) .leaf)) (.seq (.reg (.op 0 [] .nil)) (.seq (.reg (.op 0 [] .nil)) (.seq (.reg (.op 0 [] (.op 1 [] (.op 2 [] .nil)))) (.seq (.reg (.op 0 [] (.op 1 [] (.op 2 [] .nil)))) (.seq (.reg (.op 0 [] (.op 1 [] .nil))) (.seq (.reg (.op 0 [] (.op 1 [] (.op 2 [] .nil)))) (.seq (.reg (.op 0 [] (.op 1 [] .nil))) (.seq (.reg (.op 0 [] (.op 1 [] (.op 2 [] (.op 3 [] (.op 4 [] (.op 5 [] (.op 6 [] .nil)))))))) (.seq (.reg (.op 0 [] (.op 1 [] (.op 2 [] (.op 3 [] (.op 4 [] (.op 5 [] (.op 6 [] .nil)))))))) (.seq (.reg (.op 0 [] (.op 1 [] (.op 2 [] (.op 3 [] (.grp 3 (.op 4 [] (.op 5 [] (.op 6 [] .nil))) 7 (.op 8 [] (.grp 8 (.op 9 [] (.op 10 [] (.op 11 [] .nil))) 12 (.op 13 [] (.grp 13 (.op 14 [] (.op 15 [] .nil)) 16 (.op 17 [] (.grp 17 (.op 18 [] (.op 19 [] .nil)) 20 (.op 21 [] (.grp 21 (.op 22 [] (.op 23 [] (.op 24 [] .nil))) 25 (.op 26 [] .nil))))))))))))))) .leaf)))))))))))))))
/-- lighter/lighterlaw01.BitsNumbers -/
def lighterlaw01_BitsNumbers.res (n0 : Value) (size1 : Value) (s2 : Value) (H0 : Heap) (R : Value → Heap → Prop) : Prop :=
 CallsH Try.prog 18 #[] H0 fun x14 H_1 =>
 pNot x14 fun x15 =>
 pCond x15
 (R (.bool false) H_1)
 (pLenS s2 fun x18 =>
 pMin x18 (.int .i64 12) fun x19 =>
 pSlStr s2 none (some x19) fun x20 =>
 CallsH Try.prog 34 #[n0, size1] H_1 fun x23 H_2 =>
 CallsH Try.prog 35 #[n0, size1] H_2 fun x27 H_3 =>
 pNe 1 x23 x27 fun x28 =>
 pOr x28 (fun J_4 =>
 CallsH Try.prog 36 #[x20] H_3 fun x31 H_6 =>
 CallsH Try.prog 37 #[x20] H_6 fun x33 H_7 =>
 pNe 0 x31 x33 fun x34 =>
 J_4 x34 H_7) H_3 fun x35 H_5 => ∀ _ : Env,
 pOr x35 (fun J_8 =>
 pGe size1 (.int .i64 1) fun x38 =>
 pAnd x38 (fun J_10 =>
 pLe size1 (.int .i64 8) fun x41 =>
 J_10 x41 H_5) H_5 fun x42 H_11 => ∀ _ : Env,
 pAnd x42 (fun J_12 =>
 CallsH Try.prog 36 #[x23] H_11 fun x45 H_14 =>
 CallsH Try.prog 37 #[x23] H_14 fun x47 H_15 =>
 pNe 0 x45 x47 fun x48 =>
 J_12 x48 H_15) H_11 fun x49 H_13 => ∀ _ : Env,
 J_8 x49 H_13) H_5 fun x50 H_9 => ∀ _ : Env,
 pCond x50
 (R (.bool false) H_9)
 (CallsH Try.prog 19 #[(.pointer none), n0, (.int .i64 3)] H_9 fun x53 H_16 =>
 CallsH Try.prog 26 #[(.pointer none), x20] H_16 fun x56 H_17 =>
 CallsH Try.prog 20 #[(.pointer none)] H_17 fun x58 H_18 =>
 CallsH Try.prog 23 #[(.pointer none), x20] H_18 fun x61 H_19 =>
 CallsH Try.prog 32 #[(.pointer none)] H_19 fun x63 H_20 =>
 CallsH Try.prog 22 #[(.pointer none), (.int .i64 0)] H_20 fun x66 H_21 =>
 pExtract 0 x66 fun x67 =>
 pExtract 1 x66 fun x68 =>
 CallsH Try.prog 30 #[(.pointer none), (.int .i64 0)] H_21 fun x71 H_22 =>
 pExtract 0 x71 fun x72 =>
 pExtract 1 x71 fun x73 =>
 CallsH Try.prog 29 #[(.pointer none)] H_22 fun x75 H_23 =>
 pEq 0 x75 (.int .i64 0) fun x76 =>
 pAnd x76 (fun J_24 =>
 CallsH Try.prog 21 #[(.pointer none)] H_23 fun x79 H_26 =>
 pEq 1 x79 (str []) fun x80 =>
 J_24 x80 H_26) H_23 fun x81 H_25 => ∀ _ : Env,
 pAnd x81 (fun J_27 =>
 CallsH Try.prog 24 #[(.pointer none)] H_25 fun x84 H_29 =>
 pEq 0 x84 (.int .i64 0) fun x85 =>
 J_27 x85 H_29) H_25 fun x86 H_28 => ∀ _ : Env,
 pAnd x86 (fun J_30 =>
 pNot x68 fun x89 =>
 J_30 x89 H_28) H_28 fun x90 H_31 => ∀ _ : Env,
 pAnd x90 (fun J_32 =>
 pNot x73 fun x93 =>
 J_32 x93 H_31) H_31 fun x94 H_33 => ∀ _ : Env,
 pAnd x94 (fun J_34 =>
 CallsH Try.prog 33 #[(.pointer none), (.int .i64 3)] H_33 fun x97 H_36 =>
 pEq 1 x97 (str []) fun x98 =>
 J_34 x98 H_36) H_33 fun x99 H_35 => ∀ _ : Env,
 R x99 H_35))
set_option maxRecDepth 100000 in
theorem lighterlaw01_BitsNumbers.vc (n0 : Value) (size1 : Value) (s2 : Value) (H0 : Heap) (R : Value → Heap → Prop) (h : lighterlaw01_BitsNumbers.res n0 size1 s2 H0 R) : CallsH Try.prog 9 #[n0, size1, s2] H0 R := by
  have e : vcFn Try.prog Try.C Try.f9 lighterlaw01_BitsNumbers.an [n0, size1, s2] H0 R = lighterlaw01_BitsNumbers.res n0 size1 s2 H0 R := by kernel_rfl
  exact vcFn_sound Try.callable Try.mixed Try.func9 (by kernel_rfl) (e.mpr h)

def lighterlaw01_speaks.an : Ann := (.seq (.reg (.op 0 [] .nil)) (.seq (.reg (.op 0 [] .nil)) (.seq (.reg (.op 0 [] .nil)) (.seq (.reg (.op 0 [] .nil)) (.seq (.reg (.op 0 [] .nil)) (.seq (.reg (.op 0 [] .nil)) (.seq (.reg (.op 0 [] .nil)) (.seq (.reg (.op 0 [] (.op 1 [] (.op 2 [] (.op 3 [] (.op 4 [] (.op 5 [] .nil))))))) (.seq (.reg (.op 0 [] (.op 1 [] (.op 2 [] (.grp 2 (.op 3 [] (.op 4 [] .nil)) 5 (.op 6 [] (.grp 6 (.op 7 [] .nil) 8 (.op 9 [] (.grp 9 (.op 10 [] (.op 11 [] .nil)) 12 (.op 13 [] (.grp 13 (.op 14 [] (.op 15 [] .nil)) 16 (.op 17 [] (.grp 17 (.op 18 [] (.op 19 [] .nil)) 20 (.op 21 [] .nil)))))))))))))) .leaf)))))))))
/-- lighter/lighterlaw01.speaks -/
def lighterlaw01_speaks.res (H0 : Heap) (R : Value → Heap → Prop) : Prop :=
 pBox H0 38 (.agg #[(.slice none 0 0), (.int .u64 0), (.int .i64 0)]) fun w1 H_1 =>
 CallsH Try.prog 19 #[w1, (.int .u64 5), (.int .i64 3)] H_1 fun x5 H_2 =>
 CallsH Try.prog 19 #[w1, (.int .u64 1), (.int .i64 1)] H_2 fun x6 H_3 =>
 CallsH Try.prog 20 #[w1] H_3 fun x7 H_4 =>
 pBox H_4 43 (.agg #[(str []), (.int .u64 0), (.int .i64 0)]) fun r2 H_5 =>
 CallsH Try.prog 23 #[r2, (str [13])] H_5 fun x8 H_6 =>
 CallsH Try.prog 22 #[r2, (.int .i64 3)] H_6 fun x10 H_7 =>
 pExtract 0 x10 fun x11 =>
 pExtract 1 x10 fun x12 =>
 CallsH Try.prog 29 #[w1] H_7 fun x13 H_8 =>
 pEq 0 x13 (.int .i64 8) fun x14 =>
 pAnd x14 (fun J_9 =>
 CallsH Try.prog 21 #[w1] H_8 fun x16 H_11 =>
 pEq 1 x16 (str [13]) fun x17 =>
 J_9 x17 H_11) H_8 fun x18 H_10 => ∀ _ : Env,
 pAnd x18 (fun J_12 =>
 J_12 x12 H_10) H_10 fun x21 H_13 => ∀ _ : Env,
 pAnd x21 (fun J_14 =>
 pEq 0 x11 (.int .u64 5) fun x24 =>
 J_14 x24 H_13) H_13 fun x25 H_15 => ∀ _ : Env,
 pAnd x25 (fun J_16 =>
 CallsH Try.prog 24 #[r2] H_15 fun x27 H_18 =>
 pEq 0 x27 (.int .i64 5) fun x28 =>
 J_16 x28 H_18) H_15 fun x29 H_17 => ∀ _ : Env,
 pAnd x29 (fun J_19 =>
 CallsH Try.prog 34 #[(.int .u64 258), (.int .i64 2)] H_17 fun x31 H_21 =>
 pEq 1 x31 (str [2, 1]) fun x32 =>
 J_19 x32 H_21) H_17 fun x33 H_20 => ∀ _ : Env,
 R x33 H_20
set_option maxRecDepth 100000 in
theorem lighterlaw01_speaks.vc (H0 : Heap) (R : Value → Heap → Prop) (h : lighterlaw01_speaks.res H0 R) : CallsH Try.prog 18 #[] H0 R := by
  have e : vcFn Try.prog Try.C Try.f18 lighterlaw01_speaks.an [] H0 R = lighterlaw01_speaks.res H0 R := by kernel_rfl
  exact vcFn_sound Try.callable Try.mixed Try.func18 (by kernel_rfl) (e.mpr h)

end Go.Proofs.Ytppaiehkjdidiaa
