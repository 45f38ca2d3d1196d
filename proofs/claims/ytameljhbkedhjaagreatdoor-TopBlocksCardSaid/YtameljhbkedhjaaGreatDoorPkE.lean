/- Part 5 of the proof of RowTopBlocks: what it is built on, in the order of its needs. -/
import Derived.Test.YtameljhbkedhjaaGreatDoorPkD
namespace Go.Proofs.YtameljhbkedhjaaGreatDoor
open Go Go.Vc Go.Proofs
set_option linter.unusedVariables false
set_option maxHeartbeats 4000000
def lightertop_TopBlocks.an : Ann := (.seq (.reg (.op 0 [] .nil)) (.seq (.seq (.reg (.op 0 [] (.op 1 [] .nil))) (.cond (.seq (.reg (.op 0 [] .nil)) .leaf) .leaf)) (.seq (.reg (.op 0 [] .nil)) (.seq (.reg (.op 0 [] .nil)) (.seq (.seq (.reg (.op 0 [] .nil)) (.block (.loop [6, 7] [4, 6, 7, 8, 9, 10, 11, 12, 21, 22, 23, 24, 25, 26, 27, 28, 29, 30, 31, 32, 33, 34, 35, 36, 37, 38, 39, 40, 41, 42, 43, 44, 45, 46, 47, 48, 49, 50, 51, 52, 53, 54, 55, 56, 57, 58, 59, 60, 61, 62, 63, 64, 65, 66, 67, 68, 69, 70, 71, 72, 73, 74, 75, 76, 77, 78, 79, 80, 81, 82, 83, 84, 85, 86, 87, 88, 89, 90, 91, 92, 93, 94, 95, 96, 97, 98, 99, 100, 101, 102, 103, 104, 105, 106, 107, 108, 109, 110, 111, 112] (.seq (.seq (.reg (.op 0 [] (.op 1 [] (.op 2 [] (.op 3 [] (.op 4 [] (.grp 4 (.op 5 [] (.op 6 [] .nil)) 7 .nil))))))) (.cond .leaf .leaf)) (.seq (.block (.seq (.drw [0, 0, 3, 7, 15, 0, 0, 96, 224, 480, 992, 2016, 4095, 8191] (.op 0 [] (.op 1 [] (.op 2 [] (.op 3 [] (.op 4 [] (.op 5 [] (.op 6 [] (.op 7 [] (.op 8 [] (.op 9 [] (.op 10 [] (.op 11 [] (.op 12 [] (.op 13 [] .nil))))))))))))))) (.seq (.reg (.op 0 [] .nil)) (.seq (.seq (.reg (.op 0 [] .nil)) (.block (.loop [9, 10] [9, 10, 44, 45, 46, 47, 48, 49, 50, 51, 52, 53, 54, 55, 56] (.seq (.seq (.reg (.op 0 [] (.op 1 [] (.op 2 [] (.op 3 [] .nil))))) (.cond .leaf .leaf)) (.seq (.block (.reg (.op 0 [] (.op 1 [] (.op 2 [] (.op 3 [] (.op 4 [] (.op 5 [] (.op 6 [] (.op 7 [] .nil)))))))))) (.reg (.op 0 [] (.op 1 [] (.op 2 [] .nil))))))))) (.cut [8, 9] [8, 9, 11, 12, 57, 58, 59, 60, 61, 62, 63, 64, 65, 66, 67, 68, 69, 70, 71, 72, 73, 74, 75, 76, 77, 78, 79, 80, 81, 82, 83, 84, 85, 86, 87, 88, 89, 90, 91, 92, 93, 94, 95, 96, 97, 98] (.seq (.reg (.op 0 [] (.op 1 [] (.op 2 [] (.op 3 [] .nil))))) (.seq (.reg (.op 0 [] (.op 1 [] (.op 2 [] (.op 3 [] (.op 4 [] (.op 5 [] (.op 6 [] (.op 7 [] (.grp 7 (.op 8 [] (.op 9 [] (.op 10 [] (.op 11 [] (.op 12 [] (.op 13 [] (.op 14 [] (.op 15 [] .nil)))))))) 16 (.op 17 [] (.grp 17 (.op 18 [] (.op 19 [] (.op 20 [] .nil))) 21 .nil)))))))))))) (.cond (.seq (.reg (.op 0 [] (.op 1 [] (.op 2 [] (.op 3 [] .nil))))) (.seq (.reg (.op 0 [] (.op 1 [] (.op 2 [] (.op 3 [] (.op 4 [] (.op 5 [] (.op 6 [] .nil)))))))) (.reg (.op 0 [] (.op 1 [] (.op 2 [] (.op 3 [] (.op 4 [] (.op 5 [] (.op 6 [] (.op 7 [] (.op 8 [] .nil)))))))))))) .leaf))) (.seq (.seq (.reg (.op 0 [] (.op 1 [] (.op 2 [] (.op 3 [] (.op 4 [] (.op 5 [] (.op 6 [] (.op 7 [] (.op 8 [] (.op 9 [] (.op 10 [] .nil)))))))))))) (.cond (.seq (.reg (.op 0 [] .nil)) .leaf) .leaf)) (.reg (.op 0 [] (.op 1 [] (.op 2 [] (.op 3 [] .nil))))))))))) (.reg (.op 0 [] (.op 1 [] (.op 2 [] .nil))))))))) (.seq (.reg (.op 0 [] .nil)) (.seq (.reg (.op 0 [] .nil)) (.seq (.reg (.op 0 [] (.op 1 [] .nil))) (.seq (.reg (.op 0 [] (.op 1 [] (.op 2 [] (.op 3 [] .nil))))) (.seq (.reg (.op 0 [] (.op 1 [] .nil))) (.seq (.reg (.op 0 [] .nil)) (.seq (.seq (.reg (.op 0 [] .nil)) (.block (.loop [15, 16] [4, 15, 16, 17, 18, 120, 121, 122, 123, 124, 125, 126, 127, 128, 129, 130, 131, 132, 133, 134, 135, 136, 137, 138, 139, 140, 141, 142, 143, 144, 145] (.seq (.seq (.reg (.op 0 [] (.op 1 [] (.op 2 [] (.op 3 [] .nil))))) (.cond .leaf .leaf)) (.seq (.block (.seq (.reg (.op 0 [] (.op 1 [] (.op 2 [] (.op 3 [] (.op 4 [] (.op 5 [] (.op 6 [] (.op 7 [] (.op 8 [] (.op 9 [] (.op 10 [] (.op 11 [] (.op 12 [] (.op 13 [] (.op 14 [] (.op 15 [] .nil))))))))))))))))) (.seq (.seq (.reg (.op 0 [] (.op 1 [] .nil))) (.cond (.seq (.reg (.op 0 [] .nil)) .leaf) .leaf)) (.reg (.op 0 [] (.op 1 [] (.op 2 [] (.op 3 [] .nil)))))))) (.reg (.op 0 [] (.op 1 [] (.op 2 [] (.op 3 [] .nil)))))))))) (.seq (.reg (.op 0 [] (.op 1 [] (.op 2 [] (.grp 2 (.op 3 [] (.op 4 [] (.op 5 [] .nil))) 6 (.op 7 [] .nil)))))) .leaf)))))))))))))
def lightertop_TopBlocks.res (l0 : Value) (cut1 : Value) (H0 : Heap) (R : Value → Heap → Prop) : Prop :=
 CallsH Tryz.prog 5 #[] H0 fun x19 H_1 =>
 pNot x19 fun x20 =>
 pCond x20
 (R (.bool false) H_1)
 (pBox H_1 27 (.agg #[(.slice none 0 0), (.int .u64 0), (.int .i64 0)]) fun w5 H_2 =>
 ∃ (I_3 : Value → Value → Heap → Prop) (m_4 : Value → Value → Heap → Nat), I_3 (str []) (.int .i64 0) H_2 ∧
 ∀ _ : Env, ∀ want6 : Value, ∀ i7 : Value, ∀ H_5 : Heap, I_3 want6 i7 H_5 →
 pLen l0 fun x23 =>
 pLt i7 x23 fun x24 =>
 pAnd x24 (fun J_6 =>
 pLt i7 (.int .i64 12) fun x27 =>
 J_6 x27 H_5) H_5 fun x28 H_7 => ∀ _ : Env,
 pCond x28
 (pIdxSl 2 l0 i7 fun x33 =>
 pFieldAddr 0 x33 fun x34 =>
 pLoad H_7 x34 fun x35 =>
 pIdxSl 2 l0 i7 fun x38 =>
 pFieldAddr 0 x38 fun x39 =>
 pLoad H_7 x39 fun x40 =>
 pLenS x40 fun x41 =>
 pMin x41 (.int .i64 200) fun x42 =>
 pSlStr x35 none (some x42) fun x43 =>
 ∃ (I_8 : Value → Value → Heap → Prop) (m_9 : Value → Value → Heap → Nat), I_8 (.slice none 0 0) (.int .i64 0) H_7 ∧
 ∀ _ : Env, ∀ t9 : Value, ∀ k10 : Value, ∀ H_10 : Heap, I_8 t9 k10 H_10 →
 pLenS x43 fun x46 =>
 pLt k10 x46 fun x47 =>
 pCond x47
 (pIdxStr x43 k10 fun x53 =>
 pBuild [(.int .u8 0), (.int .i64 0), (.int .i64 0)] [(0, 1, x53)] fun x54 =>
 pBuildSl H_10 32 1 [(.int .u8 0), (.int .i64 0), (.int .i64 0)] [(0, 3, x54)] fun x55 H_11 =>
 pAppend H_11 32 3 24 [(.int .u8 0), (.int .i64 0), (.int .i64 0)] t9 x55 fun x56 H_12 =>
 pAdd k10 (.int .i64 1) fun x49 =>
 I_8 x56 x49 H_12 ∧ m_9 x56 x49 H_12 < m_9 t9 k10 H_10)
 (∃ J_13 : Value → Value → Heap → Prop, (∀ _ : Env, ∀ s8 : Value, ∀ t9' : Value, ∀ H_14 : Heap, J_13 s8 t9' H_14 →
 pIdxSl 2 l0 i7 fun x101 =>
 pFieldAddr 1 x101 fun x102 =>
 pLoad H_14 x102 fun x103 =>
 pBits .and x103 (.int .i64 3) fun x104 =>
 pRem x104 (.int .i64 3) fun x105 =>
 CallsH Tryz.prog 6 #[w5, x105, (.bool false), s8, t9'] H_14 fun x108 H_15 =>
 pNe 0 x108 (.int .i64 0) fun x109 =>
 pCond x109
 (R (.bool false) H_15)
 (pAdd want6 s8 fun x112 =>
 pAdd i7 (.int .i64 1) fun x30 =>
 I_3 x112 x30 H_15 ∧ m_4 x112 x30 H_15 < m_4 want6 i7 H_5)) ∧
 pAdd want6 x43 fun x59 =>
 pIdxSl 2 l0 i7 fun x62 =>
 pFieldAddr 1 x62 fun x63 =>
 pLoad H_10 x63 fun x64 =>
 pBits .and x64 (.int .i64 8) fun x65 =>
 pGt x65 (.int .i64 0) fun x66 =>
 pAnd x66 (fun J_16 =>
 pIdxSl 2 l0 i7 fun x70 =>
 pFieldAddr 1 x70 fun x71 =>
 pLoad H_10 x71 fun x72 =>
 pBits .and x72 (.int .i64 3) fun x73 =>
 pRem x73 (.int .i64 3) fun x74 =>
 pGt x74 (.int .i64 0) fun x75 =>
 J_16 x75 H_10) H_10 fun x76 H_17 => ∀ _ : Env,
 pAnd x76 (fun J_18 =>
 pLenS x59 fun x79 =>
 pGe x79 (.int .i64 3) fun x80 =>
 J_18 x80 H_17) H_17 fun x81 H_19 => ∀ _ : Env,
 pCond x81
 (pLenS x59 fun x83 =>
 pMin x83 (.int .i64 258) fun x84 =>
 pBuild [(.int .u8 0), (.int .i64 0), (.int .i64 0)] [(1, 1, x84), (2, 1, x84)] fun x88 =>
 pBuildSl H_19 32 1 [(.int .u8 0), (.int .i64 0), (.int .i64 0)] [(0, 3, x88)] fun x89 H_20 =>
 pAppend H_20 32 3 24 [(.int .u8 0), (.int .i64 0), (.int .i64 0)] t9 x89 fun x90 H_21 =>
 pLenS x59 fun x94 =>
 pSub x94 x84 fun x96 =>
 pSlStr x59 (some x96) none fun x97 =>
 pAdd x43 x97 fun x98 =>
 J_13 x98 x90 H_21)
 (J_13 x43 t9 H_19)))
 (CallsH Tryz.prog 6 #[w5, (.int .i64 1), (.bool true), (str []), (.slice none 0 0)] H_7 fun x113 H_22 =>
 CallsH Tryz.prog 7 #[w5] H_22 fun x114 H_23 =>
 CallsH Tryz.prog 8 #[w5] H_23 fun x115 H_24 =>
 pBits .and cut1 (.int .i64 31) fun x117 =>
 pAdd (.int .i64 1) x117 fun x118 =>
 CallsH Tryz.prog 9 #[] H_24 fun x119 H_25 =>
 ∃ (I_26 : Value → Value → Heap → Prop) (m_27 : Value → Value → Heap → Nat), I_26 (str []) (.int .i64 0) H_25 ∧
 ∀ _ : Env, ∀ got15 : Value, ∀ at16 : Value, ∀ H_28 : Heap, I_26 got15 at16 H_28 →
 pLenS x115 fun x122 =>
 pLt at16 x122 fun x123 =>
 pCond x123
 (pAdd at16 x118 fun x133 =>
 pLenS x115 fun x135 =>
 pMin x133 x135 fun x136 =>
 pSlStr x115 (some at16) (some x136) fun x137 =>
 CallsH Tryz.prog 10 #[x119, x137] H_28 fun x138 H_29 =>
 pExtract 0 x138 fun x139 =>
 pExtract 1 x138 fun x140 =>
 pNe 0 x140 (.int .i64 0) fun x142 =>
 pCond x142
 (R (.bool false) H_29)
 (pAdd got15 x139 fun x145 =>
 pAdd at16 x118 fun x126 =>
 I_26 x145 x126 H_29 ∧ m_27 x145 x126 H_29 < m_27 got15 at16 H_28))
 (CallsH Tryz.prog 11 #[x119] H_28 fun x147 H_30 =>
 pAnd x147 (fun J_31 =>
 pEq 1 got15 want6 fun x151 =>
 J_31 x151 H_30) H_30 fun x152 H_32 => ∀ _ : Env,
 R x152 H_32)))
set_option maxRecDepth 100000 in
theorem lightertop_TopBlocks.vc (l0 : Value) (cut1 : Value) (H0 : Heap) (R : Value → Heap → Prop) (h : lightertop_TopBlocks.res l0 cut1 H0 R) : CallsH Tryz.prog 3 #[l0, cut1] H0 R := by
  have e : vcFn Tryz.prog Tryz.C Tryz.f3 lightertop_TopBlocks.an [l0, cut1] H0 R = lightertop_TopBlocks.res l0 cut1 H0 R := by kernel_rfl
  exact vcFn_sound Tryz.callable Tryz.mixed Tryz.func3 (by kernel_rfl) (e.mpr h)
def lightertop_TopCodes.an : Ann := (.seq (.reg (.op 0 [] .nil)) (.seq (.seq (.reg (.op 0 [] (.op 1 [] .nil))) (.cond (.seq (.reg (.op 0 [] .nil)) .leaf) .leaf)) (.seq (.reg (.op 0 [] (.op 1 [] (.op 2 [] (.op 3 [] (.op 4 [] (.op 5 [] (.op 6 [] (.op 7 [] .nil))))))))) (.seq (.seq (.reg (.op 0 [] .nil)) (.block (.loop [3] [3, 25, 26, 27, 28, 29, 30, 31, 32, 33, 34, 35, 36] (.seq (.seq (.reg (.op 0 [] (.op 1 [] (.op 2 [] (.op 3 [] .nil))))) (.cond .leaf .leaf)) (.seq (.block (.reg (.op 0 [] (.op 1 [] (.op 2 [] (.op 3 [] (.op 4 [] (.op 5 [] (.op 6 [] .nil))))))))) (.reg (.op 0 [] (.op 1 [] (.op 2 [] .nil))))))))) (.seq (.reg (.op 0 [] (.op 1 [] (.op 2 [] (.op 3 [] (.op 4 [] (.op 5 [] (.op 6 [] .nil)))))))) (.seq (.reg (.op 0 [] (.op 1 [] (.op 2 [] (.op 3 [] (.op 4 [] (.op 5 [] (.op 6 [] .nil)))))))) (.seq (.seq (.reg (.op 0 [] (.op 1 [] (.op 2 [] (.grp 2 (.op 3 [] (.op 4 [] .nil)) 5 .nil))))) (.cond (.seq (.reg (.op 0 [] .nil)) .leaf) .leaf)) (.seq (.reg (.op 0 [] .nil)) (.seq (.reg (.op 0 [] .nil)) (.seq (.seq (.reg (.op 0 [] .nil)) (.block (.loop [9, 10] [9, 10, 11, 53, 54, 55, 56, 57, 58, 59, 60, 61, 62, 63, 64, 65, 66, 67, 68, 69, 70, 71, 72, 73] (.seq (.seq (.reg (.op 0 [] (.op 1 [] (.op 2 [] (.op 3 [] .nil))))) (.cond .leaf .leaf)) (.seq (.block (.seq (.reg (.op 0 [] .nil)) (.block (.loop [9, 11] [9, 11, 59, 60, 61, 62, 63, 64, 65, 66, 67, 68, 69, 70, 71, 72, 73] (.seq (.seq (.reg (.op 0 [] (.op 1 [] (.op 2 [] (.op 3 [] (.op 4 [] (.op 5 [] .nil))))))) (.cond .leaf .leaf)) (.seq (.block (.seq (.reg (.op 0 [] (.op 1 [] (.op 2 [] .nil)))) (.reg (.op 0 [] (.op 1 [] (.op 2 [] (.op 3 [] (.op 4 [] .nil)))))))) (.reg (.op 0 [] (.op 1 [] (.op 2 [] .nil)))))))))) (.reg (.op 0 [] (.op 1 [] (.op 2 [] .nil))))))))) (.seq (.seq (.reg (.op 0 [] (.op 1 [] (.op 2 [] (.op 3 [] (.op 4 [] .nil)))))) (.cond (.seq (.reg (.op 0 [] .nil)) .leaf) .leaf)) (.seq (.reg (.op 0 [] .nil)) (.seq (.reg (.op 0 [] .nil)) (.seq (.reg (.op 0 [] (.op 1 [] .nil))) (.seq (.seq (.reg (.op 0 [] .nil)) (.block (.loop [13] [2, 13, 14, 15, 82, 83, 84, 85, 86, 87, 88, 89, 90, 91, 92, 93, 94, 95, 96, 97, 98, 99, 100, 101, 102] (.seq (.seq (.reg (.op 0 [] (.op 1 [] (.op 2 [] (.op 3 [] .nil))))) (.cond .leaf .leaf)) (.seq (.block (.seq (.reg (.op 0 [] (.op 1 [] (.op 2 [] (.op 3 [] (.op 4 [] (.op 5 [] (.op 6 [] .nil)))))))) (.seq (.reg (.op 0 [] (.op 1 [] (.op 2 [] (.grp 2 (.op 3 [] (.op 4 [] (.op 5 [] (.op 6 [] (.op 7 [] (.op 8 [] .nil)))))) 9 .nil))))) (.cond (.seq (.reg (.op 0 [] .nil)) .leaf) .leaf)))) (.reg (.op 0 [] (.op 1 [] (.op 2 [] .nil))))))))) (.seq (.reg (.op 0 [] (.op 1 [] (.op 2 [] .nil)))) .leaf))))))))))))))))
def lightertop_TopCodes.res (counts0 : Value) (H0 : Heap) (R : Value → Heap → Prop) : Prop :=
 CallsH Tryz.prog 5 #[] H0 fun x16 H_1 =>
 pNot x16 fun x17 =>
 pCond x17
 (R (.bool false) H_1)
 (pBuildSl H_1 3 0 [] [] fun x18 H_2 =>
 pLen counts0 fun x21 =>
 pMin x21 (.int .i64 40) fun x22 =>
 pSlSl 1 counts0 none (some x22) fun x23 =>
 pAppend H_2 3 1 8 [(.int .i64 0)] x18 x23 fun x24 H_3 =>
 ∃ (I_4 : Value → Heap → Prop) (m_5 : Value → Heap → Nat), I_4 (.int .i64 0) H_3 ∧
 ∀ _ : Env, ∀ i3 : Value, ∀ H_6 : Heap, I_4 i3 H_6 →
 pLen x24 fun x27 =>
 pLt i3 x27 fun x28 =>
 pCond x28
 (pIdxSl 1 x24 i3 fun x33 =>
 pLoad H_6 x33 fun x34 =>
 pBits .and x34 (.int .i64 15) fun x35 =>
 pIdxSl 1 x24 i3 fun x36 =>
 pStore H_6 x36 x35 fun _ H_7 =>
 pAdd i3 (.int .i64 1) fun x30 =>
 I_4 x30 H_7 ∧ m_5 x30 H_7 < m_5 i3 H_6)
 (CallsH Tryz.prog 12 #[x24, (.int .i64 15)] H_6 fun x39 H_8 =>
 pExtract 0 x39 fun x40 =>
 pExtract 1 x39 fun x41 =>
 CallsH Tryz.prog 13 #[x40, (.bool true)] H_8 fun x44 H_9 =>
 pExtract 0 x44 fun x45 =>
 pExtract 1 x44 fun x46 =>
 pNe 0 x41 (.int .i64 0) fun x48 =>
 pOr x48 (fun J_10 =>
 pNe 0 x46 (.int .i64 0) fun x51 =>
 J_10 x51 H_9) H_9 fun x52 H_11 => ∀ _ : Env,
 pCond x52
 (R (.bool false) H_11)
 (pBox H_11 27 (.agg #[(.slice none 0 0), (.int .u64 0), (.int .i64 0)]) fun w8 H_12 =>
 ∃ (I_13 : Value → Value → Heap → Prop) (m_14 : Value → Value → Heap → Nat), I_13 (.slice none 0 0) (.int .i64 0) H_12 ∧
 ∀ _ : Env, ∀ all9 : Value, ∀ s10 : Value, ∀ H_15 : Heap, I_13 all9 s10 H_15 →
 pLen x24 fun x55 =>
 pLt s10 x55 fun x56 =>
 pCond x56
 (∃ (I_16 : Value → Value → Heap → Prop) (m_17 : Value → Value → Heap → Nat), I_16 all9 (.int .i64 0) H_15 ∧
 ∀ _ : Env, ∀ all9' : Value, ∀ i11 : Value, ∀ H_18 : Heap, I_16 all9' i11 H_18 →
 pIdxSl 1 x24 s10 fun x62 =>
 pLoad H_18 x62 fun x63 =>
 pLt i11 x63 fun x64 =>
 pCond x64
 (CallsH Tryz.prog 14 #[x45, w8, s10] H_18 fun x69 H_19 =>
 pBuildSl H_19 3 1 [(.int .i64 0)] [(0, 1, s10)] fun x72 H_20 =>
 pAppend H_20 3 1 8 [(.int .i64 0)] all9' x72 fun x73 H_21 =>
 pAdd i11 (.int .i64 1) fun x66 =>
 I_16 x73 x66 H_21 ∧ m_17 x73 x66 H_21 < m_17 all9' i11 H_18)
 (pAdd s10 (.int .i64 1) fun x58 =>
 I_13 all9' x58 H_18 ∧ m_14 all9' x58 H_18 < m_14 all9 s10 H_15))
 (CallsH Tryz.prog 15 #[w8] H_15 fun x74 H_22 =>
 CallsH Tryz.prog 16 #[x24, x40] H_22 fun x77 H_23 =>
 pNe 0 x74 x77 fun x78 =>
 pCond x78
 (R (.bool false) H_23)
 (CallsH Tryz.prog 7 #[w8] H_23 fun x79 H_24 =>
 pBox H_24 52 (.agg #[(str []), (.int .u64 0), (.int .i64 0)]) fun r12 H_25 =>
 CallsH Tryz.prog 8 #[w8] H_25 fun x80 H_26 =>
 CallsH Tryz.prog 17 #[r12, x80] H_26 fun x81 H_27 =>
 ∃ (I_28 : Value → Heap → Prop) (m_29 : Value → Heap → Nat), I_28 (.int .i64 0) H_27 ∧
 ∀ _ : Env, ∀ i13 : Value, ∀ H_30 : Heap, I_28 i13 H_30 →
 pLen all9 fun x84 =>
 pLt i13 x84 fun x85 =>
 pCond x85
 (CallsH Tryz.prog 18 #[x45, r12] H_30 fun x90 H_31 =>
 pExtract 0 x90 fun x91 =>
 pExtract 1 x90 fun x92 =>
 pNe 0 x92 (.int .i64 0) fun x94 =>
 pOr x94 (fun J_32 =>
 pIdxSl 1 all9 i13 fun x99 =>
 pLoad H_31 x99 fun x100 =>
 pNe 0 x91 x100 fun x101 =>
 J_32 x101 H_31) H_31 fun x102 H_33 => ∀ _ : Env,
 pCond x102
 (R (.bool false) H_33)
 (pAdd i13 (.int .i64 1) fun x87 =>
 I_28 x87 H_33 ∧ m_29 x87 H_33 < m_29 i13 H_30))
 (CallsH Tryz.prog 19 #[r12] H_30 fun x103 H_34 =>
 pLt x103 (.int .i64 8) fun x104 =>
 R x104 H_34))))))
set_option maxRecDepth 100000 in
theorem lightertop_TopCodes.vc (counts0 : Value) (H0 : Heap) (R : Value → Heap → Prop) (h : lightertop_TopCodes.res counts0 H0 R) : CallsH Tryz.prog 4 #[counts0] H0 R := by
  have e : vcFn Tryz.prog Tryz.C Tryz.f4 lightertop_TopCodes.an [counts0] H0 R = lightertop_TopCodes.res counts0 H0 R := by kernel_rfl
  exact vcFn_sound Tryz.callable Tryz.mixed Tryz.func4 (by kernel_rfl) (e.mpr h)
def lightertop_blocks.an : Ann := (.seq (.reg (.op 0 [] .nil)) (.seq (.reg (.op 0 [] .nil)) (.seq (.reg (.op 0 [] (.op 1 [] (.op 2 [] (.op 3 [] .nil))))) (.seq (.reg (.op 0 [] .nil)) (.seq (.reg (.op 0 [] (.op 1 [] (.op 2 [] (.op 3 [] (.op 4 [] (.op 5 [] (.op 6 [] (.op 7 [] (.op 8 [] .nil)))))))))) (.seq (.reg (.op 0 [] (.op 1 [] (.op 2 [] (.grp 2 (.op 3 [] (.op 4 [] .nil)) 5 (.op 6 [] (.grp 6 (.op 7 [] (.op 8 [] .nil)) 9 (.op 10 [] (.grp 10 (.op 11 [] (.op 12 [] .nil)) 13 (.op 14 [] .nil)))))))))) .leaf))))))
def lightertop_blocks.res (H0 : Heap) (R : Value → Heap → Prop) : Prop :=
 pBox H0 27 (.agg #[(.slice none 0 0), (.int .u64 0), (.int .i64 0)]) fun w1 H_1 =>
 pBuild [(.int .u8 0), (.int .i64 0), (.int .i64 0)] [(0, 1, (.int .u8 97))] fun x6 =>
 pBuildSl H_1 32 1 [(.int .u8 0), (.int .i64 0), (.int .i64 0)] [(0, 3, x6)] fun x7 H_2 =>
 CallsH Tryz.prog 6 #[w1, (.int .i64 2), (.bool true), (str [97]), x7] H_2 fun x8 H_3 =>
 CallsH Tryz.prog 7 #[w1] H_3 fun x9 H_4 =>
 CallsH Tryz.prog 8 #[w1] H_4 fun x11 H_5 =>
 CallsH Tryz.prog 20 #[x11] H_5 fun x12 H_6 =>
 pExtract 0 x12 fun x13 =>
 pExtract 1 x12 fun x14 =>
 pExtract 2 x12 fun x15 =>
 pEq 0 x8 (.int .i64 0) fun x17 =>
 pAnd x17 (fun J_7 =>
 pEq 0 x15 (.int .i64 0) fun x20 =>
 J_7 x20 H_6) H_6 fun x21 H_8 => ∀ _ : Env,
 pAnd x21 (fun J_9 =>
 pEq 1 x13 (str [97]) fun x24 =>
 J_9 x24 H_8) H_8 fun x25 H_10 => ∀ _ : Env,
 pAnd x25 (fun J_11 =>
 pEq 1 x14 (str []) fun x28 =>
 J_11 x28 H_10) H_10 fun x29 H_12 => ∀ _ : Env,
 R x29 H_12
set_option maxRecDepth 100000 in
theorem lightertop_blocks.vc (H0 : Heap) (R : Value → Heap → Prop) (h : lightertop_blocks.res H0 R) : CallsH Tryz.prog 5 #[] H0 R := by
  have e : vcFn Tryz.prog Tryz.C Tryz.f5 lightertop_blocks.an [] H0 R = lightertop_blocks.res H0 R := by kernel_rfl
  exact vcFn_sound Tryz.callable Tryz.mixed Tryz.func5 (by kernel_rfl) (e.mpr h)
def block_Write.an : Ann := (.seq (.reg (.op 0 [] .nil)) (.seq (.seq (.reg (.op 0 [] (.op 1 [] (.op 2 [] (.grp 2 (.op 3 [] (.op 4 [] (.op 5 [] (.op 6 [] (.op 7 [] .nil))))) 8 .nil))))) (.cond (.seq (.reg (.op 0 [] .nil)) .leaf) .leaf)) (.seq (.reg (.op 0 [] (.op 1 [] (.op 2 [] (.op 3 [] .nil))))) (.cut [11] [11, 25, 26, 27] (.seq (.reg (.op 0 [] .nil)) (.cond (.reg (.op 0 [] (.op 1 [] (.op 2 [] .nil)))) .leaf)) (.seq (.reg (.op 0 [] (.op 1 [] (.op 2 [] .nil)))) (.seq (.seq (.reg (.op 0 [] .nil)) (.block (.seq (.reg (.op 0 [] (.op 1 [] .nil))) (.cond (.seq (.reg (.op 0 [] (.op 1 [] .nil))) (.reg (.op 0 [] (.op 1 [] (.op 2 [] (.op 3 [] (.op 4 [] (.op 5 [] (.op 6 [] (.op 7 [] (.op 8 [] (.op 9 [] (.op 10 [] (.op 11 [] (.op 12 [] (.op 13 [] .nil)))))))))))))))) (.seq (.reg (.op 0 [] (.op 1 [] .nil))) (.cond (.reg (.op 0 [] (.op 1 [] (.op 2 [] (.op 3 [] .nil))))) (.seq (.reg (.op 0 [] (.op 1 [] (.op 2 [] .nil)))) (.seq (.reg (.op 0 [] (.op 1 [] (.op 2 [] .nil)))) (.reg (.op 0 [] (.op 1 [] (.op 2 [] (.op 3 [] .nil))))))))))))) (.seq (.reg (.op 0 [] .nil)) .leaf)))))))
def block_Write.res (w0 : Value) (kind1 : Value) (last2 : Value) (s3 : Value) (l4 : Value) (H0 : Heap) (R : Value → Heap → Prop) : Prop :=
 pEq 3 w0 (.pointer none) fun x14 =>
 pOr x14 (fun J_1 =>
 CallsH Tryz.prog 21 #[kind1, s3, l4] H0 fun x19 H_3 =>
 pNot x19 fun x20 =>
 J_1 x20 H_3) H0 fun x21 H_2 => ∀ _ : Env,
 pCond x21
 (R (.int .i64 1) H_2)
 (pConv .u64 kind1 fun x23 =>
 pShl x23 (.int .u64 1) fun x24 =>
 ∃ J_4 : Value → Heap → Prop, (∀ _ : Env, ∀ head11 : Value, ∀ H_5 : Heap, J_4 head11 H_5 →
 CallsH Tryz.prog 22 #[w0, head11, (.int .i64 3)] H_5 fun x30 H_6 =>
 pEq 0 kind1 (.int .i64 0) fun x42 =>
 pCond x42
 (CallsH Tryz.prog 7 #[w0] H_6 fun x44 H_7 =>
 pLenS s3 fun x47 =>
 pConv .u64 x47 fun x48 =>
 CallsH Tryz.prog 24 #[x48, (.int .i64 2)] H_7 fun x49 H_8 =>
 pLenS s3 fun x51 =>
 pSub (.int .i64 65535) x51 fun x52 =>
 pConv .u64 x52 fun x53 =>
 CallsH Tryz.prog 24 #[x53, (.int .i64 2)] H_8 fun x54 H_9 =>
 pAdd x49 x54 fun x55 =>
 pAdd x55 s3 fun x57 =>
 CallsH Tryz.prog 23 #[w0, x57] H_9 fun x58 H_10 =>
 R (.int .i64 0) H_10)
 (pEq 0 kind1 (.int .i64 1) fun x60 =>
 pCond x60
 (CallsH Tryz.prog 25 #[] H_6 fun x61 H_11 =>
 CallsH Tryz.prog 26 #[x61, w0, l4] H_11 fun x64 H_12 =>
 R (.int .i64 0) H_12)
 (CallsH Tryz.prog 27 #[l4] H_6 fun x33 H_13 =>
 CallsH Tryz.prog 28 #[x33, w0] H_13 fun x36 H_14 =>
 CallsH Tryz.prog 26 #[x33, w0, l4] H_14 fun x40 H_15 =>
 R (.int .i64 0) H_15))) ∧
 pCond last2
 (pBits .or x24 (.int .u64 1) fun x27 =>
 J_4 x27 H_2)
 (J_4 x24 H_2))
set_option maxRecDepth 100000 in
theorem block_Write.vc (w0 : Value) (kind1 : Value) (last2 : Value) (s3 : Value) (l4 : Value) (H0 : Heap) (R : Value → Heap → Prop) (h : block_Write.res w0 kind1 last2 s3 l4 H0 R) : CallsH Tryz.prog 6 #[w0, kind1, last2, s3, l4] H0 R := by
  have e : vcFn Tryz.prog Tryz.C Tryz.f6 block_Write.an [w0, kind1, last2, s3, l4] H0 R = block_Write.res w0 kind1 last2 s3 l4 H0 R := by kernel_rfl
  exact vcFn_sound Tryz.callable Tryz.mixed Tryz.func6 (by kernel_rfl) (e.mpr h)
def block_may.an : Ann := (.seq (.reg (.op 0 [] .nil)) (.seq (.reg (.op 0 [] .nil)) (.seq (.reg (.op 0 [] (.op 1 [] (.op 2 [] (.grp 2 (.op 3 [] (.op 4 [] .nil)) 5 (.op 6 [] (.grp 6 (.op 7 [] (.op 8 [] (.op 9 [] .nil))) 10 (.op 11 [] (.grp 11 (.op 12 [] (.op 13 [] (.op 14 [] .nil))) 15 (.op 16 [] (.grp 16 (.op 17 [] (.op 18 [] (.op 19 [] (.op 20 [] .nil)))) 21 (.op 22 [] .nil)))))))))))) .leaf)))
def block_may.res (kind0 : Value) (s1 : Value) (l2 : Value) (H0 : Heap) (R : Value → Heap → Prop) : Prop :=
 pGe kind0 (.int .i64 0) fun x9 =>
 pAnd x9 (fun J_1 =>
 pLt kind0 (.int .i64 3) fun x12 =>
 J_1 x12 H0) H0 fun x13 H_2 => ∀ _ : Env,
 pAnd x13 (fun J_3 =>
 pLenS s1 fun x16 =>
 pLe x16 (.int .i64 65535) fun x17 =>
 J_3 x17 H_2) H_2 fun x18 H_4 => ∀ _ : Env,
 pAnd x18 (fun J_5 =>
 pLen l2 fun x21 =>
 pLe x21 (.int .i64 65535) fun x22 =>
 J_5 x22 H_4) H_4 fun x23 H_6 => ∀ _ : Env,
 pAnd x23 (fun J_7 =>
 CallsH Tryz.prog 50 #[l2, (.func (.func 48) #[] #[])] H_6 fun x27 H_9 =>
 pNot x27 fun x28 =>
 J_7 x28 H_9) H_6 fun x29 H_8 => ∀ _ : Env,
 R x29 H_8
set_option maxRecDepth 100000 in
theorem block_may.vc (kind0 : Value) (s1 : Value) (l2 : Value) (H0 : Heap) (R : Value → Heap → Prop) (h : block_may.res kind0 s1 l2 H0 R) : CallsH Tryz.prog 21 #[kind0, s1, l2] H0 R := by
  have e : vcFn Tryz.prog Tryz.C Tryz.f21 block_may.an [kind0, s1, l2] H0 R = block_may.res kind0 s1 l2 H0 R := by kernel_rfl
  exact vcFn_sound Tryz.callable Tryz.mixed Tryz.func21 (by kernel_rfl) (e.mpr h)
def block_fixedCoder.an : Ann := (.seq (.reg (.op 0 [] .nil)) (.seq (.reg (.op 0 [] (.op 1 [] .nil))) (.seq (.seq (.reg (.op 0 [] (.op 1 [] (.op 2 [] (.op 3 [] (.op 4 [] (.op 5 [] .nil))))))) (.block (.loop [1, 11] [1, 4, 11, 12, 13, 14, 15, 16, 17, 18, 19, 20, 21, 22, 23, 24] (.seq (.reg (.op 0 [] .nil)) (.seq (.cond .leaf .leaf) (.seq (.block (.seq (.reg (.op 0 [] (.op 1 [] (.op 2 [] .nil)))) (.block (.loop [1] [1, 14, 15, 16, 17, 18, 19, 20, 21, 22, 23] (.seq (.seq (.reg (.op 0 [] (.op 1 [] (.op 2 [] (.op 3 [] (.op 4 [] .nil)))))) (.cond .leaf .leaf)) (.block (.reg (.op 0 [] (.op 1 [] (.op 2 [] (.op 3 [] (.op 4 [] (.op 5 [] .nil))))))))))))) (.reg (.op 0 [] (.op 1 [] .nil))))))))) (.seq (.seq (.reg (.op 0 [] .nil)) (.block (.loop [2, 25] [2, 25, 26, 27, 28, 29, 30] (.seq (.reg (.op 0 [] .nil)) (.seq (.cond .leaf .leaf) (.seq (.block (.reg (.op 0 [] (.op 1 [] (.op 2 [] (.op 3 [] .nil)))))) (.reg (.op 0 [] (.op 1 [] .nil))))))))) (.seq (.reg (.op 0 [] (.op 1 [] (.op 2 [] .nil)))) (.seq (.reg (.op 0 [] (.op 1 [] (.op 2 [] (.op 3 [] (.op 4 [] (.op 5 [] (.op 6 [] (.op 7 [] (.op 8 [] .nil)))))))))) (.seq (.reg (.op 0 [] (.op 1 [] (.op 2 [] (.op 3 [] (.op 4 [] (.op 5 [] (.op 6 [] (.op 7 [] (.op 8 [] .nil)))))))))) (.seq (.reg (.op 0 [] (.op 1 [] .nil))) .leaf))))))))
def block_fixedCoder.res (H0 : Heap) (R : Value → Heap → Prop) : Prop :=
 pBuild [(.int .i64 0), (.int .i64 0)] [(0, 1, (.int .i64 8)), (1, 1, (.int .i64 144))] fun x6 =>
 pBuild [(.int .i64 0), (.int .i64 0)] [(0, 1, (.int .i64 9)), (1, 1, (.int .i64 256))] fun x7 =>
 pBuild [(.int .i64 0), (.int .i64 0)] [(0, 1, (.int .i64 7)), (1, 1, (.int .i64 280))] fun x8 =>
 pBuild [(.int .i64 0), (.int .i64 0)] [(0, 1, (.int .i64 8)), (1, 1, (.int .i64 288))] fun x9 =>
 pBuild [(.int .i64 0), (.int .i64 0), (.int .i64 0), (.int .i64 0), (.int .i64 0), (.int .i64 0), (.int .i64 0), (.int .i64 0)] [(0, 2, x6), (2, 2, x7), (4, 2, x8), (6, 2, x9)] fun x10 =>
 ∃ (I_1 : Value → Value → Heap → Prop) (m_2 : Value → Value → Heap → Nat), I_1 (.slice none 0 0) (.int .i64 0) H0 ∧
 ∀ _ : Env, ∀ l1 : Value, ∀ x11 : Value, ∀ H_3 : Heap, I_1 l1 x11 H_3 →
 pLt x11 (.int .i64 4) fun x12 =>
 pCond x12
 (pIdxAggN 4 2 x10 x11 fun x13 =>
 pBox H_3 100 (.agg #[(.int .i64 0), (.int .i64 0)]) fun x4 H_4 =>
 pStoreN H_4 2 x4 x13 fun _ H_5 =>
 ∃ (I_6 : Value → Heap → Prop) (m_7 : Value → Heap → Nat), I_6 l1 H_5 ∧
 ∀ _ : Env, ∀ l1' : Value, ∀ H_8 : Heap, I_6 l1' H_8 →
 pLen l1' fun x15 =>
 pFieldAddr 1 x4 fun x16 =>
 pLoad H_8 x16 fun x17 =>
 pLt x15 x17 fun x18 =>
 pCond x18
 (pFieldAddr 0 x4 fun x20 =>
 pLoad H_8 x20 fun x21 =>
 pBuildSl H_8 3 1 [(.int .i64 0)] [(0, 1, x21)] fun x22 H_9 =>
 pAppend H_9 3 1 8 [(.int .i64 0)] l1' x22 fun x23 H_10 =>
 I_6 x23 H_10 ∧ m_7 x23 H_10 < m_7 l1' H_8)
 (pAdd x11 (.int .i64 1) fun x24 =>
 I_1 l1' x24 H_8 ∧ m_2 l1' x24 H_8 < m_2 l1 x11 H_3))
 (∃ (I_11 : Value → Value → Heap → Prop) (m_12 : Value → Value → Heap → Nat), I_11 (.slice none 0 0) (.int .i64 0) H_3 ∧
 ∀ _ : Env, ∀ d2 : Value, ∀ x25 : Value, ∀ H_13 : Heap, I_11 d2 x25 H_13 →
 pLt x25 (.int .i64 32) fun x26 =>
 pCond x26
 (pBuildSl H_13 3 1 [(.int .i64 0)] [(0, 1, (.int .i64 5))] fun x28 H_14 =>
 pAppend H_14 3 1 8 [(.int .i64 0)] d2 x28 fun x29 H_15 =>
 pAdd x25 (.int .i64 1) fun x30 =>
 I_11 x29 x30 H_15 ∧ m_12 x29 x30 H_15 < m_12 d2 x25 H_13)
 (pBuild [(.pointer none), (.pointer none), (.pointer none), (.slice none 0 0), (.int .i64 0), (.int .i64 0), (.int .i64 0)] [] fun x31 =>
 pBox H_13 104 x31 fun x32 H_16 =>
 CallsH Tryz.prog 13 #[l1, (.bool false)] H_16 fun x36 H_17 =>
 pExtract 0 x36 fun x37 =>
 pExtract 1 x36 fun x38 =>
 pNil x32 fun x39 =>
 pFieldAddr 0 x39 fun x40 =>
 pStore H_17 x40 x37 fun _ H_18 =>
 CallsH Tryz.prog 13 #[d2, (.bool false)] H_18 fun x44 H_19 =>
 pExtract 0 x44 fun x45 =>
 pExtract 1 x44 fun x46 =>
 pNil x32 fun x47 =>
 pFieldAddr 1 x47 fun x48 =>
 pStore H_19 x48 x45 fun _ H_20 =>
 R x32 H_20))
set_option maxRecDepth 100000 in
theorem block_fixedCoder.vc (H0 : Heap) (R : Value → Heap → Prop) (h : block_fixedCoder.res H0 R) : CallsH Tryz.prog 25 #[] H0 R := by
  have e : vcFn Tryz.prog Tryz.C Tryz.f25 block_fixedCoder.an [] H0 R = block_fixedCoder.res H0 R := by kernel_rfl
  exact vcFn_sound Tryz.callable Tryz.mixed Tryz.func25 (by kernel_rfl) (e.mpr h)
def block_coder_tokens.an : Ann := (.seq (.seq (.reg (.op 0 [] (.op 1 [] (.op 2 [] .nil)))) (.block (.loop [12] [7, 8, 9, 12, 13, 14, 15, 16, 17, 18, 19, 20, 21, 22, 23, 24, 25, 26, 27, 28, 29, 30, 31, 32, 33, 34, 35, 36, 37, 38, 39, 40, 41, 42, 43, 44, 45, 46, 47, 48, 49, 50, 51, 52, 53, 54, 55, 56, 57, 58, 59, 60, 61, 62] (.seq (.reg (.op 0 [] .nil)) (.seq (.cond .leaf .leaf) (.seq (.block (.seq (.reg (.op 0 [] (.op 1 [] (.op 2 [] (.op 3 [] .nil))))) (.seq (.seq (.reg (.op 0 [] (.op 1 [] (.op 2 [] .nil)))) (.cond (.seq (.drw [0, 1, 3, 7, 0, 0, 32, 96, 255] (.op 0 [] (.op 1 [] (.op 2 [] (.op 3 [] (.op 4 [] (.op 5 [] (.op 6 [] (.op 7 [] (.op 8 [] .nil)))))))))) .leaf) .leaf)) (.cut [8, 9] [8, 9, 28, 29, 30, 31, 32, 33] (.drw [0, 1, 3, 0, 8, 31, 0, 0, 255, 511] (.op 0 [] (.op 1 [] (.op 3 [] (.op 4 [] (.fork (.op 2 [4] (.fork (.op 5 [] (.fork (.op 6 [1, 4] (.op 7 [1, 4] (.op 8 [] (.op 9 [] .nil)))) (.op 7 [1, 4] (.op 6 [1, 4] (.op 8 [] (.op 9 [] .nil)))))) (.fork (.op 6 [1, 4] (.fork (.op 5 [] (.op 7 [1, 4] (.op 8 [] (.op 9 [] .nil)))) (.op 7 [1, 4] (.op 5 [] (.op 8 [] (.op 9 [] .nil)))))) (.op 7 [1, 4] (.fork (.op 5 [] (.op 6 [1, 4] (.op 8 [] (.op 9 [] .nil)))) (.op 6 [1, 4] (.op 5 [] (.op 8 [] (.op 9 [] .nil))))))))) (.fork (.op 6 [1, 4] (.fork (.op 2 [4] (.fork (.op 5 [] (.op 7 [1, 4] (.op 8 [] (.op 9 [] .nil)))) (.op 7 [1, 4] (.op 5 [] (.op 8 [] (.op 9 [] .nil)))))) (.op 7 [1, 4] (.op 2 [4] (.op 5 [] (.op 8 [] (.op 9 [] .nil))))))) (.op 7 [1, 4] (.fork (.op 2 [4] (.fork (.op 5 [] (.op 6 [1, 4] (.op 8 [] (.op 9 [] .nil)))) (.op 6 [1, 4] (.op 5 [] (.op 8 [] (.op 9 [] .nil)))))) (.op 6 [1, 4] (.op 2 [4] (.op 5 [] (.op 8 [] (.op 9 [] .nil)))))))))))))) (.seq (.drw [0, 1, 3, 7, 0, 0, 32, 127] (.op 0 [] (.op 1 [] (.op 2 [] (.op 3 [] (.op 4 [] (.op 5 [] (.op 6 [] (.op 7 [] .nil))))))))) (.seq (.reg (.op 0 [] (.op 1 [] (.op 2 [] (.op 3 [] (.op 4 [] (.op 5 [] .nil))))))) (.seq (.drw [0, 1, 3, 7, 0, 0, 32, 127] (.op 0 [] (.op 1 [] (.op 2 [] (.op 3 [] (.op 4 [] (.op 5 [] (.op 6 [] (.op 7 [] .nil))))))))) (.reg (.op 0 [] (.op 1 [] (.op 2 [] (.op 3 [] (.op 4 [] (.op 5 [] .nil)))))))))))))) (.reg (.op 0 [] (.op 1 [] .nil))))))))) (.reg (.op 0 [] (.op 1 [] (.op 2 [] (.op 3 [] (.op 4 [] (.op 5 [] .nil))))))))
def block_coder_tokens.res (c0 : Value) (w1 : Value) (l2 : Value) (H0 : Heap) (R : Value → Heap → Prop) : Prop :=
 pLen l2 fun x11 =>
 ∃ (I_1 : Value → Heap → Prop) (m_2 : Value → Heap → Nat), I_1 (.int .i64 0) H0 ∧
 ∀ _ : Env, ∀ x12 : Value, ∀ H_3 : Heap, I_1 x12 H_3 →
 pLt x12 x11 fun x13 =>
 pCond x13
 (pIdxSl 3 l2 x12 fun x14 =>
 pLoadN H_3 3 x14 fun x15 =>
 pBox H_3 32 (.agg #[(.int .u8 0), (.int .i64 0), (.int .i64 0)]) fun t7 H_4 =>
 pStoreN H_4 3 t7 x15 fun _ H_5 =>
 pFieldAddr 1 t7 fun x16 =>
 pLoad H_5 x16 fun x17 =>
 pEq 0 x17 (.int .i64 0) fun x18 =>
 pCond x18
 (pNil c0 fun x20 =>
 pFieldAddr 0 x20 fun x21 =>
 pLoad H_5 x21 fun x22 =>
 pFieldAddr 0 t7 fun x24 =>
 pLoad H_5 x24 fun x25 =>
 pConv .i64 x25 fun x26 =>
 CallsH Tryz.prog 14 #[x22, w1, x26] H_5 fun x27 H_6 =>
 pAdd x12 (.int .i64 1) fun x62 =>
 I_1 x62 H_6 ∧ m_2 x62 H_6 < m_2 x12 H_3)
 (∃ J_7 : Value → Value → Heap → Prop, (∀ _ : Env, ∀ x8 : Value, ∀ y9 : Value, ∀ H_8 : Heap, J_7 x8 y9 H_8 →
 pNil c0 fun x35 =>
 pFieldAddr 0 x35 fun x36 =>
 pLoad H_8 x36 fun x37 =>
 pFieldAddr 0 x8 fun x39 =>
 pLoad H_8 x39 fun x40 =>
 CallsH Tryz.prog 14 #[x37, w1, x40] H_8 fun x41 H_9 =>
 pFieldAddr 2 x8 fun x43 =>
 pLoad H_9 x43 fun x44 =>
 pFieldAddr 1 x8 fun x45 =>
 pLoad H_9 x45 fun x46 =>
 CallsH Tryz.prog 22 #[w1, x44, x46] H_9 fun x47 H_10 =>
 pNil c0 fun x49 =>
 pFieldAddr 1 x49 fun x50 =>
 pLoad H_10 x50 fun x51 =>
 pFieldAddr 0 y9 fun x53 =>
 pLoad H_10 x53 fun x54 =>
 CallsH Tryz.prog 14 #[x51, w1, x54] H_10 fun x55 H_11 =>
 pFieldAddr 2 y9 fun x57 =>
 pLoad H_11 x57 fun x58 =>
 pFieldAddr 1 y9 fun x59 =>
 pLoad H_11 x59 fun x60 =>
 CallsH Tryz.prog 22 #[w1, x58, x60] H_11 fun x61 H_12 =>
 pAdd x12 (.int .i64 1) fun x62 =>
 I_1 x62 H_12 ∧ m_2 x62 H_12 < m_2 x12 H_3) ∧
 pFieldAddr 1 t7 fun x28 =>
 pLoad H_5 x28 fun x29 =>
 pFieldAddr 2 t7 fun x31 =>
 pLoad H_5 x31 fun x32 =>
 (CallsH Tryz.prog 52 #[x29] H_5 fun x30 H_13 =>
 (pLoad H_13 x31 fun r_ =>
 r_ = x32) ∧
 (CallsH Tryz.prog 53 #[x32] H_13 fun x33 H_14 =>
 (pBox H_14 106 (.agg #[(.int .i64 0), (.int .i64 0), (.int .u64 0)]) fun x8 H_15 =>
 (pLoad H_15 x28 fun r_ =>
 r_ = x29) ∧
 (pLoad H_15 x31 fun r_ =>
 r_ = x32) ∧
 pBox H_15 106 (.agg #[(.int .i64 0), (.int .i64 0), (.int .u64 0)]) fun y9 H_16 =>
 (pLoad H_16 x28 fun r_ =>
 r_ = x29) ∧
 (pLoad H_16 x31 fun r_ =>
 r_ = x32) ∧
 pStoreN H_16 3 x8 x30 fun _ H_17 =>
 pStoreN H_17 3 y9 x33 fun _ H_18 =>
 J_7 x8 y9 H_18) ∧
 (pBox H_14 106 (.agg #[(.int .i64 0), (.int .i64 0), (.int .u64 0)]) fun y9 H_19 =>
 (pLoad H_19 x28 fun r_ =>
 r_ = x29) ∧
 (pLoad H_19 x31 fun r_ =>
 r_ = x32) ∧
 pBox H_19 106 (.agg #[(.int .i64 0), (.int .i64 0), (.int .u64 0)]) fun x8 H_20 =>
 (pLoad H_20 x28 fun r_ =>
 r_ = x29) ∧
 (pLoad H_20 x31 fun r_ =>
 r_ = x32) ∧
 pStoreN H_20 3 x8 x30 fun _ H_21 =>
 pStoreN H_21 3 y9 x33 fun _ H_22 =>
 J_7 x8 y9 H_22)) ∧
 ((pBox H_13 106 (.agg #[(.int .i64 0), (.int .i64 0), (.int .u64 0)]) fun x8 H_23 =>
 (pLoad H_23 x28 fun r_ =>
 r_ = x29) ∧
 (pLoad H_23 x31 fun r_ =>
 r_ = x32) ∧
 (CallsH Tryz.prog 53 #[x32] H_23 fun x33 H_24 =>
 pBox H_24 106 (.agg #[(.int .i64 0), (.int .i64 0), (.int .u64 0)]) fun y9 H_25 =>
 (pLoad H_25 x28 fun r_ =>
 r_ = x29) ∧
 (pLoad H_25 x31 fun r_ =>
 r_ = x32) ∧
 pStoreN H_25 3 x8 x30 fun _ H_26 =>
 pStoreN H_26 3 y9 x33 fun _ H_27 =>
 J_7 x8 y9 H_27) ∧
 (pBox H_23 106 (.agg #[(.int .i64 0), (.int .i64 0), (.int .u64 0)]) fun y9 H_28 =>
 (pLoad H_28 x28 fun r_ =>
 r_ = x29) ∧
 (pLoad H_28 x31 fun r_ =>
 r_ = x32) ∧
 CallsH Tryz.prog 53 #[x32] H_28 fun x33 H_29 =>
 pStoreN H_29 3 x8 x30 fun _ H_30 =>
 pStoreN H_30 3 y9 x33 fun _ H_31 =>
 J_7 x8 y9 H_31)) ∧
 (pBox H_13 106 (.agg #[(.int .i64 0), (.int .i64 0), (.int .u64 0)]) fun y9 H_32 =>
 (pLoad H_32 x28 fun r_ =>
 r_ = x29) ∧
 (pLoad H_32 x31 fun r_ =>
 r_ = x32) ∧
 (CallsH Tryz.prog 53 #[x32] H_32 fun x33 H_33 =>
 pBox H_33 106 (.agg #[(.int .i64 0), (.int .i64 0), (.int .u64 0)]) fun x8 H_34 =>
 (pLoad H_34 x28 fun r_ =>
 r_ = x29) ∧
 (pLoad H_34 x31 fun r_ =>
 r_ = x32) ∧
 pStoreN H_34 3 x8 x30 fun _ H_35 =>
 pStoreN H_35 3 y9 x33 fun _ H_36 =>
 J_7 x8 y9 H_36) ∧
 (pBox H_32 106 (.agg #[(.int .i64 0), (.int .i64 0), (.int .u64 0)]) fun x8 H_37 =>
 (pLoad H_37 x28 fun r_ =>
 r_ = x29) ∧
 (pLoad H_37 x31 fun r_ =>
 r_ = x32) ∧
 CallsH Tryz.prog 53 #[x32] H_37 fun x33 H_38 =>
 pStoreN H_38 3 x8 x30 fun _ H_39 =>
 pStoreN H_39 3 y9 x33 fun _ H_40 =>
 J_7 x8 y9 H_40)))) ∧
 ((pBox H_5 106 (.agg #[(.int .i64 0), (.int .i64 0), (.int .u64 0)]) fun x8 H_41 =>
 (pLoad H_41 x28 fun r_ =>
 r_ = x29) ∧
 (pLoad H_41 x31 fun r_ =>
 r_ = x32) ∧
 (CallsH Tryz.prog 52 #[x29] H_41 fun x30 H_42 =>
 (pLoad H_42 x31 fun r_ =>
 r_ = x32) ∧
 (CallsH Tryz.prog 53 #[x32] H_42 fun x33 H_43 =>
 pBox H_43 106 (.agg #[(.int .i64 0), (.int .i64 0), (.int .u64 0)]) fun y9 H_44 =>
 (pLoad H_44 x28 fun r_ =>
 r_ = x29) ∧
 (pLoad H_44 x31 fun r_ =>
 r_ = x32) ∧
 pStoreN H_44 3 x8 x30 fun _ H_45 =>
 pStoreN H_45 3 y9 x33 fun _ H_46 =>
 J_7 x8 y9 H_46) ∧
 (pBox H_42 106 (.agg #[(.int .i64 0), (.int .i64 0), (.int .u64 0)]) fun y9 H_47 =>
 (pLoad H_47 x28 fun r_ =>
 r_ = x29) ∧
 (pLoad H_47 x31 fun r_ =>
 r_ = x32) ∧
 CallsH Tryz.prog 53 #[x32] H_47 fun x33 H_48 =>
 pStoreN H_48 3 x8 x30 fun _ H_49 =>
 pStoreN H_49 3 y9 x33 fun _ H_50 =>
 J_7 x8 y9 H_50)) ∧
 (pBox H_41 106 (.agg #[(.int .i64 0), (.int .i64 0), (.int .u64 0)]) fun y9 H_51 =>
 (pLoad H_51 x28 fun r_ =>
 r_ = x29) ∧
 (pLoad H_51 x31 fun r_ =>
 r_ = x32) ∧
 CallsH Tryz.prog 52 #[x29] H_51 fun x30 H_52 =>
 (pLoad H_52 x31 fun r_ =>
 r_ = x32) ∧
 CallsH Tryz.prog 53 #[x32] H_52 fun x33 H_53 =>
 pStoreN H_53 3 x8 x30 fun _ H_54 =>
 pStoreN H_54 3 y9 x33 fun _ H_55 =>
 J_7 x8 y9 H_55)) ∧
 (pBox H_5 106 (.agg #[(.int .i64 0), (.int .i64 0), (.int .u64 0)]) fun y9 H_56 =>
 (pLoad H_56 x28 fun r_ =>
 r_ = x29) ∧
 (pLoad H_56 x31 fun r_ =>
 r_ = x32) ∧
 (CallsH Tryz.prog 52 #[x29] H_56 fun x30 H_57 =>
 (pLoad H_57 x31 fun r_ =>
 r_ = x32) ∧
 (CallsH Tryz.prog 53 #[x32] H_57 fun x33 H_58 =>
 pBox H_58 106 (.agg #[(.int .i64 0), (.int .i64 0), (.int .u64 0)]) fun x8 H_59 =>
 (pLoad H_59 x28 fun r_ =>
 r_ = x29) ∧
 (pLoad H_59 x31 fun r_ =>
 r_ = x32) ∧
 pStoreN H_59 3 x8 x30 fun _ H_60 =>
 pStoreN H_60 3 y9 x33 fun _ H_61 =>
 J_7 x8 y9 H_61) ∧
 (pBox H_57 106 (.agg #[(.int .i64 0), (.int .i64 0), (.int .u64 0)]) fun x8 H_62 =>
 (pLoad H_62 x28 fun r_ =>
 r_ = x29) ∧
 (pLoad H_62 x31 fun r_ =>
 r_ = x32) ∧
 CallsH Tryz.prog 53 #[x32] H_62 fun x33 H_63 =>
 pStoreN H_63 3 x8 x30 fun _ H_64 =>
 pStoreN H_64 3 y9 x33 fun _ H_65 =>
 J_7 x8 y9 H_65)) ∧
 (pBox H_56 106 (.agg #[(.int .i64 0), (.int .i64 0), (.int .u64 0)]) fun x8 H_66 =>
 (pLoad H_66 x28 fun r_ =>
 r_ = x29) ∧
 (pLoad H_66 x31 fun r_ =>
 r_ = x32) ∧
 CallsH Tryz.prog 52 #[x29] H_66 fun x30 H_67 =>
 (pLoad H_67 x31 fun r_ =>
 r_ = x32) ∧
 CallsH Tryz.prog 53 #[x32] H_67 fun x33 H_68 =>
 pStoreN H_68 3 x8 x30 fun _ H_69 =>
 pStoreN H_69 3 y9 x33 fun _ H_70 =>
 J_7 x8 y9 H_70)))))
 (pNil c0 fun x64 =>
 pFieldAddr 0 x64 fun x65 =>
 pLoad H_3 x65 fun x66 =>
 CallsH Tryz.prog 14 #[x66, w1, (.int .i64 256)] H_3 fun x68 H_71 =>
 R (.tuple #[]) H_71)
set_option maxRecDepth 100000 in
theorem block_coder_tokens.vc (c0 : Value) (w1 : Value) (l2 : Value) (H0 : Heap) (R : Value → Heap → Prop) (h : block_coder_tokens.res c0 w1 l2 H0 R) : CallsH Tryz.prog 26 #[c0, w1, l2] H0 R := by
  have e : vcFn Tryz.prog Tryz.C Tryz.f26 block_coder_tokens.an [c0, w1, l2] H0 R = block_coder_tokens.res c0 w1 l2 H0 R := by kernel_rfl
  exact vcFn_sound Tryz.callable Tryz.mixed Tryz.func26 (by kernel_rfl) (e.mpr h)
def block_dynamicCoder.an : Ann := (.seq (.reg (.op 0 [] .nil)) (.seq (.reg (.op 0 [] (.op 1 [] (.op 2 [] (.op 3 [] (.op 4 [] (.op 5 [] (.op 6 [] .nil)))))))) (.seq (.reg (.op 0 [] (.op 1 [] (.op 2 [] .nil)))) (.seq (.reg (.op 0 [] (.op 1 [] (.op 2 [] (.op 3 [] (.op 4 [] (.op 5 [] (.op 6 [] .nil)))))))) (.seq (.reg (.op 0 [] (.op 1 [] (.op 2 [] (.op 3 [] (.op 4 [] (.op 5 [] (.op 6 [] .nil)))))))) (.seq (.drw [0, 0, 2, 6, 14, 31, 0, 0, 128, 384, 896, 1984, 63, 8191] (.op 0 [] (.op 1 [] (.op 2 [] (.op 3 [] (.op 4 [] (.op 5 [] (.op 6 [] (.op 7 [] (.op 8 [] (.op 9 [] (.op 10 [] (.op 11 [] (.op 12 [] (.op 13 [] .nil))))))))))))))) (.seq (.reg (.op 0 [] (.op 1 [] (.op 2 [] (.op 3 [] (.op 4 [] (.op 5 [] (.op 6 [] (.op 7 [] (.op 8 [] .nil)))))))))) (.seq (.reg (.op 0 [] (.op 1 [] (.op 2 [] (.op 3 [] (.op 4 [] (.op 5 [] (.op 6 [] (.op 7 [] (.op 8 [] .nil)))))))))) (.seq (.reg (.op 0 [] (.op 1 [] (.op 2 [] (.op 3 [] (.op 4 [] (.op 5 [] (.op 6 [] (.op 7 [] (.op 8 [] .nil)))))))))) (.seq (.reg (.op 0 [] (.op 1 [] .nil))) (.seq (.seq (.reg (.op 0 [] (.op 1 [] (.op 2 [] (.op 3 [] (.op 4 [] (.op 5 [] .nil))))))) (.block (.loop [73] [11, 73, 74, 75, 76, 77, 78, 79, 80, 81, 82, 83, 84] (.seq (.reg (.op 0 [] .nil)) (.seq (.cond .leaf .leaf) (.seq (.block (.seq (.reg (.op 0 [] (.op 1 [] (.op 2 [] (.op 3 [] .nil))))) (.reg (.op 0 [] (.op 1 [] (.op 2 [] (.op 3 [] (.op 4 [] (.op 5 [] (.op 6 [] (.op 7 [] .nil))))))))))) (.reg (.op 0 [] (.op 1 [] .nil))))))))) (.seq (.reg (.op 0 [] (.op 1 [] (.op 2 [] .nil)))) (.seq (.reg (.op 0 [] (.op 1 [] (.op 2 [] (.op 3 [] (.op 4 [] (.op 5 [] (.op 6 [] (.op 7 [] (.op 8 [] .nil)))))))))) (.seq (.reg (.op 0 [] (.op 1 [] (.op 2 [] (.op 3 [] .nil))))) (.seq (.block (.loop [] [98, 99, 100, 101, 102, 103, 104, 105, 106, 107, 108, 109, 110, 111, 112, 113, 114, 115, 116, 117, 118, 119, 120, 121, 122] (.seq (.seq (.reg (.op 0 [] (.op 1 [] (.op 2 [] (.op 3 [] (.op 4 [] (.op 5 [] (.grp 5 (.op 6 [] (.op 7 [] (.op 8 [] (.op 9 [] (.op 10 [] (.op 11 [] (.op 12 [] (.op 13 [] (.op 14 [] (.op 15 [] (.op 16 [] .nil))))))))))) 17 .nil)))))))) (.cond .leaf .leaf)) (.block (.reg (.op 0 [] (.op 1 [] (.op 2 [] (.op 3 [] (.op 4 [] (.op 5 [] (.op 6 [] (.op 7 [] .nil))))))))))))) (.seq (.reg (.op 0 [] (.op 1 [] .nil))) .leaf))))))))))))))))
def block_dynamicCoder.res (l0 : Value) (H0 : Heap) (R : Value → Heap → Prop) : Prop :=
 CallsH Tryz.prog 54 #[l0] H0 fun x15 H_1 =>
 pExtract 0 x15 fun x16 =>
 pExtract 1 x15 fun x17 =>
 CallsH Tryz.prog 55 #[x16, (.int .i64 15)] H_1 fun x19 H_2 =>
 CallsH Tryz.prog 12 #[x17, (.int .i64 15)] H_2 fun x22 H_3 =>
 pExtract 0 x22 fun x23 =>
 pExtract 1 x22 fun x24 =>
 CallsH Tryz.prog 56 #[x19, (.int .i64 257)] H_3 fun x26 H_4 =>
 CallsH Tryz.prog 56 #[x23, (.int .i64 1)] H_4 fun x28 H_5 =>
 pBuild [(.pointer none), (.pointer none), (.pointer none), (.slice none 0 0), (.int .i64 0), (.int .i64 0), (.int .i64 0)] [(4, 1, x26), (5, 1, x28)] fun x29 =>
 pBox H_5 104 x29 fun x30 H_6 =>
 pNil x30 fun x33 =>
 pFieldAddr 4 x33 fun x34 =>
 pLoad H_6 x34 fun x35 =>
 pSlSl 1 x19 none (some x35) fun x36 =>
 pNil x30 fun x39 =>
 pFieldAddr 5 x39 fun x40 =>
 pLoad H_6 x40 fun x41 =>
 pSlSl 1 x23 none (some x41) fun x42 =>
 CallsH Tryz.prog 13 #[x36, (.bool false)] H_6 fun x46 H_7 =>
 pExtract 0 x46 fun x47 =>
 pExtract 1 x46 fun x48 =>
 pNil x30 fun x49 =>
 pFieldAddr 0 x49 fun x50 =>
 pStore H_7 x50 x47 fun _ H_8 =>
 CallsH Tryz.prog 13 #[x42, (.bool true)] H_8 fun x54 H_9 =>
 pExtract 0 x54 fun x55 =>
 pExtract 1 x54 fun x56 =>
 pNil x30 fun x57 =>
 pFieldAddr 1 x57 fun x58 =>
 pStore H_9 x58 x55 fun _ H_10 =>
 pBuildSl H_10 42 2 [(.slice none 0 0), (.slice none 0 0)] [(0, 1, x36), (1, 1, x42)] fun x62 H_11 =>
 CallsH Tryz.prog 58 #[x62] H_11 fun x63 H_12 =>
 CallsH Tryz.prog 57 #[x63] H_12 fun x64 H_13 =>
 pNil x30 fun x65 =>
 pFieldAddr 3 x65 fun x66 =>
 pStore H_13 x66 x64 fun _ H_14 =>
 pMakeSl H_14 3 8 [(.int .i64 0)] (.int .i64 19) (.int .i64 19) fun x67 H_15 =>
 pNil x30 fun x69 =>
 pFieldAddr 3 x69 fun x70 =>
 pLoad H_15 x70 fun x71 =>
 pLen x71 fun x72 =>
 ∃ (I_16 : Value → Heap → Prop) (m_17 : Value → Heap → Nat), I_16 (.int .i64 0) H_15 ∧
 ∀ _ : Env, ∀ x73 : Value, ∀ H_18 : Heap, I_16 x73 H_18 →
 pLt x73 x72 fun x74 =>
 pCond x74
 (pIdxSl 3 x71 x73 fun x75 =>
 pLoadN H_18 3 x75 fun x76 =>
 pBox H_18 106 (.agg #[(.int .i64 0), (.int .i64 0), (.int .u64 0)]) fun t11 H_19 =>
 pStoreN H_19 3 t11 x76 fun _ H_20 =>
 pFieldAddr 0 t11 fun x78 =>
 pLoad H_20 x78 fun x79 =>
 pIdxSl 1 x67 x79 fun x80 =>
 pLoad H_20 x80 fun x81 =>
 pAdd x81 (.int .i64 1) fun x82 =>
 pIdxSl 1 x67 x79 fun x83 =>
 pStore H_20 x83 x82 fun _ H_21 =>
 pAdd x73 (.int .i64 1) fun x84 =>
 I_16 x84 H_21 ∧ m_17 x84 H_21 < m_17 x73 H_18)
 (CallsH Tryz.prog 55 #[x67, (.int .i64 7)] H_18 fun x86 H_22 =>
 CallsH Tryz.prog 13 #[x86, (.bool false)] H_22 fun x90 H_23 =>
 pExtract 0 x90 fun x91 =>
 pExtract 1 x90 fun x92 =>
 pNil x30 fun x93 =>
 pFieldAddr 2 x93 fun x94 =>
 pStore H_23 x94 x91 fun _ H_24 =>
 pNil x30 fun x96 =>
 pFieldAddr 6 x96 fun x97 =>
 pStore H_24 x97 (.int .i64 19) fun _ H_25 =>
 ∃ (I_26 : Heap → Prop) (m_27 : Heap → Nat), I_26 H_25 ∧
 ∀ _ : Env, ∀ H_28 : Heap, I_26 H_28 →
 pNil x30 fun x99 =>
 pFieldAddr 6 x99 fun x100 =>
 pLoad H_28 x100 fun x101 =>
 pGt x101 (.int .i64 4) fun x102 =>
 pAnd x102 (fun J_29 =>
 pNil x30 fun x106 =>
 pFieldAddr 6 x106 fun x107 =>
 pLoad H_28 x107 fun x108 =>
 pSub x108 (.int .i64 1) fun x109 =>
 pIdxArr 19 1 (.pointer (some ⟨0, 0, none⟩)) x109 fun x110 =>
 pLoad H_28 x110 fun x111 =>
 pIdxSl 1 x86 x111 fun x112 =>
 pLoad H_28 x112 fun x113 =>
 pEq 0 x113 (.int .i64 0) fun x114 =>
 J_29 x114 H_28) H_28 fun x115 H_30 => ∀ _ : Env,
 pCond x115
 (pNil x30 fun x117 =>
 pFieldAddr 6 x117 fun x118 =>
 pLoad H_30 x118 fun x119 =>
 pSub x119 (.int .i64 1) fun x120 =>
 pNil x30 fun x121 =>
 pFieldAddr 6 x121 fun x122 =>
 pStore H_30 x122 x120 fun _ H_31 =>
 I_26 H_31 ∧ m_27 H_31 < m_27 H_28)
 (R x30 H_30))
set_option maxRecDepth 100000 in
theorem block_dynamicCoder.vc (l0 : Value) (H0 : Heap) (R : Value → Heap → Prop) (h : block_dynamicCoder.res l0 H0 R) : CallsH Tryz.prog 27 #[l0] H0 R := by
  have e : vcFn Tryz.prog Tryz.C Tryz.f27 block_dynamicCoder.an [l0] H0 R = block_dynamicCoder.res l0 H0 R := by kernel_rfl
  exact vcFn_sound Tryz.callable Tryz.mixed Tryz.func27 (by kernel_rfl) (e.mpr h)
def block_coder_head.an : Ann := (.seq (.drw [0, 0, 2, 6, 14, 30, 62, 0, 128, 384, 896, 1920, 3968, 8064, 16382, 0, 32768, 98304, 229376, 491520, 1015808, 2064384, 4194302, 8388607] (.op 0 [] (.op 1 [] (.op 2 [] (.op 3 [] (.op 4 [] (.op 5 [] (.op 6 [] (.op 7 [] (.op 8 [] (.op 9 [] (.op 10 [] (.op 11 [] (.op 12 [] (.op 13 [] (.op 14 [] (.op 15 [] (.op 16 [] (.op 17 [] (.op 18 [] (.op 19 [] (.op 20 [] (.op 21 [] (.op 22 [] (.op 23 [] .nil))))))))))))))))))))))))) (.seq (.reg (.op 0 [] (.op 1 [] (.op 2 [] (.op 3 [] (.op 4 [] (.op 5 [] .nil))))))) (.seq (.seq (.reg (.op 0 [] (.op 1 [] (.op 2 [] (.op 3 [] (.op 4 [] (.op 5 [] (.op 6 [] .nil)))))))) (.block (.loop [44] [6, 44, 45, 46, 47, 48, 49, 50, 51, 52, 53, 54, 55] (.seq (.reg (.op 0 [] .nil)) (.seq (.cond .leaf .leaf) (.seq (.block (.seq (.reg (.op 0 [] (.op 1 [] (.op 2 [] .nil)))) (.reg (.op 0 [] (.op 1 [] (.op 2 [] (.op 3 [] (.op 4 [] (.op 5 [] (.op 6 [] .nil)))))))))) (.reg (.op 0 [] (.op 1 [] .nil))))))))) (.seq (.reg (.op 0 [] (.op 1 [] (.op 2 [] (.op 3 [] (.op 4 [] (.op 5 [] .nil))))))) (.block (.loop [61] [8, 61, 62, 63, 64, 65, 66, 67, 68, 69, 70, 71, 72, 73, 74, 75, 76, 77, 78, 79] (.seq (.reg (.op 0 [] .nil)) (.seq (.cond .leaf .leaf) (.seq (.block (.seq (.reg (.op 0 [] (.op 1 [] (.op 2 [] (.op 3 [] .nil))))) (.seq (.drw [0, 1, 3, 7, 0, 0, 32, 127] (.op 0 [] (.op 1 [] (.op 2 [] (.op 3 [] (.op 4 [] (.op 5 [] (.op 6 [] (.op 7 [] .nil))))))))) (.reg (.op 0 [] (.op 1 [] (.op 2 [] (.op 3 [] (.op 4 [] (.op 5 [] .nil)))))))))) (.reg (.op 0 [] (.op 1 [] .nil))))))))))))
def block_coder_head.res (c0 : Value) (w1 : Value) (H0 : Heap) (R : Value → Heap → Prop) : Prop :=
 pNil c0 fun x11 =>
 pFieldAddr 4 x11 fun x12 =>
 pLoad H0 x12 fun x13 =>
 pSub x13 (.int .i64 257) fun x14 =>
 pConv .u64 x14 fun x15 =>
 pNil c0 fun x17 =>
 pFieldAddr 5 x17 fun x18 =>
 pLoad H0 x18 fun x19 =>
 pSub x19 (.int .i64 1) fun x20 =>
 pConv .u64 x20 fun x21 =>
 pShl x21 (.int .u64 5) fun x22 =>
 pBits .or x15 x22 fun x23 =>
 pNil c0 fun x25 =>
 pFieldAddr 6 x25 fun x26 =>
 pLoad H0 x26 fun x27 =>
 pSub x27 (.int .i64 4) fun x28 =>
 pConv .u64 x28 fun x29 =>
 pShl x29 (.int .u64 10) fun x30 =>
 pBits .or x23 x30 fun x31 =>
 CallsH Tryz.prog 22 #[w1, x31, (.int .i64 14)] H0 fun x32 H_1 =>
 pNil c0 fun x34 =>
 pFieldAddr 2 x34 fun x35 =>
 pLoad H_1 x35 fun x36 =>
 CallsH Tryz.prog 59 #[x36] H_1 fun x37 H_2 =>
 pNil c0 fun x39 =>
 pFieldAddr 6 x39 fun x40 =>
 pLoad H_2 x40 fun x41 =>
 pSlArr 19 1 (.pointer (some ⟨0, 0, none⟩)) none (some x41) fun x42 =>
 pLen x42 fun x43 =>
 ∃ (I_3 : Value → Heap → Prop) (m_4 : Value → Heap → Nat), I_3 (.int .i64 0) H_2 ∧
 ∀ _ : Env, ∀ x44 : Value, ∀ H_5 : Heap, I_3 x44 H_5 →
 pLt x44 x43 fun x45 =>
 pCond x45
 (pIdxSl 1 x42 x44 fun x46 =>
 pLoad H_5 x46 fun x47 =>
 pIdxSl 1 x37 x47 fun x51 =>
 pLoad H_5 x51 fun x52 =>
 pConv .u64 x52 fun x53 =>
 CallsH Tryz.prog 22 #[w1, x53, (.int .i64 3)] H_5 fun x54 H_6 =>
 pAdd x44 (.int .i64 1) fun x55 =>
 I_3 x55 H_6 ∧ m_4 x55 H_6 < m_4 x44 H_5)
 (pNil c0 fun x57 =>
 pFieldAddr 3 x57 fun x58 =>
 pLoad H_5 x58 fun x59 =>
 pLen x59 fun x60 =>
 ∃ (I_7 : Value → Heap → Prop) (m_8 : Value → Heap → Nat), I_7 (.int .i64 0) H_5 ∧
 ∀ _ : Env, ∀ x61 : Value, ∀ H_9 : Heap, I_7 x61 H_9 →
 pLt x61 x60 fun x62 =>
 pCond x62
 (pIdxSl 3 x59 x61 fun x63 =>
 pLoadN H_9 3 x63 fun x64 =>
 pBox H_9 106 (.agg #[(.int .i64 0), (.int .i64 0), (.int .u64 0)]) fun t8 H_10 =>
 pStoreN H_10 3 t8 x64 fun _ H_11 =>
 pNil c0 fun x66 =>
 pFieldAddr 2 x66 fun x67 =>
 pLoad H_11 x67 fun x68 =>
 pFieldAddr 0 t8 fun x70 =>
 pLoad H_11 x70 fun x71 =>
 CallsH Tryz.prog 14 #[x68, w1, x71] H_11 fun x72 H_12 =>
 pFieldAddr 2 t8 fun x74 =>
 pLoad H_12 x74 fun x75 =>
 pFieldAddr 1 t8 fun x76 =>
 pLoad H_12 x76 fun x77 =>
 CallsH Tryz.prog 22 #[w1, x75, x77] H_12 fun x78 H_13 =>
 pAdd x61 (.int .i64 1) fun x79 =>
 I_7 x79 H_13 ∧ m_8 x79 H_13 < m_8 x61 H_9)
 (R (.tuple #[]) H_9))
set_option maxRecDepth 100000 in
theorem block_coder_head.vc (c0 : Value) (w1 : Value) (H0 : Heap) (R : Value → Heap → Prop) (h : block_coder_head.res c0 w1 H0 R) : CallsH Tryz.prog 28 #[c0, w1] H0 R := by
  have e : vcFn Tryz.prog Tryz.C Tryz.f28 block_coder_head.an [c0, w1] H0 R = block_coder_head.res c0 w1 H0 R := by kernel_rfl
  exact vcFn_sound Tryz.callable Tryz.mixed Tryz.func28 (by kernel_rfl) (e.mpr h)
def block_may_f1.an : Ann := (.seq (.reg (.op 0 [] (.op 1 [] .nil))) (.seq (.reg (.op 0 [] (.op 1 [] (.op 2 [] (.op 3 [] .nil))))) .leaf))
def block_may_f1.res (t0 : Value) (H0 : Heap) (R : Value → Heap → Prop) : Prop :=
 pBox H0 32 t0 fun t1 H_1 =>
 pLoadN H_1 3 t1 fun x3 =>
 CallsH Tryz.prog 49 #[x3] H_1 fun x4 H_2 =>
 pNot x4 fun x5 =>
 R x5 H_2
set_option maxRecDepth 100000 in
theorem block_may_f1.vc (t0 : Value) (H0 : Heap) (R : Value → Heap → Prop) (h : block_may_f1.res t0 H0 R) : CallsH Tryz.prog 48 #[t0] H0 R := by
  have e : vcFn Tryz.prog Tryz.C Tryz.f48 block_may_f1.an [t0] H0 R = block_may_f1.res t0 H0 R := by kernel_rfl
  exact vcFn_sound Tryz.callable Tryz.mixed Tryz.func48 (by kernel_rfl) (e.mpr h)
def block_counts.an : Ann := (.seq (.reg (.op 0 [] (.op 1 [] .nil))) (.cut [4, 5] [4, 5, 8, 9] (.drw [0, 0, 1, 7] (.fork (.op 0 [] (.op 2 [] (.op 1 [] (.op 3 [] .nil)))) (.op 1 [] (.op 0 [] (.op 2 [] (.op 3 [] .nil)))))) (.seq (.reg (.op 0 [] (.op 1 [] (.op 2 [] .nil)))) (.seq (.seq (.reg (.op 0 [] (.op 1 [] (.op 2 [] .nil)))) (.block (.loop [14] [7, 14, 15, 16, 17, 18, 19, 20, 21, 22, 23, 24, 25, 26, 27, 28, 29, 30, 31, 32, 33, 34, 35, 36, 37, 38, 39, 40, 41, 42, 43, 44, 45, 46] (.seq (.reg (.op 0 [] .nil)) (.seq (.cond .leaf .leaf) (.seq (.block (.seq (.reg (.op 0 [] (.op 1 [] (.op 2 [] (.op 3 [] .nil))))) (.seq (.seq (.reg (.op 0 [] (.op 1 [] (.op 2 [] .nil)))) (.cond (.seq (.reg (.op 0 [] (.op 1 [] (.op 2 [] (.op 3 [] (.op 4 [] (.op 5 [] (.op 6 [] (.op 7 [] .nil))))))))) .leaf) .leaf)) (.seq (.reg (.op 0 [] (.op 1 [] (.op 2 [] (.op 3 [] (.op 4 [] (.op 5 [] (.op 6 [] (.op 7 [] (.op 8 [] (.op 9 [] .nil))))))))))) (.reg (.op 0 [] (.op 1 [] (.op 2 [] (.op 3 [] (.op 4 [] (.op 5 [] (.op 6 [] (.op 7 [] (.op 8 [] (.op 9 [] .nil))))))))))))))) (.reg (.op 0 [] (.op 1 [] .nil))))))))) (.seq (.reg (.op 0 [] (.op 1 [] (.op 2 [] (.op 3 [] .nil))))) .leaf)))))
def block_counts.res (l0 : Value) (H0 : Heap) (R : Value → Heap → Prop) : Prop :=
 ∃ J_1 : Value → Value → Heap → Prop, (∀ _ : Env, ∀ syms4 : Value, ∀ dists5 : Value, ∀ H_2 : Heap, J_1 syms4 dists5 H_2 →
 pIdxSl 1 syms4 (.int .i64 256) fun x11 =>
 pStore H_2 x11 (.int .i64 1) fun _ H_3 =>
 pLen l0 fun x13 =>
 ∃ (I_4 : Value → Heap → Prop) (m_5 : Value → Heap → Nat), I_4 (.int .i64 0) H_3 ∧
 ∀ _ : Env, ∀ x14 : Value, ∀ H_6 : Heap, I_4 x14 H_6 →
 pLt x14 x13 fun x15 =>
 pCond x15
 (pIdxSl 3 l0 x14 fun x16 =>
 pLoadN H_6 3 x16 fun x17 =>
 pBox H_6 32 (.agg #[(.int .u8 0), (.int .i64 0), (.int .i64 0)]) fun t7 H_7 =>
 pStoreN H_7 3 t7 x17 fun _ H_8 =>
 pFieldAddr 1 t7 fun x18 =>
 pLoad H_8 x18 fun x19 =>
 pEq 0 x19 (.int .i64 0) fun x20 =>
 pCond x20
 (pFieldAddr 0 t7 fun x22 =>
 pLoad H_8 x22 fun x23 =>
 pIdxSl 1 syms4 x23 fun x24 =>
 pLoad H_8 x24 fun x25 =>
 pAdd x25 (.int .i64 1) fun x26 =>
 pIdxSl 1 syms4 x23 fun x27 =>
 pStore H_8 x27 x26 fun _ H_9 =>
 pAdd x14 (.int .i64 1) fun x46 =>
 I_4 x46 H_9 ∧ m_5 x46 H_9 < m_5 x14 H_6)
 (pFieldAddr 1 t7 fun x29 =>
 pLoad H_8 x29 fun x30 =>
 CallsH Tryz.prog 52 #[x30] H_8 fun x31 H_10 =>
 pField1 0 x31 fun x32 =>
 pIdxSl 1 syms4 x32 fun x33 =>
 pLoad H_10 x33 fun x34 =>
 pAdd x34 (.int .i64 1) fun x35 =>
 pIdxSl 1 syms4 x32 fun x36 =>
 pStore H_10 x36 x35 fun _ H_11 =>
 pFieldAddr 2 t7 fun x38 =>
 pLoad H_11 x38 fun x39 =>
 CallsH Tryz.prog 53 #[x39] H_11 fun x40 H_12 =>
 pField1 0 x40 fun x41 =>
 pIdxSl 1 dists5 x41 fun x42 =>
 pLoad H_12 x42 fun x43 =>
 pAdd x43 (.int .i64 1) fun x44 =>
 pIdxSl 1 dists5 x41 fun x45 =>
 pStore H_12 x45 x44 fun _ H_13 =>
 pAdd x14 (.int .i64 1) fun x46 =>
 I_4 x46 H_13 ∧ m_5 x46 H_13 < m_5 x14 H_6))
 (R (.tuple #[syms4, dists5]) H_6)) ∧
 (pMakeSl H0 3 8 [(.int .i64 0)] (.int .i64 286) (.int .i64 286) fun x8 H_14 =>
 pMakeSl H_14 3 8 [(.int .i64 0)] (.int .i64 30) (.int .i64 30) fun x9 H_15 =>
 J_1 x8 x9 H_15) ∧
 (pMakeSl H0 3 8 [(.int .i64 0)] (.int .i64 30) (.int .i64 30) fun x9 H_16 =>
 pMakeSl H_16 3 8 [(.int .i64 0)] (.int .i64 286) (.int .i64 286) fun x8 H_17 =>
 J_1 x8 x9 H_17)
set_option maxRecDepth 100000 in
theorem block_counts.vc (l0 : Value) (H0 : Heap) (R : Value → Heap → Prop) (h : block_counts.res l0 H0 R) : CallsH Tryz.prog 54 #[l0] H0 R := by
  have e : vcFn Tryz.prog Tryz.C Tryz.f54 block_counts.an [l0] H0 R = block_counts.res l0 H0 R := by kernel_rfl
  exact vcFn_sound Tryz.callable Tryz.mixed Tryz.func54 (by kernel_rfl) (e.mpr h)
def block_strict.an : Ann := (.seq (.reg (.op 0 [] .nil)) (.seq (.reg (.op 0 [] (.op 1 [] (.op 2 [] (.op 3 [] (.op 4 [] (.op 5 [] (.op 6 [] (.op 7 [] .nil))))))))) (.seq (.reg (.op 0 [] (.op 1 [] .nil))) (.seq (.seq (.reg (.op 0 [] (.op 1 [] (.op 2 [] .nil)))) (.block (.loop [7, 8, 19] [7, 8, 9, 10, 19, 20, 21, 22, 23, 24, 25, 26, 27, 28, 29, 30, 31] (.seq (.reg (.op 0 [] .nil)) (.seq (.cond .leaf .leaf) (.seq (.block (.seq (.reg (.op 0 [] (.op 1 [] (.op 2 [] (.op 3 [] (.op 4 [] .nil)))))) (.seq (.reg (.op 0 [] (.op 1 [] .nil))) (.cond (.reg (.op 0 [] (.op 1 [] (.op 2 [] .nil)))) (.seq (.reg (.op 0 [] (.op 1 [] .nil))) (.cond (.reg (.op 0 [] (.op 1 [] .nil))) .leaf)))))) (.reg (.op 0 [] (.op 1 [] .nil))))))))) (.seq (.seq (.reg (.op 0 [] (.op 1 [] .nil))) (.cond (.reg (.op 0 [] (.op 1 [] (.op 2 [] (.op 3 [] .nil))))) .leaf)) (.seq (.reg (.op 0 [] (.op 1 [] .nil))) .leaf))))))
def block_strict.res (counts0 : Value) (bits1 : Value) (H0 : Heap) (R : Value → Heap → Prop) : Prop :=
 CallsH Tryz.prog 12 #[counts0, bits1] H0 fun x14 H_1 =>
 pExtract 0 x14 fun x15 =>
 pExtract 1 x14 fun x16 =>
 pLen x15 fun x18 =>
 ∃ (I_2 : Value → Value → Value → Heap → Prop) (m_3 : Value → Value → Value → Heap → Nat), I_2 (.int .i64 0) (.int .i64 (-1)) (.int .i64 0) H_1 ∧
 ∀ _ : Env, ∀ all7 : Value, ∀ first8 : Value, ∀ x19 : Value, ∀ H_4 : Heap, I_2 all7 first8 x19 H_4 →
 pLt x19 x18 fun x20 =>
 pCond x20
 (pIdxSl 1 x15 x19 fun x22 =>
 pLoad H_4 x22 fun x23 =>
 pGt x23 (.int .i64 0) fun x25 =>
 pCond x25
 (pAdd all7 (.int .i64 1) fun x27 =>
 pAdd x19 (.int .i64 1) fun x31 =>
 I_2 x27 first8 x31 H_4 ∧ m_3 x27 first8 x31 H_4 < m_3 all7 first8 x19 H_4)
 (pLt first8 (.int .i64 0) fun x29 =>
 pCond x29
 (pAdd x19 (.int .i64 1) fun x31 =>
 I_2 all7 x19 x31 H_4 ∧ m_3 all7 x19 x31 H_4 < m_3 all7 first8 x19 H_4)
 (pAdd x19 (.int .i64 1) fun x31 =>
 I_2 all7 first8 x31 H_4 ∧ m_3 all7 first8 x31 H_4 < m_3 all7 first8 x19 H_4)))
 (pEq 0 all7 (.int .i64 1) fun x33 =>
 pCond x33
 (pIdxSl 1 x15 first8 fun x36 =>
 pStore H_4 x36 (.int .i64 1) fun _ H_5 =>
 R x15 H_5)
 (R x15 H_4))
set_option maxRecDepth 100000 in
theorem block_strict.vc (counts0 : Value) (bits1 : Value) (H0 : Heap) (R : Value → Heap → Prop) (h : block_strict.res counts0 bits1 H0 R) : CallsH Tryz.prog 55 #[counts0, bits1] H0 R := by
  have e : vcFn Tryz.prog Tryz.C Tryz.f55 block_strict.an [counts0, bits1] H0 R = block_strict.res counts0 bits1 H0 R := by kernel_rfl
  exact vcFn_sound Tryz.callable Tryz.mixed Tryz.func55 (by kernel_rfl) (e.mpr h)
def block_upto.an : Ann := (.seq (.reg (.op 0 [] .nil)) (.seq (.reg (.op 0 [] (.op 1 [] (.op 2 [] .nil)))) (.seq (.block (.loop [5] [5, 8, 9, 10, 11, 12, 13, 14, 15, 16, 17, 18, 19, 20] (.seq (.seq (.reg (.op 0 [] (.op 1 [] (.op 2 [] (.op 3 [] (.grp 3 (.op 4 [] (.op 5 [] (.op 6 [] (.op 7 [] (.op 8 [] (.op 9 [] .nil)))))) 10 .nil)))))) (.cond .leaf .leaf)) (.block (.reg (.op 0 [] (.op 1 [] (.op 2 [] .nil)))))))) (.seq (.reg (.op 0 [] (.op 1 [] .nil))) .leaf))))
def block_upto.res (l0 : Value) (least1 : Value) (H0 : Heap) (R : Value → Heap → Prop) : Prop :=
 pLen l0 fun x7 =>
 ∃ (I_1 : Value → Heap → Prop) (m_2 : Value → Heap → Nat), I_1 x7 H0 ∧
 ∀ _ : Env, ∀ n5 : Value, ∀ H_3 : Heap, I_1 n5 H_3 →
 pGt n5 least1 fun x10 =>
 pAnd x10 (fun J_4 =>
 pSub n5 (.int .i64 1) fun x14 =>
 pIdxSl 1 l0 x14 fun x15 =>
 pLoad H_3 x15 fun x16 =>
 pEq 0 x16 (.int .i64 0) fun x17 =>
 J_4 x17 H_3) H_3 fun x18 H_5 => ∀ _ : Env,
 pCond x18
 (pSub n5 (.int .i64 1) fun x20 =>
 I_1 x20 H_5 ∧ m_2 x20 H_5 < m_2 n5 H_3)
 (R n5 H_5)
set_option maxRecDepth 100000 in
theorem block_upto.vc (l0 : Value) (least1 : Value) (H0 : Heap) (R : Value → Heap → Prop) (h : block_upto.res l0 least1 H0 R) : CallsH Tryz.prog 56 #[l0, least1] H0 R := by
  have e : vcFn Tryz.prog Tryz.C Tryz.f56 block_upto.an [l0, least1] H0 R = block_upto.res l0 least1 H0 R := by kernel_rfl
  exact vcFn_sound Tryz.callable Tryz.mixed Tryz.func56 (by kernel_rfl) (e.mpr h)
def block_Pack.an : Ann := (.seq (.reg (.op 0 [] .nil)) (.seq (.reg (.op 0 [] .nil)) (.seq (.seq (.reg (.op 0 [] (.op 1 [] (.op 2 [] .nil)))) (.cond (.seq (.reg (.op 0 [] .nil)) .leaf) .leaf)) (.seq (.reg (.op 0 [] .nil)) (.seq (.seq (.reg (.op 0 [] .nil)) (.block (.loop [4, 5] [4, 5, 6, 7, 8, 9, 10, 14, 15, 16, 17, 18, 19, 20, 21, 22, 23, 24, 25, 26, 27, 28, 29, 30, 31, 32, 33, 34, 35, 36, 37, 38, 39, 40, 41, 42, 43, 44, 45, 46, 47, 48, 49, 50, 51, 52, 53, 54, 55, 56] (.seq (.seq (.reg (.op 0 [] (.op 1 [] (.op 2 [] (.op 3 [] .nil))))) (.cond .leaf .leaf)) (.block (.seq (.drw [0, 0, 3, 7, 0, 0, 48, 127, 255] (.op 0 [] (.op 1 [] (.op 2 [] (.op 3 [] (.op 4 [] (.op 5 [] (.op 6 [3] (.op 7 [] (.op 8 [] .nil)))))))))) (.seq (.reg (.op 0 [] (.op 1 [] (.op 2 [] (.op 3 [] .nil))))) (.cut [4, 7] [4, 7, 28, 29, 30, 31, 32, 33, 34, 35, 36] (.seq (.reg (.op 0 [] (.op 1 [] .nil))) (.cond (.seq (.reg (.op 0 [] (.op 1 [] (.op 2 [] (.op 3 [] (.op 4 [] (.op 5 [] .nil))))))) (.reg (.op 0 [] (.op 1 [] (.op 2 [] .nil))))) .leaf)) (.block (.loop [4, 7] [4, 7, 8, 9, 10, 37, 38, 39, 40, 41, 42, 43, 44, 45, 46, 47, 48, 49, 50, 51, 52, 53, 54, 55, 56] (.seq (.seq (.reg (.op 0 [] (.op 1 [] .nil))) (.cond .leaf .leaf)) (.block (.seq (.reg (.op 0 [] (.op 1 [] (.op 2 [] (.op 3 [] (.op 4 [] (.op 5 [] (.op 6 [] (.op 7 [] (.op 8 [] (.op 9 [] (.op 10 [] .nil)))))))))))) (.cut [9] [9, 46, 47, 48, 49] (.seq (.reg (.op 0 [] (.op 1 [] .nil))) (.cond (.reg (.op 0 [] (.op 1 [] (.op 2 [] (.op 3 [] .nil))))) .leaf)) (.seq (.reg (.op 0 [] (.op 1 [] (.op 2 [] (.op 3 [] (.op 4 [] .nil)))))) (.reg (.op 0 [] (.op 1 [] (.op 2 [] (.op 3 [] .nil)))))))))))))))))))) (.seq (.reg (.op 0 [] (.op 1 [] .nil))) .leaf))))))
def block_Pack.res (lengths0 : Value) (H0 : Heap) (R : Value → Heap → Prop) : Prop :=
 CallsH Tryz.prog 37 #[lengths0, (.func (.func 80) #[] #[])] H0 fun x13 H_1 =>
 pCond x13
 (R (.slice none 0 0) H_1)
 (∃ (I_2 : Value → Value → Heap → Prop) (m_3 : Value → Value → Heap → Nat), I_2 (.slice none 0 0) (.int .i64 0) H_1 ∧
 ∀ _ : Env, ∀ out4 : Value, ∀ i5 : Value, ∀ H_4 : Heap, I_2 out4 i5 H_4 →
 pLen lengths0 fun x16 =>
 pLt i5 x16 fun x17 =>
 pCond x17
 (pIdxSl 1 lengths0 i5 fun x20 =>
 pLoad H_4 x20 fun x21 =>
 CallsH Tryz.prog 81 #[lengths0, i5] H_4 fun x24 H_5 =>
 (pLoad H_5 x20 fun r_ =>
 r_ = x21) ∧
 pAdd i5 x24 fun x27 =>
 ∃ J_6 : Value → Value → Heap → Prop, (∀ _ : Env, ∀ out4' : Value, ∀ n7 : Value, ∀ H_7 : Heap, J_6 out4' n7 H_7 →
 ∃ (I_8 : Value → Value → Heap → Prop) (m_9 : Value → Value → Heap → Nat), I_8 out4' n7 H_7 ∧
 ∀ _ : Env, ∀ out4'' : Value, ∀ n7' : Value, ∀ H_10 : Heap, I_8 out4'' n7' H_10 →
 pGt n7' (.int .i64 0) fun x38 =>
 pCond x38
 (CallsH Tryz.prog 82 #[x21, n7'] H_10 fun x42 H_11 =>
 pExtract 0 x42 fun x43 =>
 pExtract 1 x42 fun x44 =>
 pExtract 2 x42 fun x45 =>
 pBox H_11 106 (.agg #[(.int .i64 0), (.int .i64 0), (.int .u64 0)]) fun x8 H_12 =>
 pStoreN H_12 3 x8 x43 fun _ H_13 =>
 ∃ J_14 : Value → Heap → Prop, (∀ _ : Env, ∀ k9 : Value, ∀ H_15 : Heap, J_14 k9 H_15 →
 pLoadN H_15 3 x8 fun x51 =>
 pBuildSl H_15 106 1 [(.int .i64 0), (.int .i64 0), (.int .u64 0)] [(0, 3, x51)] fun x52 H_16 =>
 pAppend H_16 106 3 24 [(.int .i64 0), (.int .i64 0), (.int .u64 0)] out4'' x52 fun x53 H_17 =>
 pSub n7' k9 fun x56 =>
 I_8 x53 x56 H_17 ∧ m_9 x53 x56 H_17 < m_9 out4'' n7' H_10) ∧
 pNot x45 fun x47 =>
 pCond x47
 (pBuild [(.int .i64 0), (.int .i64 0), (.int .u64 0)] [(0, 1, x21)] fun x49 =>
 pStoreN H_13 3 x8 x49 fun _ H_18 =>
 J_14 (.int .i64 1) H_18)
 (J_14 x44 H_13))
 (I_2 out4'' x27 H_10 ∧ m_3 out4'' x27 H_10 < m_3 out4 i5 H_4)) ∧
 pNe 0 x21 (.int .i64 0) fun x29 =>
 pCond x29
 (pBuild [(.int .i64 0), (.int .i64 0), (.int .u64 0)] [(0, 1, x21)] fun x32 =>
 pBuildSl H_5 106 1 [(.int .i64 0), (.int .i64 0), (.int .u64 0)] [(0, 3, x32)] fun x33 H_19 =>
 pAppend H_19 106 3 24 [(.int .i64 0), (.int .i64 0), (.int .u64 0)] out4 x33 fun x34 H_20 =>
 pSub x24 (.int .i64 1) fun x36 =>
 J_6 x34 x36 H_20)
 (J_6 out4 x24 H_5))
 (R out4 H_4))
set_option maxRecDepth 100000 in
theorem block_Pack.vc (lengths0 : Value) (H0 : Heap) (R : Value → Heap → Prop) (h : block_Pack.res lengths0 H0 R) : CallsH Tryz.prog 57 #[lengths0] H0 R := by
  have e : vcFn Tryz.prog Tryz.C Tryz.f57 block_Pack.an [lengths0] H0 R = block_Pack.res lengths0 H0 R := by kernel_rfl
  exact vcFn_sound Tryz.callable Tryz.mixed Tryz.func57 (by kernel_rfl) (e.mpr h)
def block_Pack_f1.an : Ann := (.seq (.reg (.op 0 [] .nil)) (.seq (.reg (.op 0 [] (.op 1 [] (.op 2 [] (.grp 2 (.op 3 [] (.op 4 [] .nil)) 5 (.op 6 [] .nil)))))) .leaf))
def block_Pack_f1.res (n0 : Value) (H0 : Heap) (R : Value → Heap → Prop) : Prop :=
 pLt n0 (.int .i64 0) fun x4 =>
 pOr x4 (fun J_1 =>
 pGt n0 (.int .i64 15) fun x7 =>
 J_1 x7 H0) H0 fun x8 H_2 => ∀ _ : Env,
 R x8 H_2
set_option maxRecDepth 100000 in
theorem block_Pack_f1.vc (n0 : Value) (H0 : Heap) (R : Value → Heap → Prop) (h : block_Pack_f1.res n0 H0 R) : CallsH Tryz.prog 80 #[n0] H0 R := by
  have e : vcFn Tryz.prog Tryz.C Tryz.f80 block_Pack_f1.an [n0] H0 R = block_Pack_f1.res n0 H0 R := by kernel_rfl
  exact vcFn_sound Tryz.callable Tryz.mixed Tryz.func80 (by kernel_rfl) (e.mpr h)
def block_run.an : Ann := (.seq (.reg (.op 0 [] .nil)) (.seq (.reg (.op 0 [] .nil)) (.seq (.block (.loop [5] [5, 6, 7, 8, 9, 10, 11, 12, 13, 14, 15, 16, 17, 18, 19, 20, 21, 22, 23, 24, 25, 26] (.seq (.seq (.drw [0, 0, 3, 0, 8, 31, 63, 127, 127, 127, 895, 2047, 4095, 127, 127, 24703, 57471, 131071, 262143] (.op 0 [] (.op 1 [] (.op 2 [] (.op 3 [] (.op 4 [] (.op 5 [] (.op 6 [] (.grp 6 (.op 7 [] (.op 8 [] (.op 9 [] (.op 10 [] (.op 11 [] (.op 12 [] (.op 13 [] (.op 14 [] (.op 15 [] (.op 16 [] (.op 17 [] .nil))))))))))) 18 .nil))))))))) (.cond .leaf .leaf)) (.block (.reg (.op 0 [] (.op 1 [] (.op 2 [] .nil)))))))) (.seq (.reg (.op 0 [] (.op 1 [] .nil))) .leaf))))
def block_run.res (l0 : Value) (i1 : Value) (H0 : Heap) (R : Value → Heap → Prop) : Prop :=
 ∃ (I_1 : Value → Heap → Prop) (m_2 : Value → Heap → Nat), I_1 (.int .i64 1) H0 ∧
 ∀ _ : Env, ∀ n5 : Value, ∀ H_3 : Heap, I_1 n5 H_3 →
 pAdd i1 n5 fun x8 =>
 pLen l0 fun x10 =>
 pLt x8 x10 fun x11 =>
 pAnd x11 (fun J_4 =>
 pAdd i1 n5 fun x16 =>
 pIdxSl 1 l0 x16 fun x17 =>
 pLoad H_3 x17 fun x18 =>
 pIdxSl 1 l0 i1 fun x21 =>
 pLoad H_3 x21 fun x22 =>
 pEq 0 x18 x22 fun x23 =>
 J_4 x23 H_3) H_3 fun x24 H_5 => ∀ _ : Env,
 pCond x24
 (pAdd n5 (.int .i64 1) fun x26 =>
 I_1 x26 H_5 ∧ m_2 x26 H_5 < m_2 n5 H_3)
 (R n5 H_5)
set_option maxRecDepth 100000 in
theorem block_run.vc (l0 : Value) (i1 : Value) (H0 : Heap) (R : Value → Heap → Prop) (h : block_run.res l0 i1 H0 R) : CallsH Tryz.prog 81 #[l0, i1] H0 R := by
  have e : vcFn Tryz.prog Tryz.C Tryz.f81 block_run.an [l0, i1] H0 R = block_run.res l0 i1 H0 R := by kernel_rfl
  exact vcFn_sound Tryz.callable Tryz.mixed Tryz.func81 (by kernel_rfl) (e.mpr h)
def block_again.an : Ann := (.seq (.reg (.op 0 [] (.op 1 [] (.op 2 [] .nil)))) (.seq (.block (.seq (.reg (.op 0 [] (.op 1 [] (.op 2 [] (.grp 2 (.op 3 [] (.op 4 [] .nil)) 5 (.op 6 [] .nil)))))) (.cond (.seq (.reg (.op 0 [] (.op 1 [] (.op 2 [] .nil)))) (.seq (.reg (.op 0 [] (.op 1 [] (.op 2 [] (.op 3 [] (.op 4 [] (.op 5 [] (.op 6 [] (.op 7 [] .nil))))))))) .leaf)) (.seq (.reg (.op 0 [] (.op 1 [] (.op 2 [] (.grp 2 (.op 3 [] (.op 4 [] .nil)) 5 (.op 6 [] .nil)))))) (.cond (.seq (.reg (.op 0 [] (.op 1 [] (.op 2 [] (.op 3 [] (.op 4 [] (.op 5 [] (.op 6 [] (.op 7 [] .nil))))))))) .leaf) (.seq (.reg (.op 0 [] (.op 1 [] (.op 2 [] (.grp 2 (.op 3 [] (.op 4 [] .nil)) 5 (.op 6 [] .nil)))))) (.cond (.seq (.reg (.op 0 [] (.op 1 [] (.op 2 [] .nil)))) (.seq (.reg (.op 0 [] (.op 1 [] (.op 2 [] (.op 3 [] (.op 4 [] (.op 5 [] (.op 6 [] (.op 7 [] .nil))))))))) .leaf)) .leaf))))))) (.seq (.reg (.op 0 [] (.op 1 [] (.op 2 [] (.op 3 [] .nil))))) .leaf)))
def block_again.res (v0 : Value) (n1 : Value) (H0 : Heap) (R : Value → Heap → Prop) : Prop :=
 pBox H0 106 (.agg #[(.int .i64 0), (.int .i64 0), (.int .u64 0)]) fun x4 H_1 =>
 pEq 0 v0 (.int .i64 0) fun x9 =>
 pAnd x9 (fun J_2 =>
 pGe n1 (.int .i64 11) fun x12 =>
 J_2 x12 H_1) H_1 fun x13 H_3 => ∀ _ : Env,
 pCond x13
 (pMin n1 (.int .i64 138) fun x15 =>
 pSub x15 (.int .i64 11) fun x17 =>
 pConv .u64 x17 fun x18 =>
 pBuild [(.int .i64 0), (.int .i64 0), (.int .u64 0)] [(0, 1, (.int .i64 18)), (1, 1, (.int .i64 7)), (2, 1, x18)] fun x19 =>
 pStoreN H_3 3 x4 x19 fun _ H_4 =>
 pLoadN H_4 3 x4 fun r_5 =>
 R (.tuple #[r_5, x15, (.bool true)]) H_4)
 (pEq 0 v0 (.int .i64 0) fun x23 =>
 pAnd x23 (fun J_6 =>
 pGe n1 (.int .i64 3) fun x26 =>
 J_6 x26 H_3) H_3 fun x27 H_7 => ∀ _ : Env,
 pCond x27
 (pSub n1 (.int .i64 3) fun x29 =>
 pConv .u64 x29 fun x30 =>
 pBuild [(.int .i64 0), (.int .i64 0), (.int .u64 0)] [(0, 1, (.int .i64 17)), (1, 1, (.int .i64 3)), (2, 1, x30)] fun x31 =>
 pStoreN H_7 3 x4 x31 fun _ H_8 =>
 pLoadN H_8 3 x4 fun r_9 =>
 R (.tuple #[r_9, n1, (.bool true)]) H_8)
 (pNe 0 v0 (.int .i64 0) fun x35 =>
 pAnd x35 (fun J_10 =>
 pGe n1 (.int .i64 3) fun x38 =>
 J_10 x38 H_7) H_7 fun x39 H_11 => ∀ _ : Env,
 pCond x39
 (pMin n1 (.int .i64 6) fun x41 =>
 pSub x41 (.int .i64 3) fun x43 =>
 pConv .u64 x43 fun x44 =>
 pBuild [(.int .i64 0), (.int .i64 0), (.int .u64 0)] [(0, 1, (.int .i64 16)), (1, 1, (.int .i64 2)), (2, 1, x44)] fun x45 =>
 pStoreN H_11 3 x4 x45 fun _ H_12 =>
 pLoadN H_12 3 x4 fun r_13 =>
 R (.tuple #[r_13, x41, (.bool true)]) H_12)
 (pBuild [(.int .i64 0), (.int .i64 0), (.int .u64 0)] [] fun x47 =>
 pStoreN H_11 3 x4 x47 fun _ H_14 =>
 pLoadN H_14 3 x4 fun r_15 =>
 R (.tuple #[r_15, (.int .i64 0), (.bool false)]) H_14)))
set_option maxRecDepth 100000 in
theorem block_again.vc (v0 : Value) (n1 : Value) (H0 : Heap) (R : Value → Heap → Prop) (h : block_again.res v0 n1 H0 R) : CallsH Tryz.prog 82 #[v0, n1] H0 R := by
  have e : vcFn Tryz.prog Tryz.C Tryz.f82 block_again.an [v0, n1] H0 R = block_again.res v0 n1 H0 R := by kernel_rfl
  exact vcFn_sound Tryz.callable Tryz.mixed Tryz.func82 (by kernel_rfl) (e.mpr h)
def bits_Writer_Align.an : Ann := (.seq (.reg (.op 0 [] (.op 1 [] (.op 2 [] (.grp 2 (.op 3 [] (.op 4 [] (.op 5 [] (.op 6 [] (.op 7 [] .nil))))) 8 .nil))))) (.cond (.reg (.op 0 [] (.op 1 [] (.op 2 [] (.op 3 [] (.op 4 [] (.op 5 [] (.op 6 [] .nil)))))))) .leaf))
def bits_Writer_Align.res (w0 : Value) (H0 : Heap) (R : Value → Heap → Prop) : Prop :=
 pNe 3 w0 (.pointer none) fun x3 =>
 pAnd x3 (fun J_1 =>
 pNil w0 fun x6 =>
 pFieldAddr 2 x6 fun x7 =>
 pLoad H0 x7 fun x8 =>
 pGt x8 (.int .i64 0) fun x9 =>
 J_1 x9 H0) H0 fun x10 H_2 => ∀ _ : Env,
 pCond x10
 (pNil w0 fun x13 =>
 pFieldAddr 2 x13 fun x14 =>
 pLoad H_2 x14 fun x15 =>
 pSub (.int .i64 8) x15 fun x16 =>
 CallsH Tryz.prog 22 #[w0, (.int .u64 0), x16] H_2 fun x17 H_3 =>
 R (.tuple #[]) H_3)
 (R (.tuple #[]) H_2)
set_option maxRecDepth 100000 in
theorem bits_Writer_Align.vc (w0 : Value) (H0 : Heap) (R : Value → Heap → Prop) (h : bits_Writer_Align.res w0 H0 R) : CallsH Tryz.prog 7 #[w0] H0 R := by
  have e : vcFn Tryz.prog Tryz.C Tryz.f7 bits_Writer_Align.an [w0] H0 R = bits_Writer_Align.res w0 H0 R := by kernel_rfl
  exact vcFn_sound Tryz.callable Tryz.mixed Tryz.func7 (by kernel_rfl) (e.mpr h)
def bits_Writer_Drain.an : Ann := (.seq (.reg (.op 0 [] .nil)) (.seq (.seq (.reg (.op 0 [] (.op 1 [] .nil))) (.cond (.seq (.reg (.op 0 [] .nil)) .leaf) .leaf)) (.seq (.reg (.op 0 [] (.op 1 [] (.op 2 [] (.op 3 [] (.op 4 [] (.op 5 [] .nil))))))) (.seq (.reg (.op 0 [] (.op 1 [] (.op 2 [] (.op 3 [] (.op 4 [] (.op 5 [] (.op 6 [] (.op 7 [] (.op 8 [] .nil)))))))))) (.seq (.reg (.op 0 [] (.op 1 [] .nil))) .leaf)))))
def bits_Writer_Drain.res (w0 : Value) (H0 : Heap) (R : Value → Heap → Prop) : Prop :=
 pEq 3 w0 (.pointer none) fun x5 =>
 pCond x5
 (R (str []) H0)
 (pNil w0 fun x7 =>
 pFieldAddr 0 x7 fun x8 =>
 pLoad H0 x8 fun x9 =>
 pStrOf H0 x9 fun x10 =>
 pNil w0 fun x13 =>
 pFieldAddr 0 x13 fun x14 =>
 pLoad H0 x14 fun x15 =>
 pSlSl 1 x15 none (some (.int .i64 0)) fun x16 =>
 pNil w0 fun x17 =>
 pFieldAddr 0 x17 fun x18 =>
 pStore H0 x18 x16 fun _ H_1 =>
 R x10 H_1)
set_option maxRecDepth 100000 in
theorem bits_Writer_Drain.vc (w0 : Value) (H0 : Heap) (R : Value → Heap → Prop) (h : bits_Writer_Drain.res w0 H0 R) : CallsH Tryz.prog 8 #[w0] H0 R := by
  have e : vcFn Tryz.prog Tryz.C Tryz.f8 bits_Writer_Drain.an [w0] H0 R = bits_Writer_Drain.res w0 H0 R := by kernel_rfl
  exact vcFn_sound Tryz.callable Tryz.mixed Tryz.func8 (by kernel_rfl) (e.mpr h)
def bits_Writer_Len.an : Ann := (.seq (.reg (.op 0 [] .nil)) (.seq (.seq (.reg (.op 0 [] (.op 1 [] .nil))) (.cond (.seq (.reg (.op 0 [] .nil)) .leaf) .leaf)) (.seq (.drw [0, 1, 3, 7, 15, 31, 0, 64, 192, 448, 1023, 2047] (.op 0 [] (.op 1 [] (.op 2 [] (.op 3 [] (.op 4 [] (.op 5 [] (.op 6 [] (.op 7 [] (.op 8 [] (.op 9 [] (.op 10 [] (.op 11 [] .nil))))))))))))) .leaf)))
def bits_Writer_Len.res (w0 : Value) (H0 : Heap) (R : Value → Heap → Prop) : Prop :=
 pEq 3 w0 (.pointer none) fun x4 =>
 pCond x4
 (R (.int .i64 0) H0)
 (pNil w0 fun x6 =>
 pFieldAddr 0 x6 fun x7 =>
 pLoad H0 x7 fun x8 =>
 pLen x8 fun x9 =>
 pMul (.int .i64 8) x9 fun x10 =>
 pNil w0 fun x12 =>
 pFieldAddr 2 x12 fun x13 =>
 pLoad H0 x13 fun x14 =>
 pAdd x10 x14 fun x15 =>
 R x15 H0)
set_option maxRecDepth 100000 in
theorem bits_Writer_Len.vc (w0 : Value) (H0 : Heap) (R : Value → Heap → Prop) (h : bits_Writer_Len.res w0 H0 R) : CallsH Tryz.prog 15 #[w0] H0 R := by
  have e : vcFn Tryz.prog Tryz.C Tryz.f15 bits_Writer_Len.an [w0] H0 R = bits_Writer_Len.res w0 H0 R := by kernel_rfl
  exact vcFn_sound Tryz.callable Tryz.mixed Tryz.func15 (by kernel_rfl) (e.mpr h)
def bits_Reader_Feed.an : Ann := (.seq (.reg (.op 0 [] (.op 1 [] .nil))) (.cond (.reg (.op 0 [] (.op 1 [] (.op 2 [] (.op 3 [] (.op 4 [] (.op 5 [] (.op 6 [] (.op 7 [] (.op 8 [] .nil)))))))))) .leaf))
def bits_Reader_Feed.res (r0 : Value) (s1 : Value) (H0 : Heap) (R : Value → Heap → Prop) : Prop :=
 pNe 3 r0 (.pointer none) fun x5 =>
 pCond x5
 (pNil r0 fun x7 =>
 pFieldAddr 0 x7 fun x8 =>
 pLoad H0 x8 fun x9 =>
 pAdd x9 s1 fun x11 =>
 pNil r0 fun x12 =>
 pFieldAddr 0 x12 fun x13 =>
 pStore H0 x13 x11 fun _ H_1 =>
 R (.tuple #[]) H_1)
 (R (.tuple #[]) H0)
set_option maxRecDepth 100000 in
theorem bits_Reader_Feed.vc (r0 : Value) (s1 : Value) (H0 : Heap) (R : Value → Heap → Prop) (h : bits_Reader_Feed.res r0 s1 H0 R) : CallsH Tryz.prog 17 #[r0, s1] H0 R := by
  have e : vcFn Tryz.prog Tryz.C Tryz.f17 bits_Reader_Feed.an [r0, s1] H0 R = bits_Reader_Feed.res r0 s1 H0 R := by kernel_rfl
  exact vcFn_sound Tryz.callable Tryz.mixed Tryz.func17 (by kernel_rfl) (e.mpr h)
def bits_Reader_Left.an : Ann := (.seq (.reg (.op 0 [] .nil)) (.seq (.seq (.reg (.op 0 [] (.op 1 [] .nil))) (.cond (.seq (.reg (.op 0 [] .nil)) .leaf) .leaf)) (.seq (.drw [0, 1, 3, 7, 0, 16, 48, 112, 240, 496, 1023, 2047] (.op 0 [] (.op 1 [] (.op 2 [] (.op 3 [] (.op 4 [] (.op 5 [] (.op 6 [] (.op 7 [] (.op 8 [] (.op 9 [] (.op 10 [] (.op 11 [] .nil))))))))))))) .leaf)))
def bits_Reader_Left.res (r0 : Value) (H0 : Heap) (R : Value → Heap → Prop) : Prop :=
 pEq 3 r0 (.pointer none) fun x4 =>
 pCond x4
 (R (.int .i64 0) H0)
 (pNil r0 fun x6 =>
 pFieldAddr 2 x6 fun x7 =>
 pLoad H0 x7 fun x8 =>
 pNil r0 fun x10 =>
 pFieldAddr 0 x10 fun x11 =>
 pLoad H0 x11 fun x12 =>
 pLenS x12 fun x13 =>
 pMul (.int .i64 8) x13 fun x14 =>
 pAdd x8 x14 fun x15 =>
 R x15 H0)
set_option maxRecDepth 100000 in
theorem bits_Reader_Left.vc (r0 : Value) (H0 : Heap) (R : Value → Heap → Prop) (h : bits_Reader_Left.res r0 H0 R) : CallsH Tryz.prog 19 #[r0] H0 R := by
  have e : vcFn Tryz.prog Tryz.C Tryz.f19 bits_Reader_Left.an [r0] H0 R = bits_Reader_Left.res r0 H0 R := by kernel_rfl
  exact vcFn_sound Tryz.callable Tryz.mixed Tryz.func19 (by kernel_rfl) (e.mpr h)
def bits_Writer_Write.an : Ann := (.seq (.seq (.reg (.op 0 [] (.op 1 [] (.op 2 [] (.grp 2 (.op 3 [] (.op 4 [] .nil)) 5 (.op 6 [] (.grp 6 (.op 7 [] (.op 8 [] .nil)) 9 .nil))))))) (.cond .leaf .leaf)) (.seq (.drw [0, 1, 3, 7, 0, 0, 32, 96, 240, 0, 512, 1536, 3584, 8176, 16383, 32767, 65535, 131071] (.op 0 [] (.op 1 [] (.op 2 [] (.op 3 [] (.op 4 [] (.op 5 [] (.op 6 [] (.op 7 [] (.op 8 [] (.op 9 [] (.op 10 [] (.op 11 [] (.op 12 [] (.op 13 [] (.op 14 [] (.op 15 [] (.op 16 [] (.op 17 [] .nil))))))))))))))))))) (.seq (.reg (.op 0 [] (.op 1 [] (.op 2 [] (.op 3 [] (.op 4 [] (.op 5 [] (.op 6 [] (.op 7 [] (.op 8 [] .nil)))))))))) (.reg (.op 0 [] (.op 1 [] .nil))))))
def bits_Writer_Write.res (w0 : Value) (v1 : Value) (n2 : Value) (H0 : Heap) (R : Value → Heap → Prop) : Prop :=
 pEq 3 w0 (.pointer none) fun x7 =>
 pOr x7 (fun J_1 =>
 pLt n2 (.int .i64 1) fun x10 =>
 J_1 x10 H0) H0 fun x11 H_2 => ∀ _ : Env,
 pOr x11 (fun J_3 =>
 pGt n2 (.int .i64 32) fun x14 =>
 J_3 x14 H_2) H_2 fun x15 H_4 => ∀ _ : Env,
 pCond x15
 (R (.tuple #[]) H_4)
 (pNil w0 fun x17 =>
 pFieldAddr 1 x17 fun x18 =>
 pLoad H_4 x18 fun x19 =>
 pShl (.int .u64 1) n2 fun x22 =>
 pSub x22 (.int .u64 1) fun x23 =>
 pBits .and v1 x23 fun x24 =>
 pNil w0 fun x26 =>
 pFieldAddr 2 x26 fun x27 =>
 pLoad H_4 x27 fun x28 =>
 pShl x24 x28 fun x29 =>
 pBits .or x19 x29 fun x30 =>
 pNil w0 fun x31 =>
 pFieldAddr 1 x31 fun x32 =>
 pStore H_4 x32 x30 fun _ H_5 =>
 pNil w0 fun x34 =>
 pFieldAddr 2 x34 fun x35 =>
 pLoad H_5 x35 fun x36 =>
 pAdd x36 n2 fun x38 =>
 pNil w0 fun x39 =>
 pFieldAddr 2 x39 fun x40 =>
 pStore H_5 x40 x38 fun _ H_6 =>
 CallsH Tryz.prog 51 #[w0] H_6 fun x42 H_7 =>
 R (.tuple #[]) H_7)
set_option maxRecDepth 100000 in
theorem bits_Writer_Write.vc (w0 : Value) (v1 : Value) (n2 : Value) (H0 : Heap) (R : Value → Heap → Prop) (h : bits_Writer_Write.res w0 v1 n2 H0 R) : CallsH Tryz.prog 22 #[w0, v1, n2] H0 R := by
  have e : vcFn Tryz.prog Tryz.C Tryz.f22 bits_Writer_Write.an [w0, v1, n2] H0 R = bits_Writer_Write.res w0 v1 n2 H0 R := by kernel_rfl
  exact vcFn_sound Tryz.callable Tryz.mixed Tryz.func22 (by kernel_rfl) (e.mpr h)
def bits_Writer_Add.an : Ann := (.seq (.reg (.op 0 [] (.op 1 [] .nil))) (.cond (.seq (.reg (.op 0 [] (.op 1 [] .nil))) (.reg (.op 0 [] (.op 1 [] (.op 2 [] (.op 3 [] (.op 4 [] (.op 5 [] (.op 6 [] (.op 7 [] (.op 8 [] (.op 9 [] .nil)))))))))))) .leaf))
def bits_Writer_Add.res (w0 : Value) (s1 : Value) (H0 : Heap) (R : Value → Heap → Prop) : Prop :=
 pNe 3 w0 (.pointer none) fun x5 =>
 pCond x5
 (CallsH Tryz.prog 7 #[w0] H0 fun x7 H_1 =>
 pNil w0 fun x10 =>
 pFieldAddr 0 x10 fun x11 =>
 pLoad H_1 x11 fun x12 =>
 pAppend H_1 5 1 1 [(.int .u8 0)] x12 s1 fun x14 H_2 =>
 pNil w0 fun x15 =>
 pFieldAddr 0 x15 fun x16 =>
 pStore H_2 x16 x14 fun _ H_3 =>
 R (.tuple #[]) H_3)
 (R (.tuple #[]) H0)
set_option maxRecDepth 100000 in
theorem bits_Writer_Add.vc (w0 : Value) (s1 : Value) (H0 : Heap) (R : Value → Heap → Prop) (h : bits_Writer_Add.res w0 s1 H0 R) : CallsH Tryz.prog 23 #[w0, s1] H0 R := by
  have e : vcFn Tryz.prog Tryz.C Tryz.f23 bits_Writer_Add.an [w0, s1] H0 R = bits_Writer_Add.res w0 s1 H0 R := by kernel_rfl
  exact vcFn_sound Tryz.callable Tryz.mixed Tryz.func23 (by kernel_rfl) (e.mpr h)
def bits_Put.an : Ann := (.seq (.reg (.op 0 [] .nil)) (.seq (.seq (.reg (.op 0 [] (.op 1 [] (.op 2 [] (.grp 2 (.op 3 [] (.op 4 [] .nil)) 5 .nil))))) (.cond (.seq (.reg (.op 0 [] .nil)) .leaf) .leaf)) (.seq (.reg (.op 0 [] (.op 1 [] (.op 2 [] .nil)))) (.seq (.seq (.reg (.op 0 [] (.op 1 [] (.op 2 [] .nil)))) (.block (.loop [17] [6, 17, 18, 19, 20, 21, 22, 23, 24, 25, 26, 27, 28] (.seq (.reg (.op 0 [] .nil)) (.seq (.cond .leaf .leaf) (.seq (.block (.seq (.reg (.op 0 [] (.op 1 [] .nil))) (.reg (.op 0 [] (.op 1 [] (.op 2 [] (.op 3 [] (.op 4 [] (.op 5 [] (.op 6 [] (.op 7 [] (.op 8 [] .nil)))))))))))) (.reg (.op 0 [] (.op 1 [] .nil))))))))) (.seq (.reg (.op 0 [] (.op 1 [] (.op 2 [] .nil)))) .leaf)))))
def bits_Put.res (n0 : Value) (size1 : Value) (H0 : Heap) (R : Value → Heap → Prop) : Prop :=
 pLt size1 (.int .i64 1) fun x8 =>
 pOr x8 (fun J_1 =>
 pGt size1 (.int .i64 8) fun x11 =>
 J_1 x11 H0) H0 fun x12 H_2 => ∀ _ : Env,
 pCond x12
 (R (str []) H_2)
 (pMakeSl H_2 5 1 [(.int .u8 0)] size1 size1 fun x14 H_3 =>
 pLen x14 fun x16 =>
 ∃ (I_4 : Value → Heap → Prop) (m_5 : Value → Heap → Nat), I_4 (.int .i64 0) H_3 ∧
 ∀ _ : Env, ∀ x17 : Value, ∀ H_6 : Heap, I_4 x17 H_6 →
 pLt x17 x16 fun x18 =>
 pCond x18
 (pMul (.int .i64 8) x17 fun x24 =>
 pShr n0 x24 fun x25 =>
 pConv .u8 x25 fun x26 =>
 pIdxSl 1 x14 x17 fun x27 =>
 pStore H_6 x27 x26 fun _ H_7 =>
 pAdd x17 (.int .i64 1) fun x28 =>
 I_4 x28 H_7 ∧ m_5 x28 H_7 < m_5 x17 H_6)
 (pStrOf H_6 x14 fun x30 =>
 R x30 H_6))
set_option maxRecDepth 100000 in
theorem bits_Put.vc (n0 : Value) (size1 : Value) (H0 : Heap) (R : Value → Heap → Prop) (h : bits_Put.res n0 size1 H0 R) : CallsH Tryz.prog 24 #[n0, size1] H0 R := by
  have e : vcFn Tryz.prog Tryz.C Tryz.f24 bits_Put.an [n0, size1] H0 R = bits_Put.res n0 size1 H0 R := by kernel_rfl
  exact vcFn_sound Tryz.callable Tryz.mixed Tryz.func24 (by kernel_rfl) (e.mpr h)
def bits_Reader_Peek.an : Ann := (.seq (.reg (.op 0 [] (.op 1 [] .nil))) (.seq (.seq (.reg (.op 0 [] (.op 1 [] (.op 2 [] (.grp 2 (.op 3 [] (.op 4 [] .nil)) 5 (.op 6 [] (.grp 6 (.op 7 [] (.op 8 [] .nil)) 9 (.op 10 [] (.grp 10 (.op 11 [] (.op 12 [] (.op 13 [] (.op 14 [] .nil)))) 15 .nil))))))))) (.cond (.seq (.reg (.op 0 [] (.op 1 [] .nil))) .leaf) .leaf)) (.seq (.reg (.op 0 [] (.op 1 [] (.op 2 [] .nil)))) (.seq (.drw [0, 1, 3, 7, 0, 16, 48, 127, 255, 511] (.op 0 [] (.op 1 [] (.op 2 [] (.op 3 [] (.op 4 [] (.op 5 [] (.op 6 [] (.op 7 [] (.op 8 [] (.op 9 [] .nil))))))))))) .leaf))))
def bits_Reader_Peek.res (r0 : Value) (n1 : Value) (H0 : Heap) (R : Value → Heap → Prop) : Prop :=
 pEq 3 r0 (.pointer none) fun x7 =>
 pOr x7 (fun J_1 =>
 pLt n1 (.int .i64 0) fun x10 =>
 J_1 x10 H0) H0 fun x11 H_2 => ∀ _ : Env,
 pOr x11 (fun J_3 =>
 pGt n1 (.int .i64 32) fun x14 =>
 J_3 x14 H_2) H_2 fun x15 H_4 => ∀ _ : Env,
 pOr x15 (fun J_5 =>
 CallsH Tryz.prog 19 #[r0] H_4 fun x18 H_7 =>
 pLt x18 n1 fun x20 =>
 J_5 x20 H_7) H_4 fun x21 H_6 => ∀ _ : Env,
 pCond x21
 (R (.tuple #[(.int .u64 0), (.bool false)]) H_6)
 (CallsH Tryz.prog 71 #[r0, n1] H_6 fun x24 H_8 =>
 pNil r0 fun x26 =>
 pFieldAddr 1 x26 fun x27 =>
 pLoad H_8 x27 fun x28 =>
 pShl (.int .u64 1) n1 fun x30 =>
 pSub x30 (.int .u64 1) fun x31 =>
 pBits .and x28 x31 fun x32 =>
 R (.tuple #[x32, (.bool true)]) H_8)
set_option maxRecDepth 100000 in
theorem bits_Reader_Peek.vc (r0 : Value) (n1 : Value) (H0 : Heap) (R : Value → Heap → Prop) (h : bits_Reader_Peek.res r0 n1 H0 R) : CallsH Tryz.prog 43 #[r0, n1] H0 R := by
  have e : vcFn Tryz.prog Tryz.C Tryz.f43 bits_Reader_Peek.an [r0, n1] H0 R = bits_Reader_Peek.res r0 n1 H0 R := by kernel_rfl
  exact vcFn_sound Tryz.callable Tryz.mixed Tryz.func43 (by kernel_rfl) (e.mpr h)
def bits_Reader_Read.an : Ann := (.seq (.reg (.op 0 [] (.op 1 [] .nil))) (.seq (.reg (.op 0 [] (.op 1 [] (.op 2 [] (.op 3 [] (.op 4 [] (.op 5 [] (.op 6 [] (.op 7 [] .nil))))))))) (.cut [] [14, 15, 16, 17] (.seq (.reg (.op 0 [] .nil)) (.cond (.reg (.op 0 [] (.op 1 [] (.op 2 [] .nil)))) .leaf)) (.seq (.reg (.op 0 [] (.op 1 [] (.op 2 [] (.op 3 [] .nil))))) .leaf))))
def bits_Reader_Read.res (r0 : Value) (n1 : Value) (H0 : Heap) (R : Value → Heap → Prop) : Prop :=
 CallsH Tryz.prog 43 #[r0, n1] H0 fun x11 H_1 =>
 pExtract 0 x11 fun x12 =>
 pExtract 1 x11 fun x13 =>
 ∃ J_2 : Heap → Prop, (∀ _ : Env, ∀ H_3 : Heap, J_2 H_3 →
 R (.tuple #[x12, x13]) H_3) ∧
 pCond x13
 (CallsH Tryz.prog 72 #[r0, n1] H_1 fun x17 H_4 =>
 J_2 H_4)
 (J_2 H_1)
set_option maxRecDepth 100000 in
theorem bits_Reader_Read.vc (r0 : Value) (n1 : Value) (H0 : Heap) (R : Value → Heap → Prop) (h : bits_Reader_Read.res r0 n1 H0 R) : CallsH Tryz.prog 45 #[r0, n1] H0 R := by
  have e : vcFn Tryz.prog Tryz.C Tryz.f45 bits_Reader_Read.an [r0, n1] H0 R = bits_Reader_Read.res r0 n1 H0 R := by kernel_rfl
  exact vcFn_sound Tryz.callable Tryz.mixed Tryz.func45 (by kernel_rfl) (e.mpr h)
def bits_Writer_spill.an : Ann := (.block (.loop [] [2, 3, 4, 5, 6, 7, 8, 9, 10, 11, 12, 13, 14, 15, 16, 17, 18, 19, 20, 21, 22, 23, 24, 25, 26, 27, 28, 29, 30, 31, 32, 33, 34] (.seq (.seq (.reg (.op 0 [] (.op 1 [] (.op 2 [] (.op 3 [] (.op 4 [] .nil)))))) (.cond .leaf .leaf)) (.seq (.block (.seq (.drw [0, 0, 2, 6, 14, 0, 32, 96, 224, 480, 992, 2046, 4095, 8191, 16383] (.op 0 [] (.op 1 [] (.op 2 [] (.op 3 [] (.op 4 [] (.op 5 [] (.op 6 [] (.op 7 [] (.op 8 [] (.op 9 [] (.op 10 [4] (.op 11 [] (.op 12 [] (.op 13 [] (.op 14 [] .nil)))))))))))))))) (.reg (.op 0 [] (.op 1 [] (.op 2 [] (.op 3 [] (.op 4 [] (.op 5 [] (.op 6 [] (.op 7 [] .nil))))))))))) (.reg (.op 0 [] (.op 1 [] (.op 2 [] (.op 3 [] (.op 4 [] (.op 5 [] (.op 6 [] (.op 7 [] .nil)))))))))))))
def bits_Writer_spill.res (w0 : Value) (H0 : Heap) (R : Value → Heap → Prop) : Prop :=
 ∃ (I_1 : Heap → Prop) (m_2 : Heap → Nat), I_1 H0 ∧
 ∀ _ : Env, ∀ H_3 : Heap, I_1 H_3 →
 pNil w0 fun x3 =>
 pFieldAddr 2 x3 fun x4 =>
 pLoad H_3 x4 fun x5 =>
 pGe x5 (.int .i64 8) fun x6 =>
 pCond x6
 (pNil w0 fun x16 =>
 pFieldAddr 0 x16 fun x17 =>
 pLoad H_3 x17 fun x18 =>
 pNil w0 fun x20 =>
 pFieldAddr 1 x20 fun x21 =>
 pLoad H_3 x21 fun x22 =>
 pConv .u8 x22 fun x23 =>
 pBuildSl H_3 5 1 [(.int .u8 0)] [(0, 1, x23)] fun x24 H_4 =>
 (pLoad H_4 x17 fun r_ =>
 r_ = x18) ∧
 pAppend H_4 5 1 1 [(.int .u8 0)] x18 x24 fun x25 H_5 =>
 pNil w0 fun x26 =>
 pFieldAddr 0 x26 fun x27 =>
 pStore H_5 x27 x25 fun _ H_6 =>
 pNil w0 fun x29 =>
 pFieldAddr 1 x29 fun x30 =>
 pLoad H_6 x30 fun x31 =>
 pShr x31 (.int .u64 8) fun x32 =>
 pNil w0 fun x33 =>
 pFieldAddr 1 x33 fun x34 =>
 pStore H_6 x34 x32 fun _ H_7 =>
 pNil w0 fun x8 =>
 pFieldAddr 2 x8 fun x9 =>
 pLoad H_7 x9 fun x10 =>
 pSub x10 (.int .i64 8) fun x11 =>
 pNil w0 fun x12 =>
 pFieldAddr 2 x12 fun x13 =>
 pStore H_7 x13 x11 fun _ H_8 =>
 I_1 H_8 ∧ m_2 H_8 < m_2 H_3)
 (R (.tuple #[]) H_3)
set_option maxRecDepth 100000 in
theorem bits_Writer_spill.vc (w0 : Value) (H0 : Heap) (R : Value → Heap → Prop) (h : bits_Writer_spill.res w0 H0 R) : CallsH Tryz.prog 51 #[w0] H0 R := by
  have e : vcFn Tryz.prog Tryz.C Tryz.f51 bits_Writer_spill.an [w0] H0 R = bits_Writer_spill.res w0 H0 R := by kernel_rfl
  exact vcFn_sound Tryz.callable Tryz.mixed Tryz.func51 (by kernel_rfl) (e.mpr h)
def bits_Reader_fill.an : Ann := (.block (.loop [] [4, 5, 6, 7, 8, 9, 10, 11, 12, 13, 14, 15, 16, 17, 18, 19, 20, 21, 22, 23, 24, 25, 26, 27, 28, 29, 30, 31, 32, 33, 34, 35, 36, 37, 38, 39, 40, 41, 42, 43, 44, 45, 46, 47, 48, 49] (.seq (.seq (.reg (.op 0 [] (.op 1 [] (.op 2 [] (.op 3 [] (.op 4 [] (.op 5 [] (.op 6 [] (.grp 6 (.op 7 [] (.op 8 [] (.op 9 [] (.op 10 [] (.op 11 [] .nil))))) 12 .nil))))))))) (.cond .leaf .leaf)) (.block (.seq (.drw [0, 1, 3, 7, 0, 16, 48, 112, 240, 496, 0, 1024, 3072, 7168, 16368, 32767, 65535, 131071, 262143] (.op 0 [] (.op 1 [] (.op 2 [] (.op 3 [] (.op 4 [] (.op 5 [] (.op 6 [] (.op 7 [] (.op 8 [] (.op 9 [] (.op 10 [] (.op 11 [] (.op 12 [] (.op 13 [] (.op 14 [] (.op 15 [] (.op 16 [] (.op 17 [] (.op 18 [] .nil)))))))))))))))))))) (.seq (.reg (.op 0 [] (.op 1 [] (.op 2 [] (.op 3 [] (.op 4 [] (.op 5 [] (.op 6 [] (.op 7 [] (.op 8 [] .nil)))))))))) (.reg (.op 0 [] (.op 1 [] (.op 2 [] (.op 3 [] (.op 4 [] (.op 5 [] (.op 6 [] (.op 7 [] .nil)))))))))))))))
def bits_Reader_fill.res (r0 : Value) (n1 : Value) (H0 : Heap) (R : Value → Heap → Prop) : Prop :=
 ∃ (I_1 : Heap → Prop) (m_2 : Heap → Nat), I_1 H0 ∧
 ∀ _ : Env, ∀ H_3 : Heap, I_1 H_3 →
 pNil r0 fun x5 =>
 pFieldAddr 2 x5 fun x6 =>
 pLoad H_3 x6 fun x7 =>
 pLt x7 n1 fun x9 =>
 pAnd x9 (fun J_4 =>
 pNil r0 fun x12 =>
 pFieldAddr 0 x12 fun x13 =>
 pLoad H_3 x13 fun x14 =>
 pNe 1 x14 (str []) fun x15 =>
 J_4 x15 H_3) H_3 fun x16 H_5 => ∀ _ : Env,
 pCond x16
 (pNil r0 fun x18 =>
 pFieldAddr 1 x18 fun x19 =>
 pLoad H_5 x19 fun x20 =>
 pNil r0 fun x22 =>
 pFieldAddr 0 x22 fun x23 =>
 pLoad H_5 x23 fun x24 =>
 pIdxStr x24 (.int .i64 0) fun x25 =>
 pConv .u64 x25 fun x26 =>
 pNil r0 fun x28 =>
 pFieldAddr 2 x28 fun x29 =>
 pLoad H_5 x29 fun x30 =>
 pShl x26 x30 fun x31 =>
 pBits .or x20 x31 fun x32 =>
 pNil r0 fun x33 =>
 pFieldAddr 1 x33 fun x34 =>
 pStore H_5 x34 x32 fun _ H_6 =>
 pNil r0 fun x37 =>
 pFieldAddr 0 x37 fun x38 =>
 pLoad H_6 x38 fun x39 =>
 pSlStr x39 (some (.int .i64 1)) none fun x40 =>
 pNil r0 fun x41 =>
 pFieldAddr 0 x41 fun x42 =>
 pStore H_6 x42 x40 fun _ H_7 =>
 pNil r0 fun x44 =>
 pFieldAddr 2 x44 fun x45 =>
 pLoad H_7 x45 fun x46 =>
 pAdd x46 (.int .i64 8) fun x47 =>
 pNil r0 fun x48 =>
 pFieldAddr 2 x48 fun x49 =>
 pStore H_7 x49 x47 fun _ H_8 =>
 I_1 H_8 ∧ m_2 H_8 < m_2 H_3)
 (R (.tuple #[]) H_5)
set_option maxRecDepth 100000 in
theorem bits_Reader_fill.vc (r0 : Value) (n1 : Value) (H0 : Heap) (R : Value → Heap → Prop) (h : bits_Reader_fill.res r0 n1 H0 R) : CallsH Tryz.prog 71 #[r0, n1] H0 R := by
  have e : vcFn Tryz.prog Tryz.C Tryz.f71 bits_Reader_fill.an [r0, n1] H0 R = bits_Reader_fill.res r0 n1 H0 R := by kernel_rfl
  exact vcFn_sound Tryz.callable Tryz.mixed Tryz.func71 (by kernel_rfl) (e.mpr h)
def bits_Reader_drop.an : Ann := (.seq (.reg (.op 0 [] (.op 1 [] (.op 2 [] (.op 3 [] (.op 4 [] (.op 5 [] (.op 6 [] (.op 7 [] (.op 8 [] .nil)))))))))) (.reg (.op 0 [] (.op 1 [] (.op 2 [] (.op 3 [] (.op 4 [] (.op 5 [] (.op 6 [] (.op 7 [] (.op 8 [] .nil)))))))))))
def bits_Reader_drop.res (r0 : Value) (n1 : Value) (H0 : Heap) (R : Value → Heap → Prop) : Prop :=
 pNil r0 fun x5 =>
 pFieldAddr 1 x5 fun x6 =>
 pLoad H0 x6 fun x7 =>
 pShr x7 n1 fun x9 =>
 pNil r0 fun x10 =>
 pFieldAddr 1 x10 fun x11 =>
 pStore H0 x11 x9 fun _ H_1 =>
 pNil r0 fun x13 =>
 pFieldAddr 2 x13 fun x14 =>
 pLoad H_1 x14 fun x15 =>
 pSub x15 n1 fun x17 =>
 pNil r0 fun x18 =>
 pFieldAddr 2 x18 fun x19 =>
 pStore H_1 x19 x17 fun _ H_2 =>
 R (.tuple #[]) H_2
set_option maxRecDepth 100000 in
theorem bits_Reader_drop.vc (r0 : Value) (n1 : Value) (H0 : Heap) (R : Value → Heap → Prop) (h : bits_Reader_drop.res r0 n1 H0 R) : CallsH Tryz.prog 72 #[r0, n1] H0 R := by
  have e : vcFn Tryz.prog Tryz.C Tryz.f72 bits_Reader_drop.an [r0, n1] H0 R = bits_Reader_drop.res r0 n1 H0 R := by kernel_rfl
  exact vcFn_sound Tryz.callable Tryz.mixed Tryz.func72 (by kernel_rfl) (e.mpr h)
def bits_Reader_Take.an : Ann := (.seq (.reg (.op 0 [] .nil)) (.seq (.seq (.reg (.op 0 [] (.op 1 [] .nil))) (.cond (.seq (.reg (.op 0 [] .nil)) .leaf) .leaf)) (.seq (.reg (.op 0 [] (.op 1 [] .nil))) (.seq (.seq (.reg (.op 0 [] (.op 1 [] .nil))) (.cond (.seq (.reg (.op 0 [] .nil)) .leaf) .leaf)) (.seq (.reg (.op 0 [] .nil)) (.seq (.block (.loop [1, 5] [1, 5, 13, 14, 15, 16, 17, 18, 19, 20, 21, 22, 23, 24, 25, 26, 27, 28, 29, 30, 31, 32, 33] (.seq (.seq (.reg (.op 0 [] (.op 1 [] (.op 2 [] (.grp 2 (.op 3 [] (.op 4 [] (.op 5 [] (.op 6 [] (.op 7 [] .nil))))) 8 .nil))))) (.cond .leaf .leaf)) (.seq (.block (.seq (.reg (.op 0 [] (.op 1 [] (.op 2 [] (.op 3 [] (.op 4 [] (.op 5 [] (.op 6 [] (.op 7 [] (.op 8 [] .nil)))))))))) (.reg (.op 0 [] (.op 1 [] .nil))))) (.reg (.op 0 [] (.op 1 [] (.op 2 [] .nil)))))))) (.seq (.reg (.op 0 [] (.op 1 [] (.op 2 [] (.op 3 [] (.op 4 [] (.op 5 [] (.op 6 [] (.op 7 [] .nil))))))))) (.seq (.drw [0, 1, 0, 4, 12, 28, 0, 124, 255, 511] (.op 0 [] (.op 1 [] (.op 2 [] (.op 3 [] (.op 4 [] (.op 5 [] (.op 6 [] (.op 7 [] (.op 8 [] (.op 9 [] .nil))))))))))) (.seq (.reg (.op 0 [] (.op 1 [] (.op 2 [] (.op 3 [] (.op 4 [] (.op 5 [] (.op 6 [] (.op 7 [] (.op 8 [] (.op 9 [] .nil))))))))))) (.seq (.reg (.op 0 [] (.op 1 [] .nil))) .leaf))))))))))
def bits_Reader_Take.res (r0 : Value) (n1 : Value) (H0 : Heap) (R : Value → Heap → Prop) : Prop :=
 pEq 3 r0 (.pointer none) fun x8 =>
 pCond x8
 (R (str []) H0)
 (CallsH Tryz.prog 99 #[r0] H0 fun x10 H_1 =>
 pLe n1 (.int .i64 0) fun x12 =>
 pCond x12
 (R (str []) H_1)
 (∃ (I_2 : Value → Value → Heap → Prop) (m_3 : Value → Value → Heap → Nat), I_2 n1 (.slice none 0 0) H_1 ∧
 ∀ _ : Env, ∀ n1' : Value, ∀ b5 : Value, ∀ H_4 : Heap, I_2 n1' b5 H_4 →
 pGt n1' (.int .i64 0) fun x14 =>
 pAnd x14 (fun J_5 =>
 pNil r0 fun x17 =>
 pFieldAddr 2 x17 fun x18 =>
 pLoad H_4 x18 fun x19 =>
 pGt x19 (.int .i64 0) fun x20 =>
 J_5 x20 H_4) H_4 fun x21 H_6 => ∀ _ : Env,
 pCond x21
 (pNil r0 fun x26 =>
 pFieldAddr 1 x26 fun x27 =>
 pLoad H_6 x27 fun x28 =>
 pConv .u8 x28 fun x29 =>
 pBuildSl H_6 5 1 [(.int .u8 0)] [(0, 1, x29)] fun x30 H_7 =>
 pAppend H_7 5 1 1 [(.int .u8 0)] b5 x30 fun x31 H_8 =>
 CallsH Tryz.prog 72 #[r0, (.int .i64 8)] H_8 fun x33 H_9 =>
 pSub n1' (.int .i64 1) fun x23 =>
 I_2 x23 x31 H_9 ∧ m_3 x23 x31 H_9 < m_3 n1' b5 H_4)
 (pNil r0 fun x36 =>
 pFieldAddr 0 x36 fun x37 =>
 pLoad H_6 x37 fun x38 =>
 pLenS x38 fun x39 =>
 pMin n1' x39 fun x40 =>
 pStrOf H_6 b5 fun x42 =>
 pNil r0 fun x44 =>
 pFieldAddr 0 x44 fun x45 =>
 pLoad H_6 x45 fun x46 =>
 pSlStr x46 none (some x40) fun x48 =>
 pAdd x42 x48 fun x49 =>
 pNil r0 fun x52 =>
 pFieldAddr 0 x52 fun x53 =>
 pLoad H_6 x53 fun x54 =>
 pSlStr x54 (some x40) none fun x56 =>
 pNil r0 fun x57 =>
 pFieldAddr 0 x57 fun x58 =>
 pStore H_6 x58 x56 fun _ H_10 =>
 R x49 H_10)))
set_option maxRecDepth 100000 in
theorem bits_Reader_Take.vc (r0 : Value) (n1 : Value) (H0 : Heap) (R : Value → Heap → Prop) (h : bits_Reader_Take.res r0 n1 H0 R) : CallsH Tryz.prog 75 #[r0, n1] H0 R := by
  have e : vcFn Tryz.prog Tryz.C Tryz.f75 bits_Reader_Take.an [r0, n1] H0 R = bits_Reader_Take.res r0 n1 H0 R := by kernel_rfl
  exact vcFn_sound Tryz.callable Tryz.mixed Tryz.func75 (by kernel_rfl) (e.mpr h)
def bits_Len.an : Ann := (.seq (.reg (.op 0 [] .nil)) (.seq (.cond (.seq (.reg (.op 0 [] (.op 1 [] (.op 2 [] (.op 3 [] .nil))))) .leaf) .leaf) (.seq (.reg (.op 0 [] (.op 1 [] (.op 2 [] .nil)))) .leaf)))
def bits_Len.res (x0 : Value) (H0 : Heap) (R : Value → Heap → Prop) : Prop :=
 pCond (.bool false)
 (pConv .u32 x0 fun x4 =>
 CallsH Tryz.prog 114 #[x4] H0 fun x5 H_1 =>
 R x5 H_1)
 (CallsH Tryz.prog 115 #[x0] H0 fun x7 H_2 =>
 R x7 H_2)
set_option maxRecDepth 100000 in
theorem bits_Len.vc (x0 : Value) (H0 : Heap) (R : Value → Heap → Prop) (h : bits_Len.res x0 H0 R) : CallsH Tryz.prog 95 #[x0] H0 R := by
  have e : vcFn Tryz.prog Tryz.C Tryz.f95 bits_Len.an [x0] H0 R = bits_Len.res x0 H0 R := by kernel_rfl
  exact vcFn_sound Tryz.callable Tryz.mixed Tryz.func95 (by kernel_rfl) (e.mpr h)
def bits_Reader_Align.an : Ann := (.seq (.reg (.op 0 [] (.op 1 [] .nil))) (.cond (.reg (.op 0 [] (.op 1 [] (.op 2 [] (.op 3 [] (.op 4 [] (.op 5 [] (.op 6 [] .nil)))))))) .leaf))
def bits_Reader_Align.res (r0 : Value) (H0 : Heap) (R : Value → Heap → Prop) : Prop :=
 pNe 3 r0 (.pointer none) fun x3 =>
 pCond x3
 (pNil r0 fun x6 =>
 pFieldAddr 2 x6 fun x7 =>
 pLoad H0 x7 fun x8 =>
 pRem x8 (.int .i64 8) fun x9 =>
 CallsH Tryz.prog 72 #[r0, x9] H0 fun x10 H_1 =>
 R (.tuple #[]) H_1)
 (R (.tuple #[]) H0)
set_option maxRecDepth 100000 in
theorem bits_Reader_Align.vc (r0 : Value) (H0 : Heap) (R : Value → Heap → Prop) (h : bits_Reader_Align.res r0 H0 R) : CallsH Tryz.prog 99 #[r0] H0 R := by
  have e : vcFn Tryz.prog Tryz.C Tryz.f99 bits_Reader_Align.an [r0] H0 R = bits_Reader_Align.res r0 H0 R := by kernel_rfl
  exact vcFn_sound Tryz.callable Tryz.mixed Tryz.func99 (by kernel_rfl) (e.mpr h)
def bits_Len32.an : Ann := (.seq (.reg (.op 0 [] .nil)) (.cut [0, 2] [0, 2, 3, 4, 5, 6] (.seq (.reg (.op 0 [] (.op 1 [] .nil))) (.cond (.seq (.reg (.op 0 [] (.op 1 [] (.op 2 [] .nil)))) (.reg (.op 0 [] .nil))) .leaf)) (.cut [0, 2] [0, 2, 7, 8, 9, 10, 11, 12] (.seq (.reg (.op 0 [] (.op 1 [] .nil))) (.cond (.seq (.reg (.op 0 [] (.op 1 [] (.op 2 [] .nil)))) (.reg (.op 0 [] (.op 1 [] (.op 2 [] .nil))))) .leaf)) (.seq (.reg (.op 0 [] (.op 1 [] (.op 2 [] (.op 3 [] (.op 4 [] (.op 5 [] (.op 6 [] .nil)))))))) .leaf))))
def bits_Len32.res (x0 : Value) (H0 : Heap) (R : Value → Heap → Prop) : Prop :=
 ∃ J_1 : Value → Value → Heap → Prop, (∀ _ : Env, ∀ x0' : Value, ∀ n2 : Value, ∀ H_2 : Heap, J_1 x0' n2 H_2 →
 ∃ J_3 : Value → Value → Heap → Prop, (∀ _ : Env, ∀ x0'' : Value, ∀ n2' : Value, ∀ H_4 : Heap, J_3 x0'' n2' H_4 →
 pConv .u8 x0'' fun x15 =>
 pIdxStr (str [0, 1, 2, 2, 3, 3, 3, 3, 4, 4, 4, 4, 4, 4, 4, 4, 5, 5, 5, 5, 5, 5, 5, 5, 5, 5, 5, 5, 5, 5, 5, 5, 6, 6, 6, 6, 6, 6, 6, 6, 6, 6, 6, 6, 6, 6, 6, 6, 6, 6, 6, 6, 6, 6, 6, 6, 6, 6, 6, 6, 6, 6, 6, 6, 7, 7, 7, 7, 7, 7, 7, 7, 7, 7, 7, 7, 7, 7, 7, 7, 7, 7, 7, 7, 7, 7, 7, 7, 7, 7, 7, 7, 7, 7, 7, 7, 7, 7, 7, 7, 7, 7, 7, 7, 7, 7, 7, 7, 7, 7, 7, 7, 7, 7, 7, 7, 7, 7, 7, 7, 7, 7, 7, 7, 7, 7, 7, 7, 8, 8, 8, 8, 8, 8, 8, 8, 8, 8, 8, 8, 8, 8, 8, 8, 8, 8, 8, 8, 8, 8, 8, 8, 8, 8, 8, 8, 8, 8, 8, 8, 8, 8, 8, 8, 8, 8, 8, 8, 8, 8, 8, 8, 8, 8, 8, 8, 8, 8, 8, 8, 8, 8, 8, 8, 8, 8, 8, 8, 8, 8, 8, 8, 8, 8, 8, 8, 8, 8, 8, 8, 8, 8, 8, 8, 8, 8, 8, 8, 8, 8, 8, 8, 8, 8, 8, 8, 8, 8, 8, 8, 8, 8, 8, 8, 8, 8, 8, 8, 8, 8, 8, 8, 8, 8, 8, 8, 8, 8, 8, 8, 8, 8, 8, 8, 8, 8, 8, 8, 8, 8, 8, 8, 8, 8, 8, 8]) x15 fun x16 =>
 pConv .i64 x16 fun x17 =>
 pAdd n2' x17 fun x18 =>
 R x18 H_4) ∧
 pGe x0' (.int .u32 256) fun x8 =>
 pCond x8
 (pShr x0' (.int .u64 8) fun x10 =>
 pAdd n2 (.int .i64 8) fun x12 =>
 J_3 x10 x12 H_2)
 (J_3 x0' n2 H_2)) ∧
 pGe x0 (.int .u32 65536) fun x4 =>
 pCond x4
 (pShr x0 (.int .u64 16) fun x6 =>
 J_1 x6 (.int .i64 16) H0)
 (J_1 x0 (.int .i64 0) H0)
set_option maxRecDepth 100000 in
theorem bits_Len32.vc (x0 : Value) (H0 : Heap) (R : Value → Heap → Prop) (h : bits_Len32.res x0 H0 R) : CallsH Tryz.prog 114 #[x0] H0 R := by
  have e : vcFn Tryz.prog Tryz.C Tryz.f114 bits_Len32.an [x0] H0 R = bits_Len32.res x0 H0 R := by kernel_rfl
  exact vcFn_sound Tryz.callable Tryz.mixed Tryz.func114 (by kernel_rfl) (e.mpr h)
def bits_Len64.an : Ann := (.seq (.reg (.op 0 [] .nil)) (.cut [0, 2] [0, 2, 3, 4, 5, 6] (.seq (.reg (.op 0 [] (.op 1 [] .nil))) (.cond (.seq (.reg (.op 0 [] (.op 1 [] (.op 2 [] .nil)))) (.reg (.op 0 [] .nil))) .leaf)) (.cut [0, 2] [0, 2, 7, 8, 9, 10, 11, 12] (.seq (.reg (.op 0 [] (.op 1 [] .nil))) (.cond (.seq (.reg (.op 0 [] (.op 1 [] (.op 2 [] .nil)))) (.reg (.op 0 [] (.op 1 [] (.op 2 [] .nil))))) .leaf)) (.cut [0, 2] [0, 2, 13, 14, 15, 16, 17, 18] (.seq (.reg (.op 0 [] (.op 1 [] .nil))) (.cond (.seq (.reg (.op 0 [] (.op 1 [] (.op 2 [] .nil)))) (.reg (.op 0 [] (.op 1 [] (.op 2 [] .nil))))) .leaf)) (.seq (.reg (.op 0 [] (.op 1 [] (.op 2 [] (.op 3 [] (.op 4 [] (.op 5 [] (.op 6 [] .nil)))))))) .leaf)))))
def bits_Len64.res (x0 : Value) (H0 : Heap) (R : Value → Heap → Prop) : Prop :=
 ∃ J_1 : Value → Value → Heap → Prop, (∀ _ : Env, ∀ x0' : Value, ∀ n2 : Value, ∀ H_2 : Heap, J_1 x0' n2 H_2 →
 ∃ J_3 : Value → Value → Heap → Prop, (∀ _ : Env, ∀ x0'' : Value, ∀ n2' : Value, ∀ H_4 : Heap, J_3 x0'' n2' H_4 →
 ∃ J_5 : Value → Value → Heap → Prop, (∀ _ : Env, ∀ x0'3 : Value, ∀ n2'' : Value, ∀ H_6 : Heap, J_5 x0'3 n2'' H_6 →
 pConv .u8 x0'3 fun x21 =>
 pIdxStr (str [0, 1, 2, 2, 3, 3, 3, 3, 4, 4, 4, 4, 4, 4, 4, 4, 5, 5, 5, 5, 5, 5, 5, 5, 5, 5, 5, 5, 5, 5, 5, 5, 6, 6, 6, 6, 6, 6, 6, 6, 6, 6, 6, 6, 6, 6, 6, 6, 6, 6, 6, 6, 6, 6, 6, 6, 6, 6, 6, 6, 6, 6, 6, 6, 7, 7, 7, 7, 7, 7, 7, 7, 7, 7, 7, 7, 7, 7, 7, 7, 7, 7, 7, 7, 7, 7, 7, 7, 7, 7, 7, 7, 7, 7, 7, 7, 7, 7, 7, 7, 7, 7, 7, 7, 7, 7, 7, 7, 7, 7, 7, 7, 7, 7, 7, 7, 7, 7, 7, 7, 7, 7, 7, 7, 7, 7, 7, 7, 8, 8, 8, 8, 8, 8, 8, 8, 8, 8, 8, 8, 8, 8, 8, 8, 8, 8, 8, 8, 8, 8, 8, 8, 8, 8, 8, 8, 8, 8, 8, 8, 8, 8, 8, 8, 8, 8, 8, 8, 8, 8, 8, 8, 8, 8, 8, 8, 8, 8, 8, 8, 8, 8, 8, 8, 8, 8, 8, 8, 8, 8, 8, 8, 8, 8, 8, 8, 8, 8, 8, 8, 8, 8, 8, 8, 8, 8, 8, 8, 8, 8, 8, 8, 8, 8, 8, 8, 8, 8, 8, 8, 8, 8, 8, 8, 8, 8, 8, 8, 8, 8, 8, 8, 8, 8, 8, 8, 8, 8, 8, 8, 8, 8, 8, 8, 8, 8, 8, 8, 8, 8, 8, 8, 8, 8, 8, 8]) x21 fun x22 =>
 pConv .i64 x22 fun x23 =>
 pAdd n2'' x23 fun x24 =>
 R x24 H_6) ∧
 pGe x0'' (.int .u64 256) fun x14 =>
 pCond x14
 (pShr x0'' (.int .u64 8) fun x16 =>
 pAdd n2' (.int .i64 8) fun x18 =>
 J_5 x16 x18 H_4)
 (J_5 x0'' n2' H_4)) ∧
 pGe x0' (.int .u64 65536) fun x8 =>
 pCond x8
 (pShr x0' (.int .u64 16) fun x10 =>
 pAdd n2 (.int .i64 16) fun x12 =>
 J_3 x10 x12 H_2)
 (J_3 x0' n2 H_2)) ∧
 pGe x0 (.int .u64 4294967296) fun x4 =>
 pCond x4
 (pShr x0 (.int .u64 32) fun x6 =>
 J_1 x6 (.int .i64 32) H0)
 (J_1 x0 (.int .i64 0) H0)
set_option maxRecDepth 100000 in
theorem bits_Len64.vc (x0 : Value) (H0 : Heap) (R : Value → Heap → Prop) (h : bits_Len64.res x0 H0 R) : CallsH Tryz.prog 115 #[x0] H0 R := by
  have e : vcFn Tryz.prog Tryz.C Tryz.f115 bits_Len64.an [x0] H0 R = bits_Len64.res x0 H0 R := by kernel_rfl
  exact vcFn_sound Tryz.callable Tryz.mixed Tryz.func115 (by kernel_rfl) (e.mpr h)
def inflate_New.an : Ann := (.seq (.reg (.op 0 [] .nil)) (.seq (.reg (.op 0 [] (.op 1 [] (.op 2 [] .nil)))) .leaf))
def inflate_New.res (H0 : Heap) (R : Value → Heap → Prop) : Prop :=
 pBuild [(str []), (.int .u64 0), (.int .i64 0), (.slice none 0 0), (.int .i64 0), (.pointer none), (.slice none 0 0), (.int .i64 0), (.bool false), (.int .i64 0), (.pointer none), (.pointer none), (.int .i64 0), (.int .i64 0)] [] fun x1 =>
 pBox H0 76 x1 fun x2 H_1 =>
 R x2 H_1
set_option maxRecDepth 100000 in
theorem inflate_New.vc (H0 : Heap) (R : Value → Heap → Prop) (h : inflate_New.res H0 R) : CallsH Tryz.prog 9 #[] H0 R := by
  have e : vcFn Tryz.prog Tryz.C Tryz.f9 inflate_New.an [] H0 R = inflate_New.res H0 R := by kernel_rfl
  exact vcFn_sound Tryz.callable Tryz.mixed Tryz.func9 (by kernel_rfl) (e.mpr h)
def inflate_Decoder_Feed.an : Ann := (.seq (.reg (.op 0 [] (.op 1 [] .nil))) (.seq (.seq (.reg (.op 0 [] (.op 1 [] .nil))) (.cond (.seq (.reg (.op 0 [] (.op 1 [] .nil))) .leaf) .leaf)) (.seq (.seq (.reg (.op 0 [] (.op 1 [] (.op 2 [] (.op 3 [] (.op 4 [] .nil)))))) (.cond (.seq (.drw [0, 1, 3, 7, 0, 31] (.op 0 [] (.op 1 [] (.op 2 [] (.op 3 [] (.op 4 [] (.op 5 [] .nil))))))) .leaf) .leaf)) (.seq (.reg (.op 0 [] (.op 1 [] (.op 2 [] (.op 3 [] (.op 4 [] .nil)))))) (.seq (.reg (.op 0 [] (.op 1 [] (.op 2 [] (.op 3 [] (.op 4 [] (.op 5 [] (.op 6 [] (.op 7 [] (.op 8 [] (.op 9 [] .nil))))))))))) (.seq (.reg (.op 0 [] (.op 1 [] (.op 2 [] (.op 3 [] .nil))))) (.cut [] [4, 5, 6, 36, 37, 38, 39, 40, 41, 42, 43, 44, 45, 46, 47, 48, 49, 50, 51, 52, 53, 54, 55] (.block (.loop [] [4, 5, 6, 36, 37, 38, 39, 40, 41, 42, 43, 44, 45, 46, 47, 48, 49, 50, 51, 52, 53, 54, 55] (.seq (.seq (.reg (.op 0 [] (.op 1 [] (.op 2 [] (.op 3 [] (.op 4 [] .nil)))))) (.cond .leaf .leaf)) (.block (.seq (.reg (.op 0 [] (.op 1 [] (.op 2 [] .nil)))) (.seq (.seq (.reg (.op 0 [] (.op 1 [] .nil))) (.cond .leaf .leaf)) (.seq (.reg (.op 0 [] (.op 1 [] .nil))) (.cond (.seq (.reg (.op 0 [] (.op 1 [] (.op 2 [] (.op 3 [] (.op 4 [] .nil)))))) (.seq (.reg (.op 0 [] (.op 1 [] (.op 2 [] (.op 3 [] (.op 4 [] (.op 5 [] (.op 6 [] .nil)))))))) .leaf)) .leaf)))))))) (.seq (.reg (.op 0 [] (.op 1 [] (.op 2 [] (.op 3 [] (.op 4 [] (.op 5 [] .nil))))))) .leaf))))))))
def inflate_Decoder_Feed.res (d0 : Value) (s1 : Value) (H0 : Heap) (R : Value → Heap → Prop) : Prop :=
 pEq 3 d0 (.pointer none) fun x8 =>
 pCond x8
 (R (.tuple #[(str []), (.int .i64 1)]) H0)
 (pNil d0 fun x10 =>
 pFieldAddr 13 x10 fun x11 =>
 pLoad H0 x11 fun x12 =>
 pNe 0 x12 (.int .i64 0) fun x13 =>
 pCond x13
 (pNil d0 fun x15 =>
 pFieldAddr 13 x15 fun x16 =>
 pLoad H0 x16 fun x17 =>
 R (.tuple #[(str []), x17]) H0)
 (pNil d0 fun x19 =>
 pFieldAddr 0 x19 fun x20 =>
 CallsH Tryz.prog 17 #[x20, s1] H0 fun x22 H_1 =>
 pNil d0 fun x24 =>
 pFieldAddr 12 x24 fun x25 =>
 pLoad H_1 x25 fun x26 =>
 pLenS s1 fun x28 =>
 pAdd x26 x28 fun x29 =>
 pNil d0 fun x30 =>
 pFieldAddr 12 x30 fun x31 =>
 pStore H_1 x31 x29 fun _ H_2 =>
 pNil d0 fun x33 =>
 pFieldAddr 5 x33 fun x34 =>
 CallsH Tryz.prog 29 #[x34] H_2 fun x35 H_3 =>
 ∃ J_4 : Heap → Prop, (∀ _ : Env, ∀ H_5 : Heap, J_4 H_5 →
 pNil d0 fun x57 =>
 pFieldAddr 5 x57 fun x58 =>
 CallsH Tryz.prog 31 #[x58] H_5 fun x59 H_6 =>
 R (.tuple #[x59, (.int .i64 0)]) H_6) ∧
 ∃ (I_7 : Heap → Prop) (m_8 : Heap → Nat), I_7 H_3 ∧
 ∀ _ : Env, ∀ H_9 : Heap, I_7 H_9 →
 pNil d0 fun x37 =>
 pFieldAddr 7 x37 fun x38 =>
 pLoad H_9 x38 fun x39 =>
 pNe 0 x39 (.int .i64 3) fun x40 =>
 pCond x40
 (CallsH Tryz.prog 30 #[d0] H_9 fun x42 H_10 =>
 pEq 0 x42 (.int .i64 2) fun x44 =>
 pCond x44
 (J_4 H_10)
 (pNe 0 x42 (.int .i64 0) fun x46 =>
 pCond x46
 (pNil d0 fun x49 =>
 pFieldAddr 13 x49 fun x50 =>
 pStore H_10 x50 x42 fun _ H_11 =>
 pNil d0 fun x52 =>
 pFieldAddr 5 x52 fun x53 =>
 CallsH Tryz.prog 31 #[x53] H_11 fun x54 H_12 =>
 R (.tuple #[x54, x42]) H_12)
 (I_7 H_10 ∧ m_8 H_10 < m_8 H_9)))
 (J_4 H_9)))
set_option maxRecDepth 100000 in
theorem inflate_Decoder_Feed.vc (d0 : Value) (s1 : Value) (H0 : Heap) (R : Value → Heap → Prop) (h : inflate_Decoder_Feed.res d0 s1 H0 R) : CallsH Tryz.prog 10 #[d0, s1] H0 R := by
  have e : vcFn Tryz.prog Tryz.C Tryz.f10 inflate_Decoder_Feed.an [d0, s1] H0 R = inflate_Decoder_Feed.res d0 s1 H0 R := by kernel_rfl
  exact vcFn_sound Tryz.callable Tryz.mixed Tryz.func10 (by kernel_rfl) (e.mpr h)
def inflate_Decoder_Done.an : Ann := (.seq (.reg (.op 0 [] .nil)) (.seq (.reg (.op 0 [] (.op 1 [] (.op 2 [] (.grp 2 (.op 3 [] (.op 4 [] (.op 5 [] (.op 6 [] (.op 7 [] .nil))))) 8 (.op 9 [] .nil)))))) .leaf))
def inflate_Decoder_Done.res (d0 : Value) (H0 : Heap) (R : Value → Heap → Prop) : Prop :=
 pNe 3 d0 (.pointer none) fun x4 =>
 pAnd x4 (fun J_1 =>
 pNil d0 fun x7 =>
 pFieldAddr 7 x7 fun x8 =>
 pLoad H0 x8 fun x9 =>
 pEq 0 x9 (.int .i64 3) fun x10 =>
 J_1 x10 H0) H0 fun x11 H_2 => ∀ _ : Env,
 R x11 H_2
set_option maxRecDepth 100000 in
theorem inflate_Decoder_Done.vc (d0 : Value) (H0 : Heap) (R : Value → Heap → Prop) (h : inflate_Decoder_Done.res d0 H0 R) : CallsH Tryz.prog 11 #[d0] H0 R := by
  have e : vcFn Tryz.prog Tryz.C Tryz.f11 inflate_Decoder_Done.an [d0] H0 R = inflate_Decoder_Done.res d0 H0 R := by kernel_rfl
  exact vcFn_sound Tryz.callable Tryz.mixed Tryz.func11 (by kernel_rfl) (e.mpr h)
def inflate_All.an : Ann := (.seq (.reg (.op 0 [] (.op 1 [] (.op 2 [] .nil)))) (.seq (.reg (.op 0 [] (.op 1 [] .nil))) (.seq (.reg (.op 0 [] (.op 1 [] (.op 2 [] (.op 3 [] (.op 4 [] (.op 5 [] (.op 6 [] (.op 7 [] .nil))))))))) (.seq (.block (.seq (.reg (.op 0 [] (.op 1 [] (.op 2 [] .nil)))) (.cond (.seq (.reg (.op 0 [] (.op 1 [] (.op 2 [] (.op 3 [] .nil))))) .leaf) (.seq (.reg (.op 0 [] (.op 1 [] (.op 2 [] (.op 3 [] .nil))))) (.cond (.seq (.reg (.op 0 [] (.op 1 [] (.op 2 [] .nil)))) .leaf) .leaf))))) (.seq (.reg (.op 0 [] (.op 1 [] (.op 2 [] (.op 3 [] (.op 4 [] (.op 5 [] .nil))))))) .leaf)))))
def inflate_All.res (s0 : Value) (H0 : Heap) (R : Value → Heap → Prop) : Prop :=
 CallsH Tryz.prog 9 #[] H0 fun x8 H_1 =>
 CallsH Tryz.prog 10 #[x8, s0] H_1 fun x12 H_2 =>
 pExtract 0 x12 fun x13 =>
 pExtract 1 x12 fun x14 =>
 pNe 0 x14 (.int .i64 0) fun x17 =>
 pCond x17
 (R (.tuple #[(str []), (str []), x14]) H_2)
 (CallsH Tryz.prog 11 #[x8] H_2 fun x21 H_3 =>
 pNot x21 fun x22 =>
 pCond x22
 (R (.tuple #[(str []), (str []), (.int .i64 2)]) H_3)
 (CallsH Tryz.prog 47 #[x8] H_3 fun x25 H_4 =>
 R (.tuple #[x13, x25, (.int .i64 0)]) H_4))
set_option maxRecDepth 100000 in
theorem inflate_All.vc (s0 : Value) (H0 : Heap) (R : Value → Heap → Prop) (h : inflate_All.res s0 H0 R) : CallsH Tryz.prog 20 #[s0] H0 R := by
  have e : vcFn Tryz.prog Tryz.C Tryz.f20 inflate_All.an [s0] H0 R = inflate_All.res s0 H0 R := by kernel_rfl
  exact vcFn_sound Tryz.callable Tryz.mixed Tryz.func20 (by kernel_rfl) (e.mpr h)
def inflate_Decoder_step.an : Ann := (.seq (.reg (.op 0 [] .nil)) (.seq (.drw [0, 1, 3, 7, 0, 16, 48, 112, 0, 271, 1023] (.op 0 [] (.op 1 [] (.op 2 [] (.op 3 [] (.op 4 [] (.op 5 [] (.op 6 [] (.op 7 [] (.op 8 [3, 7] (.op 9 [7] (.op 10 [] .nil)))))))))))) (.seq (.reg (.op 0 [] .nil)) (.cut [5] [2, 5, 14, 15, 16, 17, 18, 19, 20, 21, 22, 23, 24, 25, 26, 27, 28, 29] (.seq (.reg (.op 0 [] (.op 1 [] (.op 2 [] (.op 3 [] .nil))))) (.block (.seq (.reg (.op 0 [] (.op 1 [] .nil))) (.cond (.reg (.op 0 [] (.op 1 [] (.op 2 [] .nil)))) (.seq (.reg (.op 0 [] (.op 1 [] .nil))) (.cond (.seq (.reg (.op 0 [] (.op 1 [] (.op 2 [] .nil)))) .leaf) (.seq (.reg (.op 0 [] (.op 1 [] .nil))) (.cond (.reg (.op 0 [] (.op 1 [] (.op 2 [] .nil)))) .leaf)))))))) (.seq (.seq (.reg (.op 0 [] (.op 1 [] .nil))) (.cond (.reg (.op 0 [] (.op 1 [] (.op 2 [] (.op 3 [] (.op 4 [] (.op 5 [] (.op 6 [] (.op 7 [] (.op 8 [] (.op 9 [] .nil))))))))))) .leaf)) (.seq (.reg (.op 0 [] (.op 1 [] .nil))) .leaf))))))
def inflate_Decoder_step.res (d0 : Value) (H0 : Heap) (R : Value → Heap → Prop) : Prop :=
 pNil d0 fun x7 =>
 pFieldAddr 0 x7 fun x8 =>
 pLoadN H0 3 x8 fun x9 =>
 pNil d0 fun x11 =>
 pFieldAddr 7 x11 fun x12 =>
 pLoad H0 x12 fun x13 =>
 pBox H0 52 (.agg #[(str []), (.int .u64 0), (.int .i64 0)]) fun was3 H_1 =>
 (pLoadN H_1 3 x8 fun r_ =>
 r_ = x9) ∧
 (pLoad H_1 x12 fun r_ =>
 r_ = x13) ∧
 pStoreN H_1 3 was3 x9 fun _ H_2 =>
 (pLoad H_2 x12 fun r_ =>
 r_ = x13) ∧
 ∃ J_3 : Value → Heap → Prop, (∀ _ : Env, ∀ e5 : Value, ∀ H_4 : Heap, J_3 e5 H_4 →
 pEq 0 e5 (.int .i64 2) fun x31 =>
 pCond x31
 (pLoadN H_4 3 was3 fun x34 =>
 pNil d0 fun x36 =>
 pFieldAddr 0 x36 fun x37 =>
 pStoreN H_4 3 x37 x34 fun _ H_5 =>
 pNil d0 fun x38 =>
 pFieldAddr 7 x38 fun x39 =>
 pStore H_5 x39 x13 fun _ H_6 =>
 R e5 H_6)
 (R e5 H_4)) ∧
 pNil d0 fun x15 =>
 pFieldAddr 7 x15 fun x16 =>
 pLoad H_2 x16 fun x17 =>
 pEq 0 x17 (.int .i64 0) fun x19 =>
 pCond x19
 (CallsH Tryz.prog 60 #[d0] H_2 fun x21 H_7 =>
 J_3 x21 H_7)
 (pEq 0 x17 (.int .i64 1) fun x23 =>
 pCond x23
 (CallsH Tryz.prog 61 #[d0] H_2 fun x25 H_8 =>
 R x25 H_8)
 (pEq 0 x17 (.int .i64 2) fun x27 =>
 pCond x27
 (CallsH Tryz.prog 62 #[d0] H_2 fun x29 H_9 =>
 J_3 x29 H_9)
 (J_3 (.int .i64 0) H_2)))
set_option maxRecDepth 100000 in
theorem inflate_Decoder_step.vc (d0 : Value) (H0 : Heap) (R : Value → Heap → Prop) (h : inflate_Decoder_step.res d0 H0 R) : CallsH Tryz.prog 30 #[d0] H0 R := by
  have e : vcFn Tryz.prog Tryz.C Tryz.f30 inflate_Decoder_step.an [d0] H0 R = inflate_Decoder_step.res d0 H0 R := by kernel_rfl
  exact vcFn_sound Tryz.callable Tryz.mixed Tryz.func30 (by kernel_rfl) (e.mpr h)
def inflate_Decoder_Rest.an : Ann := (.seq (.reg (.op 0 [] .nil)) (.seq (.seq (.reg (.op 0 [] (.op 1 [] (.op 2 [] .nil)))) (.cond (.seq (.reg (.op 0 [] .nil)) .leaf) .leaf)) (.seq (.reg (.op 0 [] (.op 1 [] (.op 2 [] (.op 3 [] (.op 4 [] (.op 5 [] .nil))))))) (.seq (.reg (.op 0 [] (.op 1 [] (.op 2 [] (.op 3 [] .nil))))) .leaf))))
def inflate_Decoder_Rest.res (d0 : Value) (H0 : Heap) (R : Value → Heap → Prop) : Prop :=
 CallsH Tryz.prog 11 #[d0] H0 fun x5 H_1 =>
 pNot x5 fun x6 =>
 pCond x6
 (R (str []) H_1)
 (pNil d0 fun x8 =>
 pFieldAddr 0 x8 fun x9 =>
 pLoadN H_1 3 x9 fun x10 =>
 pBox H_1 52 (.agg #[(str []), (.int .u64 0), (.int .i64 0)]) fun r3 H_2 =>
 pStoreN H_2 3 r3 x10 fun _ H_3 =>
 CallsH Tryz.prog 19 #[r3] H_3 fun x11 H_4 =>
 pQuo x11 (.int .i64 8) fun x12 =>
 CallsH Tryz.prog 75 #[r3, x12] H_4 fun x13 H_5 =>
 R x13 H_5)
set_option maxRecDepth 100000 in
theorem inflate_Decoder_Rest.vc (d0 : Value) (H0 : Heap) (R : Value → Heap → Prop) (h : inflate_Decoder_Rest.res d0 H0 R) : CallsH Tryz.prog 47 #[d0] H0 R := by
  have e : vcFn Tryz.prog Tryz.C Tryz.f47 inflate_Decoder_Rest.an [d0] H0 R = inflate_Decoder_Rest.res d0 H0 R := by kernel_rfl
  exact vcFn_sound Tryz.callable Tryz.mixed Tryz.func47 (by kernel_rfl) (e.mpr h)
end Go.Proofs.YtameljhbkedhjaaGreatDoor
namespace Go.Proofs.YtameljhbkedhjaaGreatDoor
open Go Go.Vc Go.Proofs
set_option linter.unusedVariables false
set_option linter.unusedSimpArgs false
variable {H H0 H' : Heap} {R : Value → Heap → Prop} {v : Value} {L : List It} {zs : List Int}
theorem run_spec {i : Nat} (hs : Sl H v 1 (numsV zs)) (hlen : zs.length ≤ 1000) (hi : i < zs.length) (h : ∀ n : Nat, 1 ≤ n → i + n ≤ zs.length → (∀ j, j < n → zs.getD (i + j) 0 = zs.getD i 0) → R (.int .i64 (n : Int)) H) :
    CallsH Tryz.prog 81 #[v, .int .i64 (i : Int)] H R := by
  have hvl : (numsV zs).length = zs.length * 1 := by rw [numsV_len]; omega
  have gd : ∀ {k : Nat} (hk : k < zs.length), zs.getD k 0 = zs[k] := fun hk => by rw [List.getD_eq_getElem?_getD, List.getElem?_eq_getElem hk]; rfl
  refine block_run.vc _ _ _ _ ?_
  unfold block_run.res
  refine ⟨fun n H' => ∃ k : Nat, n = .int .i64 k ∧ 1 ≤ k ∧ i + k ≤ zs.length ∧ (∀ j, j < k → zs.getD (i + j) 0 = zs.getD i 0) ∧ H = H', fun n _ => match n with | .int _ x => (zs.length - x).toNat | _ => 0,
    ⟨1, rfl, by omega, by omega, fun j hj => by rw [show j = 0 by omega, Nat.add_zero], rfl⟩, ?_⟩
  rintro _ _ _ ⟨k, rfl, h1, hk, hj, rfl⟩
  rw [pAdd_v, w64 (by omega) (by omega)]
  refine hs.len hvl (by decide) ?_
  rw [pLt_v]
  by_cases hc : i + k < zs.length
  · rw [decide_eq_true (by omega)]
    refine pAnd_true ?_
    rw [pAdd_v, w64 (by omega) (by omega)]
    refine hs.at_ hvl (by decide) (by omega) (by omega) fun p hp => ?_
    refine hp.load hs (w := .int .i64 zs[i + k]) (by rw [show ((i : Int) + (k : Int)).toNat = i + k by omega, Nat.mul_one, numsV_get hc]) ?_
    refine hs.at_ hvl (by decide) (by omega) (by omega) fun p hp => ?_
    refine hp.load hs (w := .int .i64 zs[i]) (by rw [Int.toNat_natCast, Nat.mul_one, numsV_get hi]) ?_
    rw [pEq_0]
    intro _
    refine pCond_if (fun he => ?_) (fun he => ?_)
    · rw [pAdd_v, w64 (by omega) (by omega)]
      refine ⟨⟨k + 1, rfl, by omega, by omega, fun j hj2 => ?_, rfl⟩, by show (_ : Int).toNat < (_ : Int).toNat; omega⟩
      by_cases e : j = k
      · subst e; rw [gd hc, gd hi]; exact he
      · exact hj j (by omega)
    · exact h k h1 hk hj
  · rw [decide_eq_false (by omega), pAnd_false]
    intro _
    rw [pCond_false]
    exact h k h1 hk hj
def exV (e : Ex) : Value := .agg #[.int .i64 (e.1 : Nat), .int .i64 (e.2.1 : Nat), .int .u64 (e.2.2 : Nat)]
def exC (e : Ex) : List Value := [.int .i64 (e.1 : Nat), .int .i64 (e.2.1 : Nat), .int .u64 (e.2.2 : Nat)]
def againF (z : Int) (n : Nat) : Ex × Nat × Bool :=
  if z = 0 ∧ 11 ≤ n then ((18, 7, min n 138 - 11), min n 138, true) else if z = 0 ∧ 3 ≤ n then ((17, 3, n - 3), n, true) else if z ≠ 0 ∧ 3 ≤ n then ((16, 2, min n 6 - 3), min n 6, true) else ((0, 0, 0), 0, false)
theorem again_spec {z : Int} {n : Nat} (hn : n ≤ 1000) (h : ∀ H', Ext H H' → R (.tuple #[exV (againF z n).1, .int .i64 ((againF z n).2.1 : Nat), .bool (againF z n).2.2]) H') : CallsH Tryz.prog 82 #[.int .i64 z, .int .i64 (n : Int)] H R := by
  refine block_again.vc _ _ _ _ ?_
  unfold block_again.res
  refine (Owns.start (H := H)).box fun b H1 o _ => ?_
  have fin : ∀ {a c : Int} {x : Int} {K : Value → Heap → Prop}, (∀ H', Ext H H' → K (.agg #[.int .i64 a, .int .i64 c, .int .u64 x]) H') → pStoreN H1 3 (.pointer (some ⟨b, 0, none⟩)) (.agg #[.int .i64 a, .int .i64 c, .int .u64 x]) fun _ H_4 => pLoadN H_4 3 (.pointer (some ⟨b, 0, none⟩)) fun r_5 => K r_5 H_4 := fun {a c x K} hK => by
    refine o.bstoreN (vs := [.int .i64 a, .int .i64 c, .int .u64 x]) (by repeat (first | exact List.mem_cons_self | apply List.mem_cons_of_mem)) rfl rfl rfl (by repeat (first | exact Rep.here | apply Rep.there)) fun H2 o2 _ => ?_
    refine o2.bloadN (by repeat (first | exact List.mem_cons_self | apply List.mem_cons_of_mem)) rfl ?_
    exact hK H2 o2.ext
  rw [pEq_0]
  by_cases hz : z = 0
  · rw [decide_eq_true hz]
    refine pAnd_true ?_
    rw [pGe_v]
    by_cases h11 : 11 ≤ n
    · rw [decide_eq_true (by omega)]
      intro _
      rw [pCond_true, pMin_v, pSub_v, show min (n : Int) 138 = ((min n 138 : Nat) : Int) by omega, w64 (by omega) (by omega), pConv_v, show ((min n 138 : Nat) : Int) - 11 = ((min n 138 - 11 : Nat) : Int) by omega, wu64 (by omega) (by omega)]
      refine pBuild_three rfl rfl rfl ?_
      refine fin fun H2 hx => ?_
      have := h H2 hx
      unfold againF at this
      rw [if_pos ⟨hz, h11⟩] at this
      exact this
    rw [decide_eq_false (by omega)]
    intro _
    rw [pCond_false, pEq_0, decide_eq_true hz]
    refine pAnd_true ?_
    rw [pGe_v]
    by_cases h3 : 3 ≤ n
    · rw [decide_eq_true (by omega)]
      intro _
      rw [pCond_true, pSub_v, w64 (by omega) (by omega), pConv_v, show (n : Int) - 3 = ((n - 3 : Nat) : Int) by omega, wu64 (by omega) (by omega)]
      refine pBuild_three rfl rfl rfl ?_
      refine fin fun H2 hx => ?_
      have := h H2 hx
      unfold againF at this
      rw [if_neg (by omega), if_pos ⟨hz, h3⟩] at this
      exact this
    rw [decide_eq_false (by omega)]
    intro _
    rw [pCond_false, pNe_0, decide_eq_false (by simpa using hz), pAnd_false]
    intro _
    rw [pCond_false]
    rw [pBuild_n]
    refine fin fun H2 hx => ?_
    have := h H2 hx
    unfold againF at this
    rw [if_neg (by omega), if_neg (by omega), if_neg (by omega)] at this
    exact this
  · rw [decide_eq_false hz, pAnd_false]
    intro _
    rw [pCond_false, pEq_0, decide_eq_false hz, pAnd_false]
    intro _
    rw [pCond_false, pNe_0, decide_eq_true hz]
    refine pAnd_true ?_
    rw [pGe_v]
    by_cases h3 : 3 ≤ n
    · rw [decide_eq_true (by omega)]
      intro _
      rw [pCond_true, pMin_v, pSub_v, show min (n : Int) 6 = ((min n 6 : Nat) : Int) by omega, w64 (by omega) (by omega), pConv_v, show ((min n 6 : Nat) : Int) - 3 = ((min n 6 - 3 : Nat) : Int) by omega, wu64 (by omega) (by omega)]
      refine pBuild_three rfl rfl rfl ?_
      refine fin fun H2 hx => ?_
      have := h H2 hx
      unfold againF at this
      rw [if_neg (by omega), if_neg (by omega), if_pos ⟨hz, h3⟩] at this
      exact this
    rw [decide_eq_false (by omega)]
    intro _
    rw [pCond_false]
    rw [pBuild_n]
    refine fin fun H2 hx => ?_
    have := h H2 hx
    unfold againF at this
    rw [if_neg (by omega), if_neg (by omega), if_neg (by omega)] at this
    exact this
end Go.Proofs.YtameljhbkedhjaaGreatDoor
namespace Go.Proofs.YtameljhbkedhjaaGreatDoor
open Go Go.Vc Go.Proofs
set_option linter.unusedVariables false
set_option linter.unusedSimpArgs false
variable {H H0 H' : Heap} {R : Value → Heap → Prop} {v : Value} {L : List It} {zs : List Int}
theorem contains_none {g : Nat} (hm : memb g Tryz.C = true) (hs : Sl H v 1 (numsV zs)) (hlen : zs.length ≤ 1000) (hg : ∀ z ∈ zs, ∀ (H : Heap) (R : Value → Heap → Prop), R (.bool false) H → CallsH Tryz.prog g #[.int .i64 z] H R) (h : R (.bool false) H) :
    CallsH Tryz.prog 37 #[v, .func (.func g) #[] #[]] H R := by
  have hvl : (numsV zs).length = zs.length * 1 := by rw [numsV_len]; omega
  refine slices_ContainsFunc_s_int_int.vc _ _ _ _ ?_
  unfold slices_ContainsFunc_s_int_int.res
  refine slices_IndexFunc_s_int_int.vc _ _ _ _ ?_
  unfold slices_IndexFunc_s_int_int.res
  refine hs.len hvl (by decide) ?_
  refine ⟨fun i H' => ∃ k : Nat, i = .int .i64 k ∧ k ≤ zs.length ∧ H = H', fun i _ => match i with | .int _ x => (zs.length - x).toNat | _ => 0, ⟨0, rfl, by omega, rfl⟩, ?_⟩
  rintro _ _ _ ⟨k, rfl, hk, rfl⟩
  rw [pLt_v]
  refine pCond_if (fun hc => ?_) (fun hc => ?_)
  · have hkn : k < zs.length := by omega
    refine hs.at_ hvl (by decide) (by omega) (by omega) fun p hp => ?_
    refine hp.load hs (w := .int .i64 zs[k]) (by rw [Int.toNat_natCast, Nat.mul_one, numsV_get hkn]) ?_
    refine callH_f hm ?_
    refine hg _ (List.getElem_mem hkn) _ _ ?_
    rw [pCond_false, pAdd_v, w64 (by omega) (by omega)]
    exact ⟨⟨k + 1, rfl, by omega, rfl⟩, by show (_ : Int).toNat < (_ : Int).toNat; omega⟩
  · show pGe _ _ _
    rw [pGe_v, decide_eq_false (by decide)]
    exact h
theorem badP_spec {z : Int} (h0 : 0 ≤ z) (h1 : z ≤ 15) (h : R (.bool false) H) : CallsH Tryz.prog 80 #[.int .i64 z] H R := by
  refine block_Pack_f1.vc _ _ _ ?_
  unfold block_Pack_f1.res
  rw [pLt_v, decide_eq_false (by omega)]
  refine pOr_false ?_
  rw [pGt_v, decide_eq_false (by omega)]
  intro _
  exact h
def exsC (E : List Ex) : List Value := E.flatMap exC
theorem exsC_len : ∀ E : List Ex, (exsC E).length = E.length * 3
  | [] => rfl
  | e :: E => by unfold exsC; rw [List.flatMap_cons, List.length_append]; show 3 + (exsC E).length = _; rw [exsC_len E, List.length_cons]; omega
theorem exsC_snoc (E : List Ex) (e : Ex) : exsC (E ++ [e]) = exsC E ++ exC e := by unfold exsC; rw [List.flatMap_append]; simp
theorem take_run {z : Int} {m : Nat} : ∀ k, m + k ≤ zs.length → (∀ j, j < k → zs.getD (m + j) 0 = z) → zs.take (m + k) = zs.take m ++ List.replicate k z
  | 0, h, hj => by simp
  | k + 1, h, hj => by
    have h1 := hj k (by omega)
    rw [List.getD_eq_getElem?_getD, List.getElem?_eq_getElem (by omega), Option.getD_some] at h1
    rw [show m + (k + 1) = (m + k) + 1 by omega, List.take_add_one, List.getElem?_eq_getElem (by omega), take_run k (by omega) (fun j hj2 => hj j (by omega)), h1, List.replicate_succ', List.append_assoc]; rfl
theorem pack_step {i n r : Nat} {E : List Ex} (hz : ∀ z ∈ zs, 0 ≤ z ∧ z ≤ 15) (hin : i + n ≤ zs.length) (hrun : ∀ j, j < n → zs.getD (i + j) 0 = zs.getD i 0) (h1 : 1 ≤ r) (hr : r ≤ n) (hnz : zs.getD i 0 ≠ 0 → r < n)
    (hT : Told [] E (zs.take (i + n - r))) :
    (∀ x k, againF (zs.getD i 0) r = (x, k, true) → 1 ≤ k ∧ k ≤ r ∧ Told [] (E ++ [x]) (zs.take (i + n - (r - k)))) ∧ Told [] (E ++ [((zs.getD i 0).toNat, 0, 0)]) (zs.take (i + n - (r - 1))) := by
  have hi : i < zs.length := by omega
  have hzi := hz _ (List.getElem_mem hi)
  have gi : zs.getD i 0 = zs[i] := by rw [List.getD_eq_getElem?_getD, List.getElem?_eq_getElem hi]; rfl
  rw [← gi] at hzi
  have htk : ∀ k, k ≤ r → zs.take (i + n - (r - k)) = zs.take (i + n - r) ++ List.replicate k (zs.getD i 0) := fun k hk => by
    rw [show i + n - (r - k) = (i + n - r) + k by omega]
    refine take_run k (by omega) fun j hj => ?_
    rw [show i + n - r + j = i + (n - r + j) by omega]
    exact hrun _ (by omega)
  constructor
  · intro x k hx
    unfold againF at hx
    split at hx
    · rename_i hc
      cases hx
      refine ⟨by omega, by omega, ?_⟩
      have hv : valE (zs.take (i + n - r)) (18, 7, min r 138 - 11) := .inr (.inr (.inr ⟨rfl, rfl, by show min r 138 - 11 < 128; omega⟩))
      have := hT.snoc hv
      rw [htk _ (by omega), hc.1]
      have e : addE (zs.take (i + n - r)) (18, 7, min r 138 - 11) = zs.take (i + n - r) ++ List.replicate (11 + (min r 138 - 11)) 0 := rfl
      rw [e, show 11 + (min r 138 - 11) = min r 138 by omega] at this
      exact this
    split at hx
    · rename_i hc0 hc
      cases hx
      refine ⟨by omega, by omega, ?_⟩
      have hv : valE (zs.take (i + n - r)) (17, 3, r - 3) := .inr (.inr (.inl ⟨rfl, rfl, by show r - 3 < 8; omega⟩))
      have := hT.snoc hv
      rw [htk _ (by omega), hc.1]
      have e : addE (zs.take (i + n - r)) (17, 3, r - 3) = zs.take (i + n - r) ++ List.replicate (3 + (r - 3)) 0 := rfl
      rw [e, show 3 + (r - 3) = r by omega] at this
      exact this
    split at hx
    · rename_i hc0 hc1 hc
      cases hx
      refine ⟨by omega, by omega, ?_⟩
      have hrn := hnz hc.1
      have hlen : (zs.take (i + n - r)).length = i + n - r := by rw [List.length_take]; omega
      have hv : valE (zs.take (i + n - r)) (16, 2, min r 6 - 3) := .inr (.inl ⟨rfl, fun e => by rw [e] at hlen; simp at hlen; omega, rfl, by show min r 6 - 3 < 4; omega⟩)
      have := hT.snoc hv
      rw [htk _ (by omega)]
      have hlast : (zs.take (i + n - r)).getD ((zs.take (i + n - r)).length - 1) 0 = zs.getD i 0 := by
        rw [hlen, List.getD_eq_getElem?_getD, List.getElem?_take_of_lt (by omega), ← List.getD_eq_getElem?_getD, show i + n - r - 1 = i + (n - r - 1) by omega]
        exact hrun _ (by omega)
      have e : addE (zs.take (i + n - r)) (16, 2, min r 6 - 3) = zs.take (i + n - r) ++ List.replicate (3 + (min r 6 - 3)) ((zs.take (i + n - r)).getD ((zs.take (i + n - r)).length - 1) 0) := rfl
      rw [e, hlast, show 3 + (min r 6 - 3) = min r 6 by omega] at this
      exact this
    · cases hx
  · have hv : valE (zs.take (i + n - r)) ((zs.getD i 0).toNat, 0, 0) := .inl ⟨by show (zs.getD i 0).toNat < 16; omega, rfl, rfl⟩
    have := hT.snoc hv
    rw [htk 1 h1]
    have e : addE (zs.take (i + n - r)) ((zs.getD i 0).toNat, 0, 0) = zs.take (i + n - r) ++ List.replicate 1 (zs.getD i 0) := by
      unfold addE repE
      dsimp only
      rw [if_neg (by omega), if_neg (by omega), if_neg (by omega), show (((zs.getD i 0).toNat : Nat) : Int) = zs.getD i 0 by omega]
    rw [e] at this
    exact this
theorem pack_first {i : Nat} {E : List Ex} (hz : ∀ z ∈ zs, 0 ≤ z ∧ z ≤ 15) (hi : i < zs.length) (hT : Told [] E (zs.take i)) : Told [] (E ++ [((zs.getD i 0).toNat, 0, 0)]) (zs.take (i + 1)) := by
  have hzi := hz _ (List.getElem_mem hi)
  have gi : zs.getD i 0 = zs[i] := by rw [List.getD_eq_getElem?_getD, List.getElem?_eq_getElem hi]; rfl
  have hv : valE (zs.take i) ((zs.getD i 0).toNat, 0, 0) := .inl ⟨by show (zs.getD i 0).toNat < 16; omega, rfl, rfl⟩
  have := hT.snoc hv
  have e : addE (zs.take i) ((zs.getD i 0).toNat, 0, 0) = zs.take (i + 1) := by
    unfold addE repE
    dsimp only
    rw [if_neg (by omega), if_neg (by omega), if_neg (by omega), show (((zs.getD i 0).toNat : Nat) : Int) = zs.getD i 0 by omega, List.take_add_one, List.getElem?_eq_getElem hi, gi]; rfl
  rw [e] at this
  exact this
theorem pack_spec (hs : Sl H v 1 (numsV zs)) (hlen : zs.length ≤ 400) (hz : ∀ z ∈ zs, 0 ≤ z ∧ z ≤ 15) (h : ∀ y E H', Told [] E zs → Owns H H' [.sl y 3 (exsC E)] → R y H') : CallsH Tryz.prog 57 #[v] H R := by
  have hvl : (numsV zs).length = zs.length * 1 := by rw [numsV_len]; omega
  refine block_Pack.vc _ _ _ ?_
  unfold block_Pack.res
  refine contains_none (by kernel_rfl) hs (by omega) (fun z hzm H R hR => badP_spec (hz z hzm).1 (hz z hzm).2 hR) ?_
  rw [pCond_false]
  refine ⟨fun y i H' => ∃ (k : Nat) (E : List Ex), i = .int .i64 k ∧ k ≤ zs.length ∧ Told [] E (zs.take k) ∧ Owns H H' [.sl y 3 (exsC E)], fun _ i _ => match i with | .int _ x => (zs.length - x).toNat | _ => 0, ⟨0, [], rfl, by omega, rfl, ?_⟩, ?_⟩
  · exact Owns.start.add (Ext.refl _) ⟨by decide, .inl ⟨rfl, rfl⟩⟩ (by intro k hk; exact absurd hk (by simp [It.foot, blkOf]))
  rintro _ y _ H1 ⟨i, E, rfl, hk, hT, o⟩
  refine hs.len hvl (by decide) ?_
  rw [pLt_v]
  refine pCond_if (fun hc => ?_) (fun hc => ?_)
  · have hi : i < zs.length := by omega
    have gi : zs.getD i 0 = zs[i] := by rw [List.getD_eq_getElem?_getD, List.getElem?_eq_getElem hi]; rfl
    have hzi := hz _ (List.getElem_mem hi)
    have hs1 := hs.ext o.ext
    refine hs1.at_ hvl (by decide) (by omega) (by omega) fun p hp => ?_
    rw [Int.toNat_natCast, Nat.mul_one] at hp
    refine hp.load hs1 (w := .int .i64 zs[i]) (numsV_get hi) ?_
    refine run_spec hs1 (by omega) hi fun n hn1 hin hrun => ?_
    refine ⟨hp.load hs1 (w := .int .i64 zs[i]) (numsV_get hi) rfl, ?_⟩
    rw [pAdd_v, w64 (by omega) (by omega)]
    have hTl : ∀ {E : List Ex} {m : Nat}, Told [] E (zs.take m) → E.length ≤ 400 := fun hT => by
      have := hT.len
      rw [List.length_take] at this
      simp at this; omega
    refine ⟨fun y n' H' => ∃ (r : Nat) (E : List Ex), n' = .int .i64 r ∧ r ≤ n ∧ (zs.getD i 0 ≠ 0 → r < n) ∧ Told [] E (zs.take (i + n - r)) ∧ Owns H H' [.sl y 3 (exsC E)], ?_, ?_⟩
    · rintro _ y2 _ H2 ⟨r0, E0, rfl, hr0, hnz0, hT0, o0⟩
      refine ⟨fun y n' H' => ∃ (r : Nat) (E : List Ex), n' = .int .i64 r ∧ r ≤ n ∧ (zs.getD i 0 ≠ 0 → r < n) ∧ Told [] E (zs.take (i + n - r)) ∧ Owns H H' [.sl y 3 (exsC E)], fun _ n' _ => match n' with | .int _ x => x.toNat | _ => 0, ⟨r0, E0, rfl, hr0, hnz0, hT0, o0⟩, ?_⟩
      rintro _ y3 _ H3 ⟨r, E, rfl, hr, hnz, hT, o⟩
      rw [pGt_v]
      refine pCond_if (fun hc2 => ?_) (fun hc2 => ?_)
      · have hst := pack_step hz hin hrun (by omega) hr hnz hT
        refine again_spec (by omega) fun H4 hx4 => ?_
        rw [gi] at hst
        obtain ⟨x, k, ok, hag⟩ : ∃ x k ok, againF zs[i] r = (x, k, ok) := ⟨_, _, _, rfl⟩
        rw [hag] at hst ⊢
        refine pExtract_to (vs := [exV x, .int .i64 (k : Nat), .bool ok]) rfl ?_
        refine pExtract_to (vs := [exV x, .int .i64 (k : Nat), .bool ok]) rfl ?_
        refine pExtract_to (vs := [exV x, .int .i64 (k : Nat), .bool ok]) rfl ?_
        have o4 := o.more hx4
        refine o4.box fun b H5 o5 _ => ?_
        refine o5.bstoreN (vs := exC x) (by repeat (first | exact List.mem_cons_self | apply List.mem_cons_of_mem)) rfl rfl rfl (by repeat (first | exact Rep.here | apply Rep.there)) fun H6 o6 _ => ?_
        refine ⟨fun k9 H' => ∃ (x' : Ex) (k' : Nat), k9 = .int .i64 k' ∧ 1 ≤ k' ∧ k' ≤ r ∧ Told [] (E ++ [x']) (zs.take (i + n - (r - k'))) ∧ Owns H H' (.box b (exC x') 106 :: .sl y3 3 (exsC E) :: []), ?_, ?_⟩
        · rintro _ _ H7 ⟨x', k', rfl, hk1, hkr, hT7, o7⟩
          refine o7.bloadN (by repeat (first | exact List.mem_cons_self | apply List.mem_cons_of_mem)) rfl ?_
          refine o7.build1 (sz := 3) (x := exV x') (by decide) rfl rfl fun z H8 o8 => ?_
          refine o8.append (sz := 3) (v := y3) (x := z) (n := E.length) (m := 1) (by repeat (first | exact Sel.here | apply Sel.there)) rfl (o8.sl (by repeat (first | exact List.mem_cons_self | apply List.mem_cons_of_mem))) (exsC_len E) rfl rfl (by have := hTl hT; omega) fun y4 H9 o9 => ?_
          rw [pSub_v, w64 (by omega) (by omega)]
          refine ⟨⟨r - k', E ++ [x'], by rw [show ((r - k' : Nat) : Int) = (r : Int) - k' by omega], by omega, fun _ => by omega, hT7, ?_⟩, by show (_ : Int).toNat < (_ : Int).toNat; omega⟩
          rw [exsC_snoc]
          exact o9.arr (by repeat (first | exact Sels.nil | exact Sel.here | apply Sels.cons | apply Sel.there))
        · cases ok
          · rw [pNot_v]
            show pCond (.bool true) _ _
            rw [pCond_true]
            refine pBuild_one rfl (by decide) ?_
            rw [pBuild_n]
            refine o6.bstoreN (vs := [.int .i64 zs[i], .int .i64 0, .int .u64 0]) (by repeat (first | exact List.mem_cons_self | apply List.mem_cons_of_mem)) rfl rfl rfl (by repeat (first | exact Rep.here | apply Rep.there)) fun H7 o7 _ => ?_
            have e : exC ((zs[i]).toNat, 0, 0) = [.int .i64 zs[i], .int .i64 0, .int .u64 0] := by
              unfold exC
              rw [Int.toNat_of_nonneg hzi.1]; rfl
            exact ⟨((zs[i]).toNat, 0, 0), 1, rfl, Nat.le_refl _, by omega, hst.2, by rw [e]; exact o7⟩
          · rw [pNot_v]
            show pCond (.bool false) _ _
            rw [pCond_false]
            obtain ⟨h1, h2, h3⟩ := hst.1 x k rfl
            exact ⟨x, k, rfl, h1, h2, h3, o6⟩
      · have hr0 : r = 0 := by omega
        subst hr0
        exact ⟨⟨i + n, E, by rw [show ((i + n : Nat) : Int) = (i : Int) + n by omega], by omega, hT, o⟩, by show (_ : Int).toNat < (_ : Int).toNat; omega⟩
    · rw [pNe_0]
      refine pCond_b (fun hb => ?_) (fun hb => ?_)
      · refine pBuild_one rfl (by decide) ?_
        rw [pBuild_n]
        refine o.build1 (sz := 3) (by decide) rfl rfl fun z H2 o2 => ?_
        refine o2.append (sz := 3) (v := y) (x := z) (n := E.length) (m := 1) (by repeat (first | exact Sel.here | apply Sel.there)) rfl (o2.sl (by repeat (first | exact List.mem_cons_self | apply List.mem_cons_of_mem))) (exsC_len E) rfl rfl (by have := hTl hT; omega) fun y4 H3 o3 => ?_
        rw [pSub_v, w64 (by omega) (by omega)]
        refine ⟨n - 1, E ++ [((zs.getD i 0).toNat, 0, 0)], by rw [show ((n - 1 : Nat) : Int) = (n : Int) - 1 by omega], by omega, fun _ => by omega, ?_, ?_⟩
        · rw [show i + n - (n - 1) = i + 1 by omega]; exact pack_first hz hi hT
        · rw [exsC_snoc]
          have e : exC ((zs.getD i 0).toNat, 0, 0) = [.int .i64 zs[i], .int .i64 0, .int .u64 0] := by
            unfold exC
            rw [gi, Int.toNat_of_nonneg hzi.1]; rfl
          rw [e]
          exact o3.arr (by repeat (first | exact Sels.nil | exact Sel.here | apply Sels.cons | apply Sel.there))
      · have hz0 : zs[i] = 0 := by simpa using hb
        exact ⟨n, E, rfl, Nat.le_refl _, fun h0 => absurd (gi.trans hz0) h0, by rw [show i + n - n = i by omega]; exact hT, o⟩
  · have hkz : i = zs.length := by omega
    rw [hkz, List.take_length] at hT
    exact h _ _ _ hT o
end Go.Proofs.YtameljhbkedhjaaGreatDoor
namespace Go.Proofs.YtameljhbkedhjaaGreatDoor
open Go Go.Vc Go.Proofs
set_option linter.unusedVariables false
set_option linter.unusedSimpArgs false
variable {H H0 H' : Heap} {R : Value → Heap → Prop} {v : Value} {L : List It} {zs : List Int}
theorem upto_spec {least : Nat} (hs : Sl H v 1 (numsV zs)) (hlen : zs.length ≤ 1000) (hl : least ≤ zs.length) (h1 : 1 ≤ least)
    (h : ∀ n : Nat, least ≤ n → n ≤ zs.length → (∀ j, n ≤ j → zs.getD j 0 = 0) → R (.int .i64 (n : Int)) H) : CallsH Tryz.prog 56 #[v, .int .i64 (least : Int)] H R := by
  have hvl : (numsV zs).length = zs.length * 1 := by rw [numsV_len]; omega
  refine block_upto.vc _ _ _ _ ?_
  unfold block_upto.res
  refine hs.len hvl (by decide) ?_
  refine ⟨fun n H' => ∃ k : Nat, n = .int .i64 k ∧ least ≤ k ∧ k ≤ zs.length ∧ (∀ j, k ≤ j → zs.getD j 0 = 0) ∧ H = H', fun n _ => match n with | .int _ x => x.toNat | _ => 0,
    ⟨zs.length, rfl, hl, Nat.le_refl _, fun j hj => by rw [List.getD_eq_getElem?_getD, List.getElem?_eq_none hj]; rfl, rfl⟩, ?_⟩
  rintro _ _ _ ⟨k, rfl, hk1, hk2, hz, rfl⟩
  rw [pGt_v]
  by_cases hc : least < k
  · rw [decide_eq_true (by omega)]
    refine pAnd_true ?_
    rw [pSub_v, w64 (by omega) (by omega)]
    have hkn : k - 1 < zs.length := by omega
    refine hs.at_ hvl (by decide) (by omega) (by omega) fun p hp => ?_
    refine hp.load hs (w := .int .i64 zs[k - 1]) (by rw [show ((k : Int) - 1).toNat = k - 1 by omega, Nat.mul_one, numsV_get hkn]) ?_
    rw [pEq_0]
    intro _
    refine pCond_if (fun he => ?_) (fun he => ?_)
    · rw [pSub_v, w64 (by omega) (by omega)]
      refine ⟨⟨k - 1, by rw [show ((k - 1 : Nat) : Int) = (k : Int) - 1 by omega], by omega, by omega, fun j hj => ?_, rfl⟩, by show (_ : Int).toNat < (_ : Int).toNat; omega⟩
      by_cases e : j = k - 1
      · subst e; rw [List.getD_eq_getElem?_getD, List.getElem?_eq_getElem hkn]; exact he
      · exact hz j (by omega)
    · exact h k hk1 hk2 hz
  · rw [decide_eq_false (by omega), pAnd_false]
    intro _
    rw [pCond_false]
    exact h k hk1 hk2 hz
theorem shareL_set : ∀ (l : List Nat) (f : Nat), f < l.length → l.getD f 0 = 0 → shareL (l.set f 1) 15 = shareL l 15 + 16384
  | [], f, h, _ => by simp at h
  | a :: l, 0, h, h0 => by
    simp at h0; subst h0
    unfold shareL; simp; omega
  | a :: l, f + 1, h, h0 => by
    have := shareL_set l f (by simpa using h) (by simpa using h0)
    unfold shareL at this ⊢
    simp only [List.set_cons_succ, List.map_cons, List.sum_cons]
    omega
structure StrOk (zs : List Int) (m : Nat) (ys : List Int) : Prop where
  len : ys.length = zs.length
  rng : ∀ s, 0 ≤ ys.getD s 0 ∧ ys.getD s 0 ≤ m
  has : ∀ s, 0 < zs.getD s 0 → 1 ≤ ys.getD s 0
  share : shareL (natL ys) 15 = 32768
theorem natL_getD0 (ys : List Int) (s : Nat) : (natL ys).getD s 0 = (ys.getD s 0).toNat := by
  unfold natL
  rw [List.getD_eq_getElem?_getD, List.getElem?_map, List.getD_eq_getElem?_getD]
  cases ys[s]? <;> rfl
theorem natL_set (ys : List Int) (f : Nat) (z : Int) : natL (ys.set f z) = (natL ys).set f z.toNat := by unfold natL; rw [List.map_set]
theorem nzL_take (l : List Nat) (k : Nat) (h : k < l.length) : nzL (l.take (k + 1)) = nzL (l.take k) + if l.getD k 0 = 0 then 0 else 1 := by
  rw [List.take_add_one, List.getElem?_eq_getElem h, nzL_append, List.getD_eq_getElem?_getD, List.getElem?_eq_getElem h]
  congr 1
  unfold nzL
  by_cases e : l[k] = 0 <;> simp [e]
theorem strict_spec {m : Nat} (hs : Sl H v 1 (numsV zs)) (hlen : zs.length ≤ 288) (hl2 : 2 ≤ zs.length) (hok : goodM zs = true) (h1 : 1 ≤ m) (h2 : m ≤ 15) (hn : (suppU zs zs.length).length ≤ 2 ^ m) (hn1 : 1 ≤ (suppU zs zs.length).length)
    (h : ∀ y ys H', StrOk zs m ys → Owns H H' [.sl y 1 (numsV ys)] → R y H') : CallsH Tryz.prog 55 #[v, .int .i64 (m : Int)] H R := by
  refine block_strict.vc _ _ _ _ ?_
  unfold block_strict.res
  refine lengths_spec hs hlen hok h1 h2 hn fun y ls H1 hlo o => ?_
  obtain ⟨f1, f2, f3, f4, f5⟩ := lensOk_facts hlo h1 h2 hn
  refine pExtract_to (vs := [y, .int .i64 0]) rfl ?_
  refine pExtract_to (vs := [y, .int .i64 0]) rfl ?_
  have hy := o.sl (v := y) (by repeat (first | exact List.mem_cons_self | apply List.mem_cons_of_mem))
  have hyl : (numsV ls).length = ls.length * 1 := by rw [numsV_len]; omega
  have hrng : ∀ s, 0 ≤ ls.getD s 0 ∧ ls.getD s 0 ≤ m := fun s => by
    by_cases hsl : s < zs.length
    · have := f2 s hsl
      split at this <;> omega
    · rw [List.getD_eq_getElem?_getD, List.getElem?_eq_none (by omega)]; simp
  have hhas : ∀ s, 0 < zs.getD s 0 → 1 ≤ ls.getD s 0 := fun s h0 => by
    by_cases hsl : s < zs.length
    · have := f2 s hsl
      rw [if_pos h0] at this; exact this.1
    · rw [List.getD_eq_getElem?_getD, List.getElem?_eq_none (by omega)] at h0; simp at h0
  have hnl : (natL ls).length = ls.length := natL_len ls
  refine hy.len hyl (by decide) ?_
  refine ⟨fun a f i H' => ∃ (k : Nat) (fi : Int), i = .int .i64 k ∧ a = .int .i64 ((nzL ((natL ls).take k) : Nat) : Int) ∧ f = .int .i64 fi ∧ k ≤ ls.length ∧ ((fi = -1 ∧ nzL ((natL ls).take k) = k) ∨ (0 ≤ fi ∧ fi < ls.length ∧ ls.getD fi.toNat 0 = 0)) ∧ nzL ((natL ls).take k) ≤ k ∧ H1 = H',
    fun _ _ i _ => match i with | .int _ x => (ls.length - x).toNat | _ => 0, ⟨0, -1, rfl, rfl, rfl, by omega, .inl ⟨rfl, rfl⟩, Nat.le_refl _, rfl⟩, ?_⟩
  rintro _ _ _ _ _ ⟨k, fi, rfl, rfl, rfl, hk, hf, hnk, rfl⟩
  rw [pLt_v]
  refine pCond_if (fun hc => ?_) (fun hc => ?_)
  · have hkn : k < ls.length := by omega
    have gk : ls.getD k 0 = ls[k] := by rw [List.getD_eq_getElem?_getD, List.getElem?_eq_getElem hkn]; rfl
    have hnt := nzL_take (natL ls) k (by omega)
    rw [natL_getD0, gk] at hnt
    refine hy.at_ hyl (by decide) (by omega) (by omega) fun p hp => ?_
    refine hp.load hy (w := .int .i64 ls[k]) (by rw [Int.toNat_natCast, Nat.mul_one, numsV_get hkn]) ?_
    have hrk := hrng k
    rw [gk] at hrk
    rw [pGt_v]
    refine pCond_if (fun hp0 => ?_) (fun hp0 => ?_)
    · rw [if_neg (by omega)] at hnt
      rw [pAdd_v, w64 (by omega) (by omega), pAdd_v, w64 (by omega) (by omega)]
      refine ⟨⟨k + 1, fi, rfl, by rw [hnt]; rfl, rfl, by omega, ?_, by omega, rfl⟩, by show (_ : Int).toNat < (_ : Int).toNat; omega⟩
      rcases hf with ⟨hf, hq⟩ | hf
      · exact .inl ⟨hf, by omega⟩
      · exact .inr hf
    · have hz0 : ls[k] = 0 := by omega
      rw [if_pos (by omega)] at hnt
      replace hnt : nzL ((natL ls).take (k + 1)) = nzL ((natL ls).take k) := hnt
      rw [pLt_v]
      refine pCond_if (fun hf0 => ?_) (fun hf0 => ?_)
      · rw [pAdd_v, w64 (by omega) (by omega)]
        exact ⟨⟨k + 1, (k : Int), rfl, by rw [hnt], rfl, by omega, .inr ⟨by omega, by omega, by rw [Int.toNat_natCast, gk]; exact hz0⟩, by omega, rfl⟩, by show (_ : Int).toNat < (_ : Int).toNat; omega⟩
      · rw [pAdd_v, w64 (by omega) (by omega)]
        have hf2 : 0 ≤ fi ∧ fi < ls.length ∧ ls.getD fi.toNat 0 = 0 := by
          rcases hf with ⟨hf, _⟩ | hf
          · omega
          · exact hf
        exact ⟨⟨k + 1, fi, rfl, by rw [hnt], rfl, by omega, .inr hf2, by omega, rfl⟩, by show (_ : Int).toNat < (_ : Int).toNat; omega⟩
  · have hkl : k = ls.length := by omega
    rw [hkl, List.take_of_length_le (by omega)] at hf ⊢
    rw [f5] at hf ⊢
    rw [pEq_0]
    refine pCond_if (fun he => ?_) (fun he => ?_)
    · have hs1 : (suppU zs zs.length).length = 1 := by omega
      rcases hf with ⟨_, hf⟩ | ⟨g1, g2, g3⟩
      · omega
      obtain ⟨fn, rfl⟩ : ∃ n : Nat, fi = n := ⟨fi.toNat, by omega⟩
      rw [Int.toNat_natCast] at g3
      refine hy.at_ hyl (by decide) (by omega) (by omega) fun p hp => ?_
      rw [Int.toNat_natCast, Nat.mul_one] at hp
      refine o.store hp (by repeat (first | exact List.mem_cons_self | apply List.mem_cons_of_mem)) (by rw [numsV_len]; omega) rfl (by repeat (first | exact Rep.here | apply Rep.there)) fun H2 o2 _ => ?_
      rw [numsV_set] at o2
      have hget : ∀ s, (ls.set fn 1).getD s 0 = if s = fn then 1 else ls.getD s 0 := fun s => by
        rw [List.getD_eq_getElem?_getD, List.getElem?_set]
        by_cases e : fn = s
        · subst e; rw [if_pos rfl, if_pos (by omega), if_pos rfl]; rfl
        · rw [if_neg e, if_neg (fun h => e h.symm), List.getD_eq_getElem?_getD]
      refine h y (ls.set fn 1) H2 ⟨by rw [List.length_set]; exact f1, fun s => ?_, fun s h0 => ?_, ?_⟩ o2
      · rw [hget s]; have := hrng s; split <;> omega
      · rw [hget s]; have := hhas s h0; split <;> omega
      · rw [natL_set, show (1 : Int).toNat = 1 from rfl, shareL_set _ _ (by omega) (by rw [natL_getD0, g3]; rfl), (f4 (by omega)).1, hs1]
    · have hs2 : 2 ≤ (suppU zs zs.length).length := by omega
      exact h y ls H1 ⟨f1, hrng, hhas, f3 hs2⟩ o
end Go.Proofs.YtameljhbkedhjaaGreatDoor
namespace Go.Proofs.YtameljhbkedhjaaGreatDoor
open Go Go.Vc Go.Proofs
set_option linter.unusedVariables false
set_option linter.unusedSimpArgs false
variable {H : Heap} {R : Value → Heap → Prop} {v : Value} {zs : List Int} {ls : List Nat} {B : List Bool}
theorem open1_spec {H0 : Heap} {L : List It} {hb mb vb : Nat} {th tm tv : TypeId} {x n a m : Nat} (o : Owns H0 H L) (hn : n ≤ 15) (ha : a < 18446744073709551616) (m1 : It.box hb [.int .i64 (n : Int)] th ∈ L) (m2 : It.box mb [.int .u64 (IntKind.u64.wrap (IntKind.u64.wrap (1 * 2 ^ min ((n : Int)).toNat IntKind.u64.bits) - 1))] tm ∈ L) (m3 : It.box vb [.int .u64 (x : Int)] tv ∈ L)
    (h : ∀ H', Owns H0 H' L → R (.bool (decide (n < m) && decide (a % 2 ^ n = x))) H') :
    CallsH Tryz.prog 74 #[.agg #[.int .u64 (a : Int), .int .i64 (m : Int)], .pointer (some ⟨hb, 0, none⟩), .pointer (some ⟨mb, 0, none⟩), .pointer (some ⟨vb, 0, none⟩)] H R := by
  refine canon_Code_open_f1.vc _ _ _ _ _ _ ?_
  unfold canon_Code_open_f1.res
  refine o.box fun wb H1 o1 _ => ?_
  change Owns H0 H1 (.box wb [.int .u64 (a : Int), .int .i64 (m : Int)] _ :: L) at o1
  rw [pFieldAddr_v, add_mk]
  refine o1.bload (f := 0 + 1) (by repeat (first | exact List.mem_cons_self | apply List.mem_cons_of_mem)) rfl ?_
  refine o1.bload (List.mem_cons_of_mem _ m1) rfl ?_
  rw [pGt_v]
  refine pAnd_if (d := decide (a % 2 ^ n = x)) (fun _ => ?_) ?_
  · rw [pFieldAddr_v, add_mk]
    refine o1.bload (f := 0 + 0) (by repeat (first | exact List.mem_cons_self | apply List.mem_cons_of_mem)) rfl ?_
    refine o1.bload (List.mem_cons_of_mem _ m2) rfl ?_
    rw [pBits_v, mask_u64 ha (by omega)]
    refine o1.bload (List.mem_cons_of_mem _ m3) rfl ?_
    rw [pEq_0]
    refine ⟨?_, rfl⟩
    congr 1
    rw [Bool.eq_iff_iff, decide_eq_true_eq, decide_eq_true_eq]
    omega
  intro _
  have := h H1 (o1.pick (List.sublist_cons_self _ _))
  rw [show decide ((n : Int) < (m : Int)) = decide (n < m) by rw [Bool.eq_iff_iff, decide_eq_true_eq, decide_eq_true_eq]; omega]
  exact this
theorem wordB_bits {s n x : Nat} (h : n ≤ ls.getD s 0) (hx : x < 2 ^ n) : (wordB ls s).take n = bitsN x n ↔ revN (codeL ls s) (ls.getD s 0) % 2 ^ n = x := by
  unfold wordB
  rw [bitsN_take h]
  constructor
  · intro g
    have := bitsN_inj g
    rwa [Nat.mod_eq_of_lt hx] at this
  · intro g
    rw [← bitsN_mod, g]
open Classical in
theorem open_spec {H0 : Heap} {L : List It} {b : Nat} {lv wv sv : Value} {x n : Nat} (hz : okZ zs) (o : Owns H0 H L) (m1 : It.box b (codeCells lv wv (countsL (natL zs)) sv) 90 ∈ L) (m2 : It.sl wv 2 (wordsV (natL zs)) ∈ L)
    (hx : x < 2 ^ n) (hn : n ≤ 15) (h : ∀ H', Owns H0 H' L → R (.bool (decide (more (natL zs) (bitsN x n)))) H') :
    CallsH Tryz.prog 46 #[.pointer (some ⟨b, 0, none⟩), .int .u64 (x : Int), .int .i64 (n : Int)] H R := by
  have hle := ok_le hz
  have hlen : (natL zs).length ≤ 288 := by rw [natL_len]; exact hz.1
  generalize natL zs = ls at *
  have hwl := wordsV_len ls
  refine canon_Code_open.vc _ _ _ _ _ ?_
  unfold canon_Code_open.res
  refine o.box fun vb H1 o1 _ => ?_
  change Owns H0 H1 (.box vb [.int .u64 (x : Int)] _ :: L) at o1
  refine o1.box fun hb H2 o2 _ => ?_
  change Owns H0 H2 (.box hb [.int .i64 (n : Int)] _ :: .box vb [.int .u64 (x : Int)] _ :: L) at o2
  refine o2.bload (by repeat (first | exact List.mem_cons_self | apply List.mem_cons_of_mem)) rfl ?_
  rw [pShl_v]
  refine ⟨by omega, ?_⟩
  rw [pSub_v]
  refine o2.box fun mb H3 o3 _ => ?_
  change Owns H0 H3 (.box mb [.int .u64 0] _ :: .box hb [.int .i64 (n : Int)] _ :: .box vb [.int .u64 (x : Int)] _ :: L) at o3
  refine o3.bstore (by repeat (first | exact List.mem_cons_self | apply List.mem_cons_of_mem)) (by decide) rfl (Rep.here) fun H4 o4 _ => ?_
  rw [List.set_cons_zero] at o4
  rw [pNil_v, pFieldAddr_v, add_mk]
  have mem : ∀ {i : It}, i ∈ L → ∀ {a b c : It}, i ∈ a :: b :: c :: L := fun {i} h {a b c} => List.mem_cons_of_mem _ (List.mem_cons_of_mem _ (List.mem_cons_of_mem _ h))
  refine o4.bload (f := 0 + 1) (mem m1) rfl ?_
  refine slices_ContainsFunc_s_canon_word_canon_word.vc _ _ _ _ ?_
  unfold slices_ContainsFunc_s_canon_word_canon_word.res
  refine slices_IndexFunc_s_canon_word_canon_word.vc _ _ _ _ ?_
  unfold slices_IndexFunc_s_canon_word_canon_word.res
  refine (o4.sl (mem m2)).len hwl (by decide) ?_
  have hend : ∀ {H' a b c}, Owns H0 H' (a :: b :: c :: L) → Owns H0 H' L := fun o => o.pick (List.Sublist.cons _ (List.Sublist.cons _ (List.sublist_cons_self _ _)))
  refine ⟨fun i H' => ∃ k : Nat, i = .int .i64 k ∧ k ≤ ls.length ∧ Owns H0 H' (.box mb [.int .u64 (IntKind.u64.wrap (IntKind.u64.wrap (1 * 2 ^ min ((n : Int)).toNat IntKind.u64.bits) - 1))] 25 :: .box hb [.int .i64 (n : Int)] 3 :: .box vb [.int .u64 (x : Int)] 25 :: L) ∧ ∀ s, s < k → ¬ (n < ls.getD s 0 ∧ (wordB ls s).take n = bitsN x n), fun i _ => match i with | .int _ x => (1000 - x).toNat | _ => 0, ⟨0, rfl, by omega, o4, by omega⟩, ?_⟩
  clear o o1 o2 o3 o4
  rintro _ _ H5 ⟨k, rfl, hk, o4, hno⟩
  rw [pLt_v]
  refine pCond_if (fun hc => ?_) (fun hc => ?_)
  · have hkl : k < ls.length := by omega
    refine (o4.sl (mem m2)).at_ hwl (by decide) (by omega) (by omega) fun p hp => ?_
    rw [Int.toNat_natCast] at hp
    refine hp.loadN (o4.sl (mem m2)) (ws := wordV ls k) ?_ rfl ?_
    · have e0 := wordsV_at (ls := ls) (s := k) (j := 0) hkl (by decide)
      have e1 := wordsV_at (ls := ls) (s := k) (j := 1) hkl (by decide)
      apply List.ext_getElem?
      intro i
      rw [List.getElem?_take]
      split
      · rename_i hi
        rw [List.getElem?_drop]
        match i, hi with
        | 0, _ => exact e0
        | 1, _ => exact e1
      · rename_i hi
        rw [List.getElem?_eq_none (by show 2 ≤ i; omega)]
    refine callH_f (by kernel_rfl) ?_
    have hr := revN_lt (codeL ls k) (ls.getD k 0)
    have hp2 : 2 ^ ls.getD k 0 ≤ 2 ^ 15 := Nat.pow_le_pow_right (by decide) (getD_le hle k)
    refine open1_spec (a := revN (codeL ls k) (ls.getD k 0)) (m := ls.getD k 0) o4 hn (by omega) (by repeat (first | exact List.mem_cons_self | apply List.mem_cons_of_mem)) (by repeat (first | exact List.mem_cons_self | apply List.mem_cons_of_mem)) (by repeat (first | exact List.mem_cons_self | apply List.mem_cons_of_mem)) fun H6 o5 => ?_
    have hiff := @wordB_bits ls k n x
    refine pCond_b (fun hb => ?_) (fun hb => ?_)
    · rw [Bool.and_eq_true, decide_eq_true_eq, decide_eq_true_eq] at hb
      show pGe _ _ _
      rw [pGe_v, decide_eq_true (by omega)]
      have hm : more ls (bitsN x n) := ⟨k, hkl, by rw [bitsN_len]; exact hb.1, by rw [bitsN_len]; exact (hiff (by omega) hx).2 hb.2⟩
      have := h H6 (hend o5)
      rw [decide_eq_true hm] at this
      exact this
    · rw [pAdd_v, w64 (n := (k : Int) + 1) (by omega) (by omega)]
      refine ⟨⟨k + 1, rfl, by omega, o5, fun s hs => ?_⟩, by show (_ : Int).toNat < (_ : Int).toNat; omega⟩
      by_cases he : s = k
      · subst he
        rintro ⟨g1, g2⟩
        rw [decide_eq_true g1, decide_eq_true ((hiff (by omega) hx).1 g2)] at hb
        cases hb
      · exact hno s (by omega)
  · have hkl : k = ls.length := by omega
    subst hkl
    show pGe _ _ _
    rw [pGe_v, decide_eq_false (by decide)]
    have hm : ¬ more ls (bitsN x n) := by
      rintro ⟨s, g1, g2, g3⟩
      rw [bitsN_len] at g2 g3
      exact hno s g1 ⟨g2, g3⟩
    have := h H5 (hend o4)
    rw [decide_eq_false hm] at this
    exact this
end Go.Proofs.YtameljhbkedhjaaGreatDoor
namespace Go.Proofs.YtameljhbkedhjaaGreatDoor
open Go Go.Vc Go.Proofs
set_option linter.unusedVariables false
set_option linter.unusedSimpArgs false
variable {H : Heap} {R : Value → Heap → Prop}
abbrev at_ (b o : Nat) : Value := .pointer (some ⟨b, o, none⟩)
abbrev u64 (n : Nat) : Value := .int .u64 (n : Int)
abbrev i64 (n : Nat) : Value := .int .i64 (n : Int)
structure Rd (H : Heap) (b o : Nat) (B : List Bool) : Prop where
  sub : ∃ (rest : List UInt8) (acc n : Nat), Sub H b o [str rest, u64 acc, i64 n] ∧ B = bitsN acc n ++ toBits rest ∧ acc < 2 ^ n ∧ n < 40
  big : B.length ≤ 1152921504606846976
theorem Rd.ext {H' : Heap} {b o : Nat} {B : List Bool} (h : Rd H b o B) (hx : Ext H H') : Rd H' b o B := by
  obtain ⟨⟨rest, acc, n, h1, h2⟩, h3⟩ := h
  exact ⟨⟨rest, acc, n, h1.ext hx, h2⟩, h3⟩
theorem Rd.lt {b o : Nat} {B : List Bool} (h : Rd H b o B) : b < H.size := by
  obtain ⟨⟨rest, acc, n, h1, h2⟩, h3⟩ := h
  exact h1.lt
theorem Rd.new {b o : Nat} (h : Sub H b o [str [], .int .u64 0, .int .i64 0]) : Rd H b o [] := ⟨⟨[], 0, 0, h, rfl, by decide, by decide⟩, by simp⟩
variable {b o : Nat} {B : List Bool}
theorem rLeft_spec (hr : Rd H b o B) (h : R (i64 B.length) H) : CallsH Tryz.prog 19 #[at_ b o] H R := by
  obtain ⟨⟨rest, acc, n, hs, rfl, ha, hn⟩, hb⟩ := hr
  rw [List.length_append, bitsN_len, toBits_len] at hb h
  refine bits_Reader_Left.vc _ _ _ ?_
  unfold bits_Reader_Left.res
  simp only [pPick_v, pNil_v, pNil_f, pAdd_v, pSub_v, pMul_v, pAdd_s, pQuo_v, pRem_v, pBits_v, pShl_v, pShr_v, pLt_v, pLe_v, pGt_v, pGe_v, pEq_0, pNe_0, pEq_1, pNe_1, pEq_2, pNe_2, pEq_3n, pNe_3n, pEq_3s, pNe_3s, pEq_3t, pNe_3t, pEq_5n, pNe_5n, pEq_5s, pNe_5s, pEq_5t, pNe_5t, pEq_4n, pNe_4n, pEq_4s, pNe_4s, pNot_v, pNeg_v, pCom_v, pConv_v, pConvS_v, pMin_v, pMax_v, pFieldAddr_v, pField1_v, pFieldN_v, pExtract_v, pIdxArr_v, pIdxSl_v, pIdxStr_v, pBounds_00, pBounds_10, pBounds_01, pBounds_11, pSlStr_v, pSlSl_v, pSlArr_v, pLenS_v, pLen_v, pCap_v, pBuild_n, pBuild_c, cells_int, cells_str, cells_bool, cells_ptr, cells_slice, cells_map, cells_agg, oneCell_int, oneCell_str, oneCell_bool, oneCell_ptr, oneCell_slice, oneCell_map, putL_cons, putL_nil, pAnd_pure, pOr_pure, pAnd_pureE, pOr_pureE, pAnd_false, pOr_true, pCond_true, pCond_false, add_mk, bys_mk, bys_size, cond_true, cond_false, decide_true, decide_false, decide_not', dec_and, dec_or, dec_eqt, Bool.not_true, Bool.not_false, Option.isNone_none, Option.isNone_some, Option.map_some, Option.map_none, List.getElem?_toArray, List.getElem?_cons_zero, List.getElem?_cons_succ, List.size_toArray, List.length_cons, List.length_nil, List.length_replicate, List.set_cons_zero, List.set_cons_succ, Nat.reduceAdd, Nat.reduceMul, Nat.reduceSub, Nat.reduceLeDiff, Nat.zero_add, Nat.add_zero, Nat.zero_le, true_and, and_true, not_false_eq_true, ne_eq, Int.reduceNeg, Int.reduceEq, Int.reduceNe, Int.reduceLT, Int.reduceLE, le_refl', List.setIfInBounds_toArray, Nat.reduceLT, Array.size_setIfInBounds, if_true, if_false, reduceCtorEq, List.toArray_toList', List.drop_succ_cons, List.drop_zero, List.take_succ_cons, List.take_zero, List.nil_append, List.append_nil, List.cons_append, Bool.and_true, Bool.true_and, Bool.or_false, Bool.false_or, Bool.and_false, Bool.or_true, Bool.true_or, Bool.false_and, eq_self, pLoad_cell (hs.cell0 rfl), pLoad_cell (hs.cell (k := 2) rfl)]
  rw [w64 (n := 8 * (rest.length : Int)) (by omega) (by omega), w64 (by omega) (by omega), show (n : Int) + 8 * (rest.length : Int) = ((n + 8 * rest.length : Nat) : Int) by omega]
  exact h
theorem rFeed_spec {s : List UInt8} (hr : Rd H b o B) (hbig : B.length + 8 * s.length ≤ 1152921504606846976) (h : ∀ H', Rd H' b o (B ++ toBits s) → Chg b o 3 none_ none_ H H' → R (.tuple #[]) H') : CallsH Tryz.prog 17 #[at_ b o, str s] H R := by
  obtain ⟨⟨rest, acc, n, hs, rfl, ha, hn⟩, hb⟩ := hr
  rw [List.length_append, bitsN_len, toBits_len] at hb hbig
  refine bits_Reader_Feed.vc _ _ _ _ ?_
  unfold bits_Reader_Feed.res
  simp only [pPick_v, pNil_v, pNil_f, pAdd_v, pSub_v, pMul_v, pAdd_s, pQuo_v, pRem_v, pBits_v, pShl_v, pShr_v, pLt_v, pLe_v, pGt_v, pGe_v, pEq_0, pNe_0, pEq_1, pNe_1, pEq_2, pNe_2, pEq_3n, pNe_3n, pEq_3s, pNe_3s, pEq_3t, pNe_3t, pEq_5n, pNe_5n, pEq_5s, pNe_5s, pEq_5t, pNe_5t, pEq_4n, pNe_4n, pEq_4s, pNe_4s, pNot_v, pNeg_v, pCom_v, pConv_v, pConvS_v, pMin_v, pMax_v, pFieldAddr_v, pField1_v, pFieldN_v, pExtract_v, pIdxArr_v, pIdxSl_v, pIdxStr_v, pBounds_00, pBounds_10, pBounds_01, pBounds_11, pSlStr_v, pSlSl_v, pSlArr_v, pLenS_v, pLen_v, pCap_v, pBuild_n, pBuild_c, cells_int, cells_str, cells_bool, cells_ptr, cells_slice, cells_map, cells_agg, oneCell_int, oneCell_str, oneCell_bool, oneCell_ptr, oneCell_slice, oneCell_map, putL_cons, putL_nil, pAnd_pure, pOr_pure, pAnd_pureE, pOr_pureE, pAnd_false, pOr_true, pCond_true, pCond_false, add_mk, bys_mk, bys_size, cond_true, cond_false, decide_true, decide_false, decide_not', dec_and, dec_or, dec_eqt, Bool.not_true, Bool.not_false, Option.isNone_none, Option.isNone_some, Option.map_some, Option.map_none, List.getElem?_toArray, List.getElem?_cons_zero, List.getElem?_cons_succ, List.size_toArray, List.length_cons, List.length_nil, List.length_replicate, List.set_cons_zero, List.set_cons_succ, Nat.reduceAdd, Nat.reduceMul, Nat.reduceSub, Nat.reduceLeDiff, Nat.zero_add, Nat.add_zero, Nat.zero_le, true_and, and_true, not_false_eq_true, ne_eq, Int.reduceNeg, Int.reduceEq, Int.reduceNe, Int.reduceLT, Int.reduceLE, le_refl', List.setIfInBounds_toArray, Nat.reduceLT, Array.size_setIfInBounds, if_true, if_false, reduceCtorEq, List.toArray_toList', List.drop_succ_cons, List.drop_zero, List.take_succ_cons, List.take_zero, List.nil_append, List.append_nil, List.cons_append, Bool.and_true, Bool.true_and, Bool.or_false, Bool.false_or, Bool.and_false, Bool.or_true, Bool.true_or, Bool.false_and, eq_self, pLoad_cell (hs.cell0 rfl)]
  refine ⟨by first | omega | (simp [ByteArray.size]; omega), ?_⟩
  refine pStore_sub0 (F := none_) (n := 3) hs rfl (by simp) rfl fun H1 s1 hs1 c1 => ?_
  refine h H1 ⟨⟨rest ++ s, acc, n, hs1, by rw [toBits_append, List.append_assoc], ha, hn⟩, ?_⟩ c1
  rw [List.length_append, List.length_append, bitsN_len, toBits_len, toBits_len]; omega
theorem rfill_spec {k : Nat} (hk : k ≤ 32) {rest : List UInt8} {acc n : Nat} (hs : Sub H b o [str rest, u64 acc, i64 n]) (ha : acc < 2 ^ n) (hn : n < 40) (hl : k ≤ n + 8 * rest.length) (hbig : rest.length ≤ 1152921504606846976)
    (h : ∀ H' rest' acc' n', Sub H' b o [str rest', u64 acc', i64 n'] → bitsN acc' n' ++ toBits rest' = bitsN acc n ++ toBits rest → acc' < 2 ^ n' → n' < 40 → k ≤ n' → Chg b o 3 none_ none_ H H' → R (.tuple #[]) H') : CallsH Tryz.prog 71 #[at_ b o, i64 k] H R := by
  refine bits_Reader_fill.vc _ _ _ _ ?_
  unfold bits_Reader_fill.res
  refine ⟨fun H' => ∃ (rest' : List UInt8) (acc' n' : Nat), Sub H' b o [str rest', u64 acc', i64 n'] ∧ bitsN acc' n' ++ toBits rest' = bitsN acc n ++ toBits rest ∧ acc' < 2 ^ n' ∧ n' < 40 ∧ rest'.length ≤ rest.length ∧ Chg b o 3 none_ none_ H H',
    fun H' => match cellAt H' ⟨b, o + 2, none⟩ with | some (.int _ q) => (100 - q).toNat | _ => 0, ⟨rest, acc, n, hs, rfl, ha, hn, Nat.le_refl _, Chg.refl⟩, ?_⟩
  rintro _ H1 ⟨rest', acc', n', hs1, he, ha1, hn1, hrl, c1⟩
  have hlen : n' + 8 * rest'.length = n + 8 * rest.length := by
    have := congrArg List.length he
    rw [List.length_append, List.length_append, bitsN_len, bitsN_len, toBits_len, toBits_len] at this
    exact this
  simp only [pPick_v, pNil_v, pNil_f, pAdd_v, pSub_v, pMul_v, pAdd_s, pQuo_v, pRem_v, pBits_v, pShl_v, pShr_v, pLt_v, pLe_v, pGt_v, pGe_v, pEq_0, pNe_0, pEq_1, pNe_1, pEq_2, pNe_2, pEq_3n, pNe_3n, pEq_3s, pNe_3s, pEq_3t, pNe_3t, pEq_5n, pNe_5n, pEq_5s, pNe_5s, pEq_5t, pNe_5t, pEq_4n, pNe_4n, pEq_4s, pNe_4s, pNot_v, pNeg_v, pCom_v, pConv_v, pConvS_v, pMin_v, pMax_v, pFieldAddr_v, pField1_v, pFieldN_v, pExtract_v, pIdxArr_v, pIdxSl_v, pIdxStr_v, pBounds_00, pBounds_10, pBounds_01, pBounds_11, pSlStr_v, pSlSl_v, pSlArr_v, pLenS_v, pLen_v, pCap_v, pBuild_n, pBuild_c, cells_int, cells_str, cells_bool, cells_ptr, cells_slice, cells_map, cells_agg, oneCell_int, oneCell_str, oneCell_bool, oneCell_ptr, oneCell_slice, oneCell_map, putL_cons, putL_nil, pAnd_pure, pOr_pure, pAnd_pureE, pOr_pureE, pAnd_false, pOr_true, pCond_true, pCond_false, add_mk, bys_mk, bys_size, cond_true, cond_false, decide_true, decide_false, decide_not', dec_and, dec_or, dec_eqt, Bool.not_true, Bool.not_false, Option.isNone_none, Option.isNone_some, Option.map_some, Option.map_none, List.getElem?_toArray, List.getElem?_cons_zero, List.getElem?_cons_succ, List.size_toArray, List.length_cons, List.length_nil, List.length_replicate, List.set_cons_zero, List.set_cons_succ, Nat.reduceAdd, Nat.reduceMul, Nat.reduceSub, Nat.reduceLeDiff, Nat.zero_add, Nat.add_zero, Nat.zero_le, true_and, and_true, not_false_eq_true, ne_eq, Int.reduceNeg, Int.reduceEq, Int.reduceNe, Int.reduceLT, Int.reduceLE, le_refl', List.setIfInBounds_toArray, Nat.reduceLT, Array.size_setIfInBounds, if_true, if_false, reduceCtorEq, List.toArray_toList', List.drop_succ_cons, List.drop_zero, List.take_succ_cons, List.take_zero, List.nil_append, List.append_nil, List.cons_append, Bool.and_true, Bool.true_and, Bool.or_false, Bool.false_or, Bool.and_false, Bool.or_true, Bool.true_or, Bool.false_and, eq_self, pLoad_cell (hs1.cell0 rfl), pLoad_cell (hs1.cell (k := 1) rfl), pLoad_cell (hs1.cell (k := 2) rfl)]
  refine fun _ => pCond_if (fun hc => ?_) (fun hc => ?_)
  · obtain ⟨x, t, rfl⟩ : ∃ x t, rest' = x :: t := by
      cases rest' with
      | nil => exact absurd rfl hc.2
      | cons x t => exact ⟨x, t, rfl⟩
    have hx : x.toNat < 256 := x.toNat_lt
    have hpw : (2 : Nat) ^ n' ≤ 2 ^ 31 := Nat.pow_le_pow_right (by decide) (by omega)
    have hm : x.toNat * 2 ^ n' ≤ 255 * 2 ^ 31 := Nat.mul_le_mul (by omega) hpw
    simp only [Int.reduceToNat, List.getD_cons_zero]
    refine ⟨by simp, by omega, ?_⟩
    rw [wu64 (n := (x.toNat : Int)) (by omega) (by omega), shl_u64 (by omega) (by omega), or_u64 (by omega) (by omega), or_disj ha1]
    have hs1' : Sub H1 b o [str (x :: t), u64 acc', i64 n'] := hs1
    refine pStore_sub (F := none_) (k := 1) (n := 3) hs1 rfl (by simp) rfl fun H2 s2 hs2 c2 => ?_
    simp only [pPick_v, pNil_v, pNil_f, pAdd_v, pSub_v, pMul_v, pAdd_s, pQuo_v, pRem_v, pBits_v, pShl_v, pShr_v, pLt_v, pLe_v, pGt_v, pGe_v, pEq_0, pNe_0, pEq_1, pNe_1, pEq_2, pNe_2, pEq_3n, pNe_3n, pEq_3s, pNe_3s, pEq_3t, pNe_3t, pEq_5n, pNe_5n, pEq_5s, pNe_5s, pEq_5t, pNe_5t, pEq_4n, pNe_4n, pEq_4s, pNe_4s, pNot_v, pNeg_v, pCom_v, pConv_v, pConvS_v, pMin_v, pMax_v, pFieldAddr_v, pField1_v, pFieldN_v, pExtract_v, pIdxArr_v, pIdxSl_v, pIdxStr_v, pBounds_00, pBounds_10, pBounds_01, pBounds_11, pSlStr_v, pSlSl_v, pSlArr_v, pLenS_v, pLen_v, pCap_v, pBuild_n, pBuild_c, cells_int, cells_str, cells_bool, cells_ptr, cells_slice, cells_map, cells_agg, oneCell_int, oneCell_str, oneCell_bool, oneCell_ptr, oneCell_slice, oneCell_map, putL_cons, putL_nil, pAnd_pure, pOr_pure, pAnd_pureE, pOr_pureE, pAnd_false, pOr_true, pCond_true, pCond_false, add_mk, bys_mk, bys_size, cond_true, cond_false, decide_true, decide_false, decide_not', dec_and, dec_or, dec_eqt, Bool.not_true, Bool.not_false, Option.isNone_none, Option.isNone_some, Option.map_some, Option.map_none, List.getElem?_toArray, List.getElem?_cons_zero, List.getElem?_cons_succ, List.size_toArray, List.length_cons, List.length_nil, List.length_replicate, List.set_cons_zero, List.set_cons_succ, Nat.reduceAdd, Nat.reduceMul, Nat.reduceSub, Nat.reduceLeDiff, Nat.zero_add, Nat.add_zero, Nat.zero_le, true_and, and_true, not_false_eq_true, ne_eq, Int.reduceNeg, Int.reduceEq, Int.reduceNe, Int.reduceLT, Int.reduceLE, le_refl', List.setIfInBounds_toArray, Nat.reduceLT, Array.size_setIfInBounds, if_true, if_false, reduceCtorEq, List.toArray_toList', List.drop_succ_cons, List.drop_zero, List.take_succ_cons, List.take_zero, List.nil_append, List.append_nil, List.cons_append, Bool.and_true, Bool.true_and, Bool.or_false, Bool.false_or, Bool.and_false, Bool.or_true, Bool.true_or, Bool.false_and, eq_self, pLoad_cell (hs2.cell0 rfl)]
    refine ⟨by omega, ?_⟩
    simp only [Int.reduceToNat, List.drop_succ_cons, List.drop_zero]
    rw [List.take_of_length_le (by simp)]
    refine pStore_sub0 (F := none_) (n := 3) hs2 rfl (by simp) rfl fun H3 s3 hs3 c3 => ?_
    simp only [pPick_v, pNil_v, pNil_f, pAdd_v, pSub_v, pMul_v, pAdd_s, pQuo_v, pRem_v, pBits_v, pShl_v, pShr_v, pLt_v, pLe_v, pGt_v, pGe_v, pEq_0, pNe_0, pEq_1, pNe_1, pEq_2, pNe_2, pEq_3n, pNe_3n, pEq_3s, pNe_3s, pEq_3t, pNe_3t, pEq_5n, pNe_5n, pEq_5s, pNe_5s, pEq_5t, pNe_5t, pEq_4n, pNe_4n, pEq_4s, pNe_4s, pNot_v, pNeg_v, pCom_v, pConv_v, pConvS_v, pMin_v, pMax_v, pFieldAddr_v, pField1_v, pFieldN_v, pExtract_v, pIdxArr_v, pIdxSl_v, pIdxStr_v, pBounds_00, pBounds_10, pBounds_01, pBounds_11, pSlStr_v, pSlSl_v, pSlArr_v, pLenS_v, pLen_v, pCap_v, pBuild_n, pBuild_c, cells_int, cells_str, cells_bool, cells_ptr, cells_slice, cells_map, cells_agg, oneCell_int, oneCell_str, oneCell_bool, oneCell_ptr, oneCell_slice, oneCell_map, putL_cons, putL_nil, pAnd_pure, pOr_pure, pAnd_pureE, pOr_pureE, pAnd_false, pOr_true, pCond_true, pCond_false, add_mk, bys_mk, bys_size, cond_true, cond_false, decide_true, decide_false, decide_not', dec_and, dec_or, dec_eqt, Bool.not_true, Bool.not_false, Option.isNone_none, Option.isNone_some, Option.map_some, Option.map_none, List.getElem?_toArray, List.getElem?_cons_zero, List.getElem?_cons_succ, List.size_toArray, List.length_cons, List.length_nil, List.length_replicate, List.set_cons_zero, List.set_cons_succ, Nat.reduceAdd, Nat.reduceMul, Nat.reduceSub, Nat.reduceLeDiff, Nat.zero_add, Nat.add_zero, Nat.zero_le, true_and, and_true, not_false_eq_true, ne_eq, Int.reduceNeg, Int.reduceEq, Int.reduceNe, Int.reduceLT, Int.reduceLE, le_refl', List.setIfInBounds_toArray, Nat.reduceLT, Array.size_setIfInBounds, if_true, if_false, reduceCtorEq, List.toArray_toList', List.drop_succ_cons, List.drop_zero, List.take_succ_cons, List.take_zero, List.nil_append, List.append_nil, List.cons_append, Bool.and_true, Bool.true_and, Bool.or_false, Bool.false_or, Bool.and_false, Bool.or_true, Bool.true_or, Bool.false_and, eq_self, pLoad_cell (hs3.cell (k := 2) rfl)]
    rw [w64 (n := (n' : Int) + 8) (by omega) (by omega)]
    refine pStore_sub (F := none_) (k := 2) (n := 3) hs3 rfl (by simp) rfl fun H4 s4 hs4 c4 => ?_
    refine ⟨⟨t, acc' + x.toNat * 2 ^ n', n' + 8, hs4, ?_, ?_, by omega, by simp at hrl; omega, ((c1.trans c2).trans c3).trans c4⟩, ?_⟩
    · rw [← he, bitsN_join ha1, toBits_cons, List.append_assoc]
    · rw [Nat.pow_add]
      have h1 : x.toNat * 2 ^ n' ≤ 255 * 2 ^ n' := Nat.mul_le_mul_right _ (by omega)
      have : (2 : Nat) ^ 8 = 256 := rfl
      omega
    · rw [hs4.cell (k := 2) rfl, hs1.cell (k := 2) rfl]
      show (100 - ((n' : Int) + 8)).toNat < (100 - (n' : Int)).toNat
      omega
  · refine h H1 rest' acc' n' hs1 he ha1 hn1 ?_ c1
    by_cases hr0 : rest' = []
    · subst hr0; simp at hlen; omega
    · have : ¬ ((n' : Int) < (k : Int)) := fun h' => hc ⟨h', hr0⟩
      omega
theorem rdrop_spec {k : Nat} {rest : List UInt8} {acc n : Nat} (hs : Sub H b o [str rest, u64 acc, i64 n]) (hk : k ≤ n) (hn : n < 40)
    (h : ∀ H', Sub H' b o [str rest, u64 (acc / 2 ^ k), i64 (n - k)] → Chg b o 3 none_ none_ H H' → R (.tuple #[]) H') : CallsH Tryz.prog 72 #[at_ b o, i64 k] H R := by
  refine bits_Reader_drop.vc _ _ _ _ ?_
  unfold bits_Reader_drop.res
  simp only [pPick_v, pNil_v, pNil_f, pAdd_v, pSub_v, pMul_v, pAdd_s, pQuo_v, pRem_v, pBits_v, pShl_v, pShr_v, pLt_v, pLe_v, pGt_v, pGe_v, pEq_0, pNe_0, pEq_1, pNe_1, pEq_2, pNe_2, pEq_3n, pNe_3n, pEq_3s, pNe_3s, pEq_3t, pNe_3t, pEq_5n, pNe_5n, pEq_5s, pNe_5s, pEq_5t, pNe_5t, pEq_4n, pNe_4n, pEq_4s, pNe_4s, pNot_v, pNeg_v, pCom_v, pConv_v, pConvS_v, pMin_v, pMax_v, pFieldAddr_v, pField1_v, pFieldN_v, pExtract_v, pIdxArr_v, pIdxSl_v, pIdxStr_v, pBounds_00, pBounds_10, pBounds_01, pBounds_11, pSlStr_v, pSlSl_v, pSlArr_v, pLenS_v, pLen_v, pCap_v, pBuild_n, pBuild_c, cells_int, cells_str, cells_bool, cells_ptr, cells_slice, cells_map, cells_agg, oneCell_int, oneCell_str, oneCell_bool, oneCell_ptr, oneCell_slice, oneCell_map, putL_cons, putL_nil, pAnd_pure, pOr_pure, pAnd_pureE, pOr_pureE, pAnd_false, pOr_true, pCond_true, pCond_false, add_mk, bys_mk, bys_size, cond_true, cond_false, decide_true, decide_false, decide_not', dec_and, dec_or, dec_eqt, Bool.not_true, Bool.not_false, Option.isNone_none, Option.isNone_some, Option.map_some, Option.map_none, List.getElem?_toArray, List.getElem?_cons_zero, List.getElem?_cons_succ, List.size_toArray, List.length_cons, List.length_nil, List.length_replicate, List.set_cons_zero, List.set_cons_succ, Nat.reduceAdd, Nat.reduceMul, Nat.reduceSub, Nat.reduceLeDiff, Nat.zero_add, Nat.add_zero, Nat.zero_le, true_and, and_true, not_false_eq_true, ne_eq, Int.reduceNeg, Int.reduceEq, Int.reduceNe, Int.reduceLT, Int.reduceLE, le_refl', List.setIfInBounds_toArray, Nat.reduceLT, Array.size_setIfInBounds, if_true, if_false, reduceCtorEq, List.toArray_toList', List.drop_succ_cons, List.drop_zero, List.take_succ_cons, List.take_zero, List.nil_append, List.append_nil, List.cons_append, Bool.and_true, Bool.true_and, Bool.or_false, Bool.false_or, Bool.and_false, Bool.or_true, Bool.true_or, Bool.false_and, eq_self, pLoad_cell (hs.cell (k := 1) rfl)]
  refine ⟨by omega, ?_⟩
  rw [shr_int (show k ≤ 64 by omega)]
  refine pStore_sub (F := none_) (k := 1) (n := 3) hs rfl (by simp) rfl fun H2 s2 hs2 c2 => ?_
  simp only [pPick_v, pNil_v, pNil_f, pAdd_v, pSub_v, pMul_v, pAdd_s, pQuo_v, pRem_v, pBits_v, pShl_v, pShr_v, pLt_v, pLe_v, pGt_v, pGe_v, pEq_0, pNe_0, pEq_1, pNe_1, pEq_2, pNe_2, pEq_3n, pNe_3n, pEq_3s, pNe_3s, pEq_3t, pNe_3t, pEq_5n, pNe_5n, pEq_5s, pNe_5s, pEq_5t, pNe_5t, pEq_4n, pNe_4n, pEq_4s, pNe_4s, pNot_v, pNeg_v, pCom_v, pConv_v, pConvS_v, pMin_v, pMax_v, pFieldAddr_v, pField1_v, pFieldN_v, pExtract_v, pIdxArr_v, pIdxSl_v, pIdxStr_v, pBounds_00, pBounds_10, pBounds_01, pBounds_11, pSlStr_v, pSlSl_v, pSlArr_v, pLenS_v, pLen_v, pCap_v, pBuild_n, pBuild_c, cells_int, cells_str, cells_bool, cells_ptr, cells_slice, cells_map, cells_agg, oneCell_int, oneCell_str, oneCell_bool, oneCell_ptr, oneCell_slice, oneCell_map, putL_cons, putL_nil, pAnd_pure, pOr_pure, pAnd_pureE, pOr_pureE, pAnd_false, pOr_true, pCond_true, pCond_false, add_mk, bys_mk, bys_size, cond_true, cond_false, decide_true, decide_false, decide_not', dec_and, dec_or, dec_eqt, Bool.not_true, Bool.not_false, Option.isNone_none, Option.isNone_some, Option.map_some, Option.map_none, List.getElem?_toArray, List.getElem?_cons_zero, List.getElem?_cons_succ, List.size_toArray, List.length_cons, List.length_nil, List.length_replicate, List.set_cons_zero, List.set_cons_succ, Nat.reduceAdd, Nat.reduceMul, Nat.reduceSub, Nat.reduceLeDiff, Nat.zero_add, Nat.add_zero, Nat.zero_le, true_and, and_true, not_false_eq_true, ne_eq, Int.reduceNeg, Int.reduceEq, Int.reduceNe, Int.reduceLT, Int.reduceLE, le_refl', List.setIfInBounds_toArray, Nat.reduceLT, Array.size_setIfInBounds, if_true, if_false, reduceCtorEq, List.toArray_toList', List.drop_succ_cons, List.drop_zero, List.take_succ_cons, List.take_zero, List.nil_append, List.append_nil, List.cons_append, Bool.and_true, Bool.true_and, Bool.or_false, Bool.false_or, Bool.and_false, Bool.or_true, Bool.true_or, Bool.false_and, eq_self, pLoad_cell (hs2.cell (k := 2) rfl)]
  rw [w64 (n := (n : Int) - (k : Int)) (by omega) (by omega), show (n : Int) - (k : Int) = ((n - k : Nat) : Int) by omega]
  refine pStore_sub (F := none_) (k := 2) (n := 3) hs2 rfl (by simp) rfl fun H3 s3 hs3 c3 => ?_
  exact h H3 hs3 (c2.trans c3)
theorem drop_bits {acc n k : Nat} {rest : List UInt8} (hk : k ≤ n) : bitsN (acc / 2 ^ k) (n - k) ++ toBits rest = (bitsN acc n ++ toBits rest).drop k := by
  rw [List.drop_append_of_le_length (by rw [bitsN_len]; exact hk)]
  congr 1
  conv => rhs; rw [show n = k + (n - k) by omega, bitsN_add]
  rw [List.drop_append_of_le_length (by rw [bitsN_len]; exact Nat.le_refl _), List.drop_of_length_le (by rw [bitsN_len]; exact Nat.le_refl _), List.nil_append]
theorem div_lt {acc n k : Nat} (h : acc < 2 ^ n) (hk : k ≤ n) : acc / 2 ^ k < 2 ^ (n - k) := by
  rw [Nat.div_lt_iff_lt_mul (Nat.two_pow_pos k), ← Nat.pow_add, show n - k + k = n by omega]; exact h
theorem rPeek_no {n : Int} (hr : Rd H b o B) (hno : ¬ (0 ≤ n ∧ n ≤ 32 ∧ n ≤ (B.length : Int))) (h : R (.tuple #[.int .u64 0, .bool false]) H) : CallsH Tryz.prog 43 #[at_ b o, .int .i64 n] H R := by
  refine bits_Reader_Peek.vc _ _ _ _ ?_
  unfold bits_Reader_Peek.res
  simp only [pPick_v, pNil_v, pNil_f, pAdd_v, pSub_v, pMul_v, pAdd_s, pQuo_v, pRem_v, pBits_v, pShl_v, pShr_v, pLt_v, pLe_v, pGt_v, pGe_v, pEq_0, pNe_0, pEq_1, pNe_1, pEq_2, pNe_2, pEq_3n, pNe_3n, pEq_3s, pNe_3s, pEq_3t, pNe_3t, pEq_5n, pNe_5n, pEq_5s, pNe_5s, pEq_5t, pNe_5t, pEq_4n, pNe_4n, pEq_4s, pNe_4s, pNot_v, pNeg_v, pCom_v, pConv_v, pConvS_v, pMin_v, pMax_v, pFieldAddr_v, pField1_v, pFieldN_v, pExtract_v, pIdxArr_v, pIdxSl_v, pIdxStr_v, pBounds_00, pBounds_10, pBounds_01, pBounds_11, pSlStr_v, pSlSl_v, pSlArr_v, pLenS_v, pLen_v, pCap_v, pBuild_n, pBuild_c, cells_int, cells_str, cells_bool, cells_ptr, cells_slice, cells_map, cells_agg, oneCell_int, oneCell_str, oneCell_bool, oneCell_ptr, oneCell_slice, oneCell_map, putL_cons, putL_nil, pAnd_pure, pOr_pure, pAnd_pureE, pOr_pureE, pAnd_false, pOr_true, pCond_true, pCond_false, add_mk, bys_mk, bys_size, cond_true, cond_false, decide_true, decide_false, decide_not', dec_and, dec_or, dec_eqt, Bool.not_true, Bool.not_false, Option.isNone_none, Option.isNone_some, Option.map_some, Option.map_none, List.getElem?_toArray, List.getElem?_cons_zero, List.getElem?_cons_succ, List.size_toArray, List.length_cons, List.length_nil, List.length_replicate, List.set_cons_zero, List.set_cons_succ, Nat.reduceAdd, Nat.reduceMul, Nat.reduceSub, Nat.reduceLeDiff, Nat.zero_add, Nat.add_zero, Nat.zero_le, true_and, and_true, not_false_eq_true, ne_eq, Int.reduceNeg, Int.reduceEq, Int.reduceNe, Int.reduceLT, Int.reduceLE, le_refl', List.setIfInBounds_toArray, Nat.reduceLT, Array.size_setIfInBounds, if_true, if_false, reduceCtorEq, List.toArray_toList', List.drop_succ_cons, List.drop_zero, List.take_succ_cons, List.take_zero, List.nil_append, List.append_nil, List.cons_append, Bool.and_true, Bool.true_and, Bool.or_false, Bool.false_or, Bool.and_false, Bool.or_true, Bool.true_or, Bool.false_and, eq_self]
  intros
  refine pOr_if (d := decide ((B.length : Int) < n)) (fun _ => ?_) ?_
  · refine rLeft_spec hr ?_
    simp only [pPick_v, pNil_v, pNil_f, pAdd_v, pSub_v, pMul_v, pAdd_s, pQuo_v, pRem_v, pBits_v, pShl_v, pShr_v, pLt_v, pLe_v, pGt_v, pGe_v, pEq_0, pNe_0, pEq_1, pNe_1, pEq_2, pNe_2, pEq_3n, pNe_3n, pEq_3s, pNe_3s, pEq_3t, pNe_3t, pEq_5n, pNe_5n, pEq_5s, pNe_5s, pEq_5t, pNe_5t, pEq_4n, pNe_4n, pEq_4s, pNe_4s, pNot_v, pNeg_v, pCom_v, pConv_v, pConvS_v, pMin_v, pMax_v, pFieldAddr_v, pField1_v, pFieldN_v, pExtract_v, pIdxArr_v, pIdxSl_v, pIdxStr_v, pBounds_00, pBounds_10, pBounds_01, pBounds_11, pSlStr_v, pSlSl_v, pSlArr_v, pLenS_v, pLen_v, pCap_v, pBuild_n, pBuild_c, cells_int, cells_str, cells_bool, cells_ptr, cells_slice, cells_map, cells_agg, oneCell_int, oneCell_str, oneCell_bool, oneCell_ptr, oneCell_slice, oneCell_map, putL_cons, putL_nil, pAnd_pure, pOr_pure, pAnd_pureE, pOr_pureE, pAnd_false, pOr_true, pCond_true, pCond_false, add_mk, bys_mk, bys_size, cond_true, cond_false, decide_true, decide_false, decide_not', dec_and, dec_or, dec_eqt, Bool.not_true, Bool.not_false, Option.isNone_none, Option.isNone_some, Option.map_some, Option.map_none, List.getElem?_toArray, List.getElem?_cons_zero, List.getElem?_cons_succ, List.size_toArray, List.length_cons, List.length_nil, List.length_replicate, List.set_cons_zero, List.set_cons_succ, Nat.reduceAdd, Nat.reduceMul, Nat.reduceSub, Nat.reduceLeDiff, Nat.zero_add, Nat.add_zero, Nat.zero_le, true_and, and_true, not_false_eq_true, ne_eq, Int.reduceNeg, Int.reduceEq, Int.reduceNe, Int.reduceLT, Int.reduceLE, le_refl', List.setIfInBounds_toArray, Nat.reduceLT, Array.size_setIfInBounds, if_true, if_false, reduceCtorEq, List.toArray_toList', List.drop_succ_cons, List.drop_zero, List.take_succ_cons, List.take_zero, List.nil_append, List.append_nil, List.cons_append, Bool.and_true, Bool.true_and, Bool.or_false, Bool.false_or, Bool.and_false, Bool.or_true, Bool.true_or, Bool.false_and, eq_self]
  refine fun _ => pCond_b (fun _ => h) (fun hc => ?_)
  simp only [Bool.or_eq_false_iff, decide_eq_false_iff_not] at hc
  omega
theorem rPeek_core {k : Nat} (hr : Rd H b o B) (hk : k ≤ 32) (hkB : k ≤ B.length)
    (h : ∀ H' rest acc n, Sub H' b o [str rest, u64 acc, i64 n] → B = bitsN acc n ++ toBits rest → acc < 2 ^ n → n < 40 → k ≤ n → Chg b o 3 none_ none_ H H' → R (.tuple #[u64 (numB (B.take k)), .bool true]) H') : CallsH Tryz.prog 43 #[at_ b o, i64 k] H R := by
  have hr' := hr
  obtain ⟨⟨rest, acc, n, hs, he, ha, hn⟩, hb⟩ := hr
  have hlen : B.length = n + 8 * rest.length := by rw [he, List.length_append, bitsN_len, toBits_len]
  refine bits_Reader_Peek.vc _ _ _ _ ?_
  unfold bits_Reader_Peek.res
  simp only [pPick_v, pNil_v, pNil_f, pAdd_v, pSub_v, pMul_v, pAdd_s, pQuo_v, pRem_v, pBits_v, pShl_v, pShr_v, pLt_v, pLe_v, pGt_v, pGe_v, pEq_0, pNe_0, pEq_1, pNe_1, pEq_2, pNe_2, pEq_3n, pNe_3n, pEq_3s, pNe_3s, pEq_3t, pNe_3t, pEq_5n, pNe_5n, pEq_5s, pNe_5s, pEq_5t, pNe_5t, pEq_4n, pNe_4n, pEq_4s, pNe_4s, pNot_v, pNeg_v, pCom_v, pConv_v, pConvS_v, pMin_v, pMax_v, pFieldAddr_v, pField1_v, pFieldN_v, pExtract_v, pIdxArr_v, pIdxSl_v, pIdxStr_v, pBounds_00, pBounds_10, pBounds_01, pBounds_11, pSlStr_v, pSlSl_v, pSlArr_v, pLenS_v, pLen_v, pCap_v, pBuild_n, pBuild_c, cells_int, cells_str, cells_bool, cells_ptr, cells_slice, cells_map, cells_agg, oneCell_int, oneCell_str, oneCell_bool, oneCell_ptr, oneCell_slice, oneCell_map, putL_cons, putL_nil, pAnd_pure, pOr_pure, pAnd_pureE, pOr_pureE, pAnd_false, pOr_true, pCond_true, pCond_false, add_mk, bys_mk, bys_size, cond_true, cond_false, decide_true, decide_false, decide_not', dec_and, dec_or, dec_eqt, Bool.not_true, Bool.not_false, Option.isNone_none, Option.isNone_some, Option.map_some, Option.map_none, List.getElem?_toArray, List.getElem?_cons_zero, List.getElem?_cons_succ, List.size_toArray, List.length_cons, List.length_nil, List.length_replicate, List.set_cons_zero, List.set_cons_succ, Nat.reduceAdd, Nat.reduceMul, Nat.reduceSub, Nat.reduceLeDiff, Nat.zero_add, Nat.add_zero, Nat.zero_le, true_and, and_true, not_false_eq_true, ne_eq, Int.reduceNeg, Int.reduceEq, Int.reduceNe, Int.reduceLT, Int.reduceLE, le_refl', List.setIfInBounds_toArray, Nat.reduceLT, Array.size_setIfInBounds, if_true, if_false, reduceCtorEq, List.toArray_toList', List.drop_succ_cons, List.drop_zero, List.take_succ_cons, List.take_zero, List.nil_append, List.append_nil, List.cons_append, Bool.and_true, Bool.true_and, Bool.or_false, Bool.false_or, Bool.and_false, Bool.or_true, Bool.true_or, Bool.false_and, eq_self]
  intros
  refine pOr_if (d := false) (fun _ => ?_) ?_
  · refine rLeft_spec hr' ?_
    simp only [pPick_v, pNil_v, pNil_f, pAdd_v, pSub_v, pMul_v, pAdd_s, pQuo_v, pRem_v, pBits_v, pShl_v, pShr_v, pLt_v, pLe_v, pGt_v, pGe_v, pEq_0, pNe_0, pEq_1, pNe_1, pEq_2, pNe_2, pEq_3n, pNe_3n, pEq_3s, pNe_3s, pEq_3t, pNe_3t, pEq_5n, pNe_5n, pEq_5s, pNe_5s, pEq_5t, pNe_5t, pEq_4n, pNe_4n, pEq_4s, pNe_4s, pNot_v, pNeg_v, pCom_v, pConv_v, pConvS_v, pMin_v, pMax_v, pFieldAddr_v, pField1_v, pFieldN_v, pExtract_v, pIdxArr_v, pIdxSl_v, pIdxStr_v, pBounds_00, pBounds_10, pBounds_01, pBounds_11, pSlStr_v, pSlSl_v, pSlArr_v, pLenS_v, pLen_v, pCap_v, pBuild_n, pBuild_c, cells_int, cells_str, cells_bool, cells_ptr, cells_slice, cells_map, cells_agg, oneCell_int, oneCell_str, oneCell_bool, oneCell_ptr, oneCell_slice, oneCell_map, putL_cons, putL_nil, pAnd_pure, pOr_pure, pAnd_pureE, pOr_pureE, pAnd_false, pOr_true, pCond_true, pCond_false, add_mk, bys_mk, bys_size, cond_true, cond_false, decide_true, decide_false, decide_not', dec_and, dec_or, dec_eqt, Bool.not_true, Bool.not_false, Option.isNone_none, Option.isNone_some, Option.map_some, Option.map_none, List.getElem?_toArray, List.getElem?_cons_zero, List.getElem?_cons_succ, List.size_toArray, List.length_cons, List.length_nil, List.length_replicate, List.set_cons_zero, List.set_cons_succ, Nat.reduceAdd, Nat.reduceMul, Nat.reduceSub, Nat.reduceLeDiff, Nat.zero_add, Nat.add_zero, Nat.zero_le, true_and, and_true, not_false_eq_true, ne_eq, Int.reduceNeg, Int.reduceEq, Int.reduceNe, Int.reduceLT, Int.reduceLE, le_refl', List.setIfInBounds_toArray, Nat.reduceLT, Array.size_setIfInBounds, if_true, if_false, reduceCtorEq, List.toArray_toList', List.drop_succ_cons, List.drop_zero, List.take_succ_cons, List.take_zero, List.nil_append, List.append_nil, List.cons_append, Bool.and_true, Bool.true_and, Bool.or_false, Bool.false_or, Bool.and_false, Bool.or_true, Bool.true_or, Bool.false_and, eq_self]
    rw [decide_eq_false (by omega)]
  rw [decide_eq_false (by omega)]
  refine fun _ => ?_
  simp only [Bool.or_false, pCond_false]
  refine rfill_spec hk hs ha hn (by omega) (by omega) fun H1 rest' acc' n' hs1 he1 ha1 hn1 hk1 c1 => ?_
  simp only [pPick_v, pNil_v, pNil_f, pAdd_v, pSub_v, pMul_v, pAdd_s, pQuo_v, pRem_v, pBits_v, pShl_v, pShr_v, pLt_v, pLe_v, pGt_v, pGe_v, pEq_0, pNe_0, pEq_1, pNe_1, pEq_2, pNe_2, pEq_3n, pNe_3n, pEq_3s, pNe_3s, pEq_3t, pNe_3t, pEq_5n, pNe_5n, pEq_5s, pNe_5s, pEq_5t, pNe_5t, pEq_4n, pNe_4n, pEq_4s, pNe_4s, pNot_v, pNeg_v, pCom_v, pConv_v, pConvS_v, pMin_v, pMax_v, pFieldAddr_v, pField1_v, pFieldN_v, pExtract_v, pIdxArr_v, pIdxSl_v, pIdxStr_v, pBounds_00, pBounds_10, pBounds_01, pBounds_11, pSlStr_v, pSlSl_v, pSlArr_v, pLenS_v, pLen_v, pCap_v, pBuild_n, pBuild_c, cells_int, cells_str, cells_bool, cells_ptr, cells_slice, cells_map, cells_agg, oneCell_int, oneCell_str, oneCell_bool, oneCell_ptr, oneCell_slice, oneCell_map, putL_cons, putL_nil, pAnd_pure, pOr_pure, pAnd_pureE, pOr_pureE, pAnd_false, pOr_true, pCond_true, pCond_false, add_mk, bys_mk, bys_size, cond_true, cond_false, decide_true, decide_false, decide_not', dec_and, dec_or, dec_eqt, Bool.not_true, Bool.not_false, Option.isNone_none, Option.isNone_some, Option.map_some, Option.map_none, List.getElem?_toArray, List.getElem?_cons_zero, List.getElem?_cons_succ, List.size_toArray, List.length_cons, List.length_nil, List.length_replicate, List.set_cons_zero, List.set_cons_succ, Nat.reduceAdd, Nat.reduceMul, Nat.reduceSub, Nat.reduceLeDiff, Nat.zero_add, Nat.add_zero, Nat.zero_le, true_and, and_true, not_false_eq_true, ne_eq, Int.reduceNeg, Int.reduceEq, Int.reduceNe, Int.reduceLT, Int.reduceLE, le_refl', List.setIfInBounds_toArray, Nat.reduceLT, Array.size_setIfInBounds, if_true, if_false, reduceCtorEq, List.toArray_toList', List.drop_succ_cons, List.drop_zero, List.take_succ_cons, List.take_zero, List.nil_append, List.append_nil, List.cons_append, Bool.and_true, Bool.true_and, Bool.or_false, Bool.false_or, Bool.and_false, Bool.or_true, Bool.true_or, Bool.false_and, eq_self, pLoad_cell (hs1.cell (k := 1) rfl)]
  refine ⟨by omega, ?_⟩
  have hpw : (2 : Nat) ^ n' ≤ 2 ^ 39 := Nat.pow_le_pow_right (by decide) (by omega)
  rw [mask_u64 (by omega) hk]
  have hv : acc' % 2 ^ k = numB (B.take k) := by
    rw [he, ← he1, List.take_append_of_le_length (by rw [bitsN_len]; exact hk1)]
    have : (bitsN acc' n').take k = bitsN acc' k := by
      conv => lhs; rw [show n' = k + (n' - k) by omega, bitsN_add]
      rw [List.take_append_of_le_length (by rw [bitsN_len]; exact Nat.le_refl _), List.take_of_length_le (by rw [bitsN_len]; exact Nat.le_refl _)]
    rw [this, numB_bitsN]
  rw [hv]
  exact h H1 rest' acc' n' hs1 (by rw [he, he1]) ha1 hn1 hk1 c1
theorem rPeek_spec {k : Nat} (hr : Rd H b o B) (hk : k ≤ 32) (hkB : k ≤ B.length) (h : ∀ H', Rd H' b o B → Chg b o 3 none_ none_ H H' → R (.tuple #[u64 (numB (B.take k)), .bool true]) H') : CallsH Tryz.prog 43 #[at_ b o, i64 k] H R :=
  rPeek_core hr hk hkB fun H' rest acc n hs he ha hn hk1 c => h H' ⟨⟨rest, acc, n, hs, he, ha, hn⟩, hr.big⟩ c
theorem rRead_no {n : Int} (hr : Rd H b o B) (hno : ¬ (0 ≤ n ∧ n ≤ 32 ∧ n ≤ (B.length : Int))) (h : R (.tuple #[.int .u64 0, .bool false]) H) : CallsH Tryz.prog 45 #[at_ b o, .int .i64 n] H R := by
  refine bits_Reader_Read.vc _ _ _ _ ?_
  unfold bits_Reader_Read.res
  refine rPeek_no hr hno ?_
  simp only [pPick_v, pNil_v, pNil_f, pAdd_v, pSub_v, pMul_v, pAdd_s, pQuo_v, pRem_v, pBits_v, pShl_v, pShr_v, pLt_v, pLe_v, pGt_v, pGe_v, pEq_0, pNe_0, pEq_1, pNe_1, pEq_2, pNe_2, pEq_3n, pNe_3n, pEq_3s, pNe_3s, pEq_3t, pNe_3t, pEq_5n, pNe_5n, pEq_5s, pNe_5s, pEq_5t, pNe_5t, pEq_4n, pNe_4n, pEq_4s, pNe_4s, pNot_v, pNeg_v, pCom_v, pConv_v, pConvS_v, pMin_v, pMax_v, pFieldAddr_v, pField1_v, pFieldN_v, pExtract_v, pIdxArr_v, pIdxSl_v, pIdxStr_v, pBounds_00, pBounds_10, pBounds_01, pBounds_11, pSlStr_v, pSlSl_v, pSlArr_v, pLenS_v, pLen_v, pCap_v, pBuild_n, pBuild_c, cells_int, cells_str, cells_bool, cells_ptr, cells_slice, cells_map, cells_agg, oneCell_int, oneCell_str, oneCell_bool, oneCell_ptr, oneCell_slice, oneCell_map, putL_cons, putL_nil, pAnd_pure, pOr_pure, pAnd_pureE, pOr_pureE, pAnd_false, pOr_true, pCond_true, pCond_false, add_mk, bys_mk, bys_size, cond_true, cond_false, decide_true, decide_false, decide_not', dec_and, dec_or, dec_eqt, Bool.not_true, Bool.not_false, Option.isNone_none, Option.isNone_some, Option.map_some, Option.map_none, List.getElem?_toArray, List.getElem?_cons_zero, List.getElem?_cons_succ, List.size_toArray, List.length_cons, List.length_nil, List.length_replicate, List.set_cons_zero, List.set_cons_succ, Nat.reduceAdd, Nat.reduceMul, Nat.reduceSub, Nat.reduceLeDiff, Nat.zero_add, Nat.add_zero, Nat.zero_le, true_and, and_true, not_false_eq_true, ne_eq, Int.reduceNeg, Int.reduceEq, Int.reduceNe, Int.reduceLT, Int.reduceLE, le_refl', List.setIfInBounds_toArray, Nat.reduceLT, Array.size_setIfInBounds, if_true, if_false, reduceCtorEq, List.toArray_toList', List.drop_succ_cons, List.drop_zero, List.take_succ_cons, List.take_zero, List.nil_append, List.append_nil, List.cons_append, Bool.and_true, Bool.true_and, Bool.or_false, Bool.false_or, Bool.and_false, Bool.or_true, Bool.true_or, Bool.false_and, eq_self]
  exact ⟨fun H' => H = H', fun _ H' e => e ▸ h, rfl⟩
theorem rRead_spec {k : Nat} (hr : Rd H b o B) (hk : k ≤ 32) (hkB : k ≤ B.length) (h : ∀ H', Rd H' b o (B.drop k) → Chg b o 3 none_ none_ H H' → R (.tuple #[u64 (numB (B.take k)), .bool true]) H') : CallsH Tryz.prog 45 #[at_ b o, i64 k] H R := by
  have hb := hr.big
  refine bits_Reader_Read.vc _ _ _ _ ?_
  unfold bits_Reader_Read.res
  refine rPeek_core hr hk hkB fun H1 rest acc n hs he ha hn hk1 c1 => ?_
  simp only [pPick_v, pNil_v, pNil_f, pAdd_v, pSub_v, pMul_v, pAdd_s, pQuo_v, pRem_v, pBits_v, pShl_v, pShr_v, pLt_v, pLe_v, pGt_v, pGe_v, pEq_0, pNe_0, pEq_1, pNe_1, pEq_2, pNe_2, pEq_3n, pNe_3n, pEq_3s, pNe_3s, pEq_3t, pNe_3t, pEq_5n, pNe_5n, pEq_5s, pNe_5s, pEq_5t, pNe_5t, pEq_4n, pNe_4n, pEq_4s, pNe_4s, pNot_v, pNeg_v, pCom_v, pConv_v, pConvS_v, pMin_v, pMax_v, pFieldAddr_v, pField1_v, pFieldN_v, pExtract_v, pIdxArr_v, pIdxSl_v, pIdxStr_v, pBounds_00, pBounds_10, pBounds_01, pBounds_11, pSlStr_v, pSlSl_v, pSlArr_v, pLenS_v, pLen_v, pCap_v, pBuild_n, pBuild_c, cells_int, cells_str, cells_bool, cells_ptr, cells_slice, cells_map, cells_agg, oneCell_int, oneCell_str, oneCell_bool, oneCell_ptr, oneCell_slice, oneCell_map, putL_cons, putL_nil, pAnd_pure, pOr_pure, pAnd_pureE, pOr_pureE, pAnd_false, pOr_true, pCond_true, pCond_false, add_mk, bys_mk, bys_size, cond_true, cond_false, decide_true, decide_false, decide_not', dec_and, dec_or, dec_eqt, Bool.not_true, Bool.not_false, Option.isNone_none, Option.isNone_some, Option.map_some, Option.map_none, List.getElem?_toArray, List.getElem?_cons_zero, List.getElem?_cons_succ, List.size_toArray, List.length_cons, List.length_nil, List.length_replicate, List.set_cons_zero, List.set_cons_succ, Nat.reduceAdd, Nat.reduceMul, Nat.reduceSub, Nat.reduceLeDiff, Nat.zero_add, Nat.add_zero, Nat.zero_le, true_and, and_true, not_false_eq_true, ne_eq, Int.reduceNeg, Int.reduceEq, Int.reduceNe, Int.reduceLT, Int.reduceLE, le_refl', List.setIfInBounds_toArray, Nat.reduceLT, Array.size_setIfInBounds, if_true, if_false, reduceCtorEq, List.toArray_toList', List.drop_succ_cons, List.drop_zero, List.take_succ_cons, List.take_zero, List.nil_append, List.append_nil, List.cons_append, Bool.and_true, Bool.true_and, Bool.or_false, Bool.false_or, Bool.and_false, Bool.or_true, Bool.true_or, Bool.false_and, eq_self]
  refine ⟨fun H' => Rd H' b o (B.drop k) ∧ Chg b o 3 none_ none_ H H', fun _ H' e => h H' e.1 e.2, ?_⟩
  refine rdrop_spec hs hk1 hn fun H2 hs2 c2 => ⟨⟨⟨rest, acc / 2 ^ k, n - k, hs2, by rw [he, drop_bits hk1], div_lt ha hk1, by omega⟩, by rw [List.length_drop]; omega⟩, c1.trans c2⟩
theorem rAlign_core (hr : Rd H b o B) (h : ∀ H' rest acc n, Sub H' b o [str rest, u64 acc, i64 n] → B.drop (B.length % 8) = bitsN acc n ++ toBits rest → acc < 2 ^ n → n < 40 → n % 8 = 0 → Chg b o 3 none_ none_ H H' → R (.tuple #[]) H') : CallsH Tryz.prog 99 #[at_ b o] H R := by
  obtain ⟨⟨rest, acc, n, hs, he, ha, hn⟩, hb⟩ := hr
  have hlen : B.length = n + 8 * rest.length := by rw [he, List.length_append, bitsN_len, toBits_len]
  refine bits_Reader_Align.vc _ _ _ ?_
  unfold bits_Reader_Align.res
  simp only [pPick_v, pNil_v, pNil_f, pAdd_v, pSub_v, pMul_v, pAdd_s, pQuo_v, pRem_v, pBits_v, pShl_v, pShr_v, pLt_v, pLe_v, pGt_v, pGe_v, pEq_0, pNe_0, pEq_1, pNe_1, pEq_2, pNe_2, pEq_3n, pNe_3n, pEq_3s, pNe_3s, pEq_3t, pNe_3t, pEq_5n, pNe_5n, pEq_5s, pNe_5s, pEq_5t, pNe_5t, pEq_4n, pNe_4n, pEq_4s, pNe_4s, pNot_v, pNeg_v, pCom_v, pConv_v, pConvS_v, pMin_v, pMax_v, pFieldAddr_v, pField1_v, pFieldN_v, pExtract_v, pIdxArr_v, pIdxSl_v, pIdxStr_v, pBounds_00, pBounds_10, pBounds_01, pBounds_11, pSlStr_v, pSlSl_v, pSlArr_v, pLenS_v, pLen_v, pCap_v, pBuild_n, pBuild_c, cells_int, cells_str, cells_bool, cells_ptr, cells_slice, cells_map, cells_agg, oneCell_int, oneCell_str, oneCell_bool, oneCell_ptr, oneCell_slice, oneCell_map, putL_cons, putL_nil, pAnd_pure, pOr_pure, pAnd_pureE, pOr_pureE, pAnd_false, pOr_true, pCond_true, pCond_false, add_mk, bys_mk, bys_size, cond_true, cond_false, decide_true, decide_false, decide_not', dec_and, dec_or, dec_eqt, Bool.not_true, Bool.not_false, Option.isNone_none, Option.isNone_some, Option.map_some, Option.map_none, List.getElem?_toArray, List.getElem?_cons_zero, List.getElem?_cons_succ, List.size_toArray, List.length_cons, List.length_nil, List.length_replicate, List.set_cons_zero, List.set_cons_succ, Nat.reduceAdd, Nat.reduceMul, Nat.reduceSub, Nat.reduceLeDiff, Nat.zero_add, Nat.add_zero, Nat.zero_le, true_and, and_true, not_false_eq_true, ne_eq, Int.reduceNeg, Int.reduceEq, Int.reduceNe, Int.reduceLT, Int.reduceLE, le_refl', List.setIfInBounds_toArray, Nat.reduceLT, Array.size_setIfInBounds, if_true, if_false, reduceCtorEq, List.toArray_toList', List.drop_succ_cons, List.drop_zero, List.take_succ_cons, List.take_zero, List.nil_append, List.append_nil, List.cons_append, Bool.and_true, Bool.true_and, Bool.or_false, Bool.false_or, Bool.and_false, Bool.or_true, Bool.true_or, Bool.false_and, eq_self, pLoad_cell (hs.cell (k := 2) rfl)]
  rw [Int.tmod_eq_emod_of_nonneg (by omega), show (n : Int) % 8 = ((n % 8 : Nat) : Int) by omega]
  refine rdrop_spec hs (by omega) hn fun H2 hs2 c2 => ?_
  refine h H2 rest _ _ hs2 ?_ (div_lt ha (by omega)) (by omega) (by omega) c2
  rw [drop_bits (by omega), ← he, show B.length % 8 = n % 8 by omega]
theorem rAlign_spec (hr : Rd H b o B) (h : ∀ H', Rd H' b o (B.drop (B.length % 8)) → Chg b o 3 none_ none_ H H' → R (.tuple #[]) H') : CallsH Tryz.prog 99 #[at_ b o] H R :=
  rAlign_core hr fun H' rest acc n hs he ha hn h8 c => h H' ⟨⟨rest, acc, n, hs, he, ha, hn⟩, by have := hr.big; rw [List.length_drop]; omega⟩ c
theorem rTake_spec {n : Int} (hn1 : n ≤ 9223372036854775807) (hr : Rd H b o B)
    (h : ∀ H' (k : Nat), k = min n.toNat ((B.length - B.length % 8) / 8) → Rd H' b o ((B.drop (B.length % 8)).drop (8 * k)) → Chg b o 3 none_ none_ H H' → R (str (toBytes ((B.drop (B.length % 8)).take (8 * k)))) H') : CallsH Tryz.prog 75 #[at_ b o, .int .i64 n] H R := by
  have hb := hr.big
  have hbH := hr.lt
  refine bits_Reader_Take.vc _ _ _ _ ?_
  unfold bits_Reader_Take.res
  simp only [pPick_v, pNil_v, pNil_f, pAdd_v, pSub_v, pMul_v, pAdd_s, pQuo_v, pRem_v, pBits_v, pShl_v, pShr_v, pLt_v, pLe_v, pGt_v, pGe_v, pEq_0, pNe_0, pEq_1, pNe_1, pEq_2, pNe_2, pEq_3n, pNe_3n, pEq_3s, pNe_3s, pEq_3t, pNe_3t, pEq_5n, pNe_5n, pEq_5s, pNe_5s, pEq_5t, pNe_5t, pEq_4n, pNe_4n, pEq_4s, pNe_4s, pNot_v, pNeg_v, pCom_v, pConv_v, pConvS_v, pMin_v, pMax_v, pFieldAddr_v, pField1_v, pFieldN_v, pExtract_v, pIdxArr_v, pIdxSl_v, pIdxStr_v, pBounds_00, pBounds_10, pBounds_01, pBounds_11, pSlStr_v, pSlSl_v, pSlArr_v, pLenS_v, pLen_v, pCap_v, pBuild_n, pBuild_c, cells_int, cells_str, cells_bool, cells_ptr, cells_slice, cells_map, cells_agg, oneCell_int, oneCell_str, oneCell_bool, oneCell_ptr, oneCell_slice, oneCell_map, putL_cons, putL_nil, pAnd_pure, pOr_pure, pAnd_pureE, pOr_pureE, pAnd_false, pOr_true, pCond_true, pCond_false, add_mk, bys_mk, bys_size, cond_true, cond_false, decide_true, decide_false, decide_not', dec_and, dec_or, dec_eqt, Bool.not_true, Bool.not_false, Option.isNone_none, Option.isNone_some, Option.map_some, Option.map_none, List.getElem?_toArray, List.getElem?_cons_zero, List.getElem?_cons_succ, List.size_toArray, List.length_cons, List.length_nil, List.length_replicate, List.set_cons_zero, List.set_cons_succ, Nat.reduceAdd, Nat.reduceMul, Nat.reduceSub, Nat.reduceLeDiff, Nat.zero_add, Nat.add_zero, Nat.zero_le, true_and, and_true, not_false_eq_true, ne_eq, Int.reduceNeg, Int.reduceEq, Int.reduceNe, Int.reduceLT, Int.reduceLE, le_refl', List.setIfInBounds_toArray, Nat.reduceLT, Array.size_setIfInBounds, if_true, if_false, reduceCtorEq, List.toArray_toList', List.drop_succ_cons, List.drop_zero, List.take_succ_cons, List.take_zero, List.nil_append, List.append_nil, List.cons_append, Bool.and_true, Bool.true_and, Bool.or_false, Bool.false_or, Bool.and_false, Bool.or_true, Bool.true_or, Bool.false_and, eq_self]
  refine rAlign_core hr fun H1 rest acc m hs he ha hm h8 c1 => ?_
  generalize hC : B.drop (B.length % 8) = C at *
  have hClen : C.length = B.length - B.length % 8 := by rw [← hC, List.length_drop]
  rw [← hClen] at h
  have hClen2 : C.length = m + 8 * rest.length := by rw [he, List.length_append, bitsN_len, toBits_len]
  refine pCond_if (fun hc => ?_) (fun hc => ?_)
  · have h := h H1 0 (by omega) ⟨⟨rest, acc, m, hs, by simpa using he, ha, hm⟩, by simp; omega⟩ c1
    simpa [toBytes] using h
  refine ⟨fun n1 v H' => ∃ (j acc' m' : Nat) (D : List UInt8), n1 = .int .i64 (n - j) ∧ (j : Int) ≤ n ∧ Sub H' b o [str rest, u64 acc', i64 m'] ∧ acc' < 2 ^ m' ∧ m' < 40 ∧ m' % 8 = 0 ∧ D.length = j ∧ toBits D ++ (bitsN acc' m' ++ toBits rest) = C ∧ Own H' v 1 (D.map byteV) ∧ (∀ k, blkOf v = some k → H.size ≤ k) ∧ Chg b o 3 none_ none_ H H',
    fun n1 _ _ => match n1 with | .int _ x => x.toNat | _ => 0, ⟨0, acc, m, [], by simp, by omega, hs, ha, hm, h8, rfl, by rw [he]; rfl, .inl ⟨rfl, rfl⟩, by simp [blkOf], c1⟩, ?_⟩
  rintro _ _ v H2 ⟨j, acc', m', D, rfl, hj, hs2, ha2, hm2, h82, hDl, hDC, o2, k2, c2⟩
  have hDlen : 8 * j + m' = m := by
    have := congrArg List.length hDC
    rw [List.length_append, List.length_append, bitsN_len, toBits_len, toBits_len, hClen2, hDl] at this
    omega
  simp only [pPick_v, pNil_v, pNil_f, pAdd_v, pSub_v, pMul_v, pAdd_s, pQuo_v, pRem_v, pBits_v, pShl_v, pShr_v, pLt_v, pLe_v, pGt_v, pGe_v, pEq_0, pNe_0, pEq_1, pNe_1, pEq_2, pNe_2, pEq_3n, pNe_3n, pEq_3s, pNe_3s, pEq_3t, pNe_3t, pEq_5n, pNe_5n, pEq_5s, pNe_5s, pEq_5t, pNe_5t, pEq_4n, pNe_4n, pEq_4s, pNe_4s, pNot_v, pNeg_v, pCom_v, pConv_v, pConvS_v, pMin_v, pMax_v, pFieldAddr_v, pField1_v, pFieldN_v, pExtract_v, pIdxArr_v, pIdxSl_v, pIdxStr_v, pBounds_00, pBounds_10, pBounds_01, pBounds_11, pSlStr_v, pSlSl_v, pSlArr_v, pLenS_v, pLen_v, pCap_v, pBuild_n, pBuild_c, cells_int, cells_str, cells_bool, cells_ptr, cells_slice, cells_map, cells_agg, oneCell_int, oneCell_str, oneCell_bool, oneCell_ptr, oneCell_slice, oneCell_map, putL_cons, putL_nil, pAnd_pure, pOr_pure, pAnd_pureE, pOr_pureE, pAnd_false, pOr_true, pCond_true, pCond_false, add_mk, bys_mk, bys_size, cond_true, cond_false, decide_true, decide_false, decide_not', dec_and, dec_or, dec_eqt, Bool.not_true, Bool.not_false, Option.isNone_none, Option.isNone_some, Option.map_some, Option.map_none, List.getElem?_toArray, List.getElem?_cons_zero, List.getElem?_cons_succ, List.size_toArray, List.length_cons, List.length_nil, List.length_replicate, List.set_cons_zero, List.set_cons_succ, Nat.reduceAdd, Nat.reduceMul, Nat.reduceSub, Nat.reduceLeDiff, Nat.zero_add, Nat.add_zero, Nat.zero_le, true_and, and_true, not_false_eq_true, ne_eq, Int.reduceNeg, Int.reduceEq, Int.reduceNe, Int.reduceLT, Int.reduceLE, le_refl', List.setIfInBounds_toArray, Nat.reduceLT, Array.size_setIfInBounds, if_true, if_false, reduceCtorEq, List.toArray_toList', List.drop_succ_cons, List.drop_zero, List.take_succ_cons, List.take_zero, List.nil_append, List.append_nil, List.cons_append, Bool.and_true, Bool.true_and, Bool.or_false, Bool.false_or, Bool.and_false, Bool.or_true, Bool.true_or, Bool.false_and, eq_self, pLoad_cell (hs2.cell0 rfl), pLoad_cell (hs2.cell (k := 1) rfl), pLoad_cell (hs2.cell (k := 2) rfl)]
  refine fun _ => pCond_if (fun hc2 => ?_) (fun hc2 => ?_)
  · rw [byte_low]
    refine o2.append1 (n := j) (by decide) rfl rfl rfl (by simp [hDl]) (by omega) fun v2 H3 o3 i3 s3 k3 => ?_
    have hv2b : blkOf v ≠ some b := fun e => by have := k2 b e; omega
    have hs3 : Sub H3 b o [str rest, u64 acc', i64 m'] := hs2.same (i3 b hs2.lt hv2b)
    have c3 : Chg b o 3 none_ none_ H H3 := ⟨by have := c2.size; omega, fun i hi hib _ => by
        rw [i3 i (by have := c2.size; omega) (fun e => by have := k2 i e; omega)]; exact c2.ne i hi hib (fun h => h), fun cs t fr hc => by
        obtain ⟨c', g1, g2⟩ := c2.blk cs t fr hc
        exact ⟨c', by rw [i3 b hs2.lt hv2b]; exact g1, g2⟩, fun k hk => hk.elim⟩
    refine rdrop_spec (k := 8) hs3 (by omega) hm2 fun H4 hs4 c4 => ?_
    rw [w64 (n := n - (j : Int) - 1) (by omega) (by omega)]
    refine ⟨⟨j + 1, acc' / 2 ^ 8, m' - 8, D ++ [UInt8.ofNat (acc' % 256)], by congr 1; omega, by omega, hs4, div_lt ha2 (by omega), by omega, by omega, by simp [hDl], ?_, ?_, fun k hk => ?_, c3.trans c4⟩, by show (_ : Int).toNat < (_ : Int).toNat; omega⟩
    · rw [← hDC, toBits_append, List.append_assoc, byte_low_bits (n := m') (by omega), List.append_assoc]
    · rw [List.map_append]
      have hv2 : blkOf v2 ≠ some b := fun e => by
        rcases k3 b e with h' | h'
        · exact hv2b h'
        · have := hs2.lt; omega
      exact c4.own o3 hv2 (fun k hk h => h)
    · rcases k3 k hk with h' | h'
      · exact k2 k h'
      · have := c2.size; omega
  · have hst : (o2.sl (by decide)).str (K := fun z => True) trivial = (o2.sl (by decide)).str (K := fun z => True) trivial := rfl
    refine Sl.str (o2.sl (by decide)) ?_
    simp only [pPick_v, pNil_v, pNil_f, pAdd_v, pSub_v, pMul_v, pAdd_s, pQuo_v, pRem_v, pBits_v, pShl_v, pShr_v, pLt_v, pLe_v, pGt_v, pGe_v, pEq_0, pNe_0, pEq_1, pNe_1, pEq_2, pNe_2, pEq_3n, pNe_3n, pEq_3s, pNe_3s, pEq_3t, pNe_3t, pEq_5n, pNe_5n, pEq_5s, pNe_5s, pEq_5t, pNe_5t, pEq_4n, pNe_4n, pEq_4s, pNe_4s, pNot_v, pNeg_v, pCom_v, pConv_v, pConvS_v, pMin_v, pMax_v, pFieldAddr_v, pField1_v, pFieldN_v, pExtract_v, pIdxArr_v, pIdxSl_v, pIdxStr_v, pBounds_00, pBounds_10, pBounds_01, pBounds_11, pSlStr_v, pSlSl_v, pSlArr_v, pLenS_v, pLen_v, pCap_v, pBuild_n, pBuild_c, cells_int, cells_str, cells_bool, cells_ptr, cells_slice, cells_map, cells_agg, oneCell_int, oneCell_str, oneCell_bool, oneCell_ptr, oneCell_slice, oneCell_map, putL_cons, putL_nil, pAnd_pure, pOr_pure, pAnd_pureE, pOr_pureE, pAnd_false, pOr_true, pCond_true, pCond_false, add_mk, bys_mk, bys_size, cond_true, cond_false, decide_true, decide_false, decide_not', dec_and, dec_or, dec_eqt, Bool.not_true, Bool.not_false, Option.isNone_none, Option.isNone_some, Option.map_some, Option.map_none, List.getElem?_toArray, List.getElem?_cons_zero, List.getElem?_cons_succ, List.size_toArray, List.length_cons, List.length_nil, List.length_replicate, List.set_cons_zero, List.set_cons_succ, Nat.reduceAdd, Nat.reduceMul, Nat.reduceSub, Nat.reduceLeDiff, Nat.zero_add, Nat.add_zero, Nat.zero_le, true_and, and_true, not_false_eq_true, ne_eq, Int.reduceNeg, Int.reduceEq, Int.reduceNe, Int.reduceLT, Int.reduceLE, le_refl', List.setIfInBounds_toArray, Nat.reduceLT, Array.size_setIfInBounds, if_true, if_false, reduceCtorEq, List.toArray_toList', List.drop_succ_cons, List.drop_zero, List.take_succ_cons, List.take_zero, List.nil_append, List.append_nil, List.cons_append, Bool.and_true, Bool.true_and, Bool.or_false, Bool.false_or, Bool.and_false, Bool.or_true, Bool.true_or, Bool.false_and, eq_self, pLoad_cell (hs2.cell0 rfl)]
    have hr0 : rest.length ≤ 9223372036854775807 := by omega
    have hmin : 0 ≤ min (n - (j : Int)) (rest.length : Int) := by omega
    refine ⟨by omega, by omega, by rw [List.length_take]; omega, by omega, by omega, ?_⟩
    refine pStore_sub0 (F := none_) (n := 3) hs2 rfl (by simp) rfl fun H3 s3 hs3 c3 => ?_
    generalize hq : (min (n - (j : Int)) (rest.length : Int)).toNat = q at *
    have hcase : j + q = min n.toNat (C.length / 8) := by
      by_cases hm0 : m' = 0
      · subst hm0; omega
      · have : (j : Int) = n := by
          rcases Int.lt_or_eq_of_le hj with h' | h'
          · exact absurd ⟨by omega, by omega⟩ hc2
          · exact h'
        omega
    have hm00 : q ≠ 0 → m' = 0 := fun h0 => by
      rcases Nat.eq_zero_or_pos m' with h' | h'
      · exact h'
      · exact absurd ⟨by omega, by omega⟩ hc2
    have hql : q ≤ rest.length := by omega
    have hsplit : C = toBits (D ++ rest.take q) ++ (bitsN acc' m' ++ toBits (rest.drop q)) := by
      rw [← hDC, toBits_append, List.append_assoc]
      congr 1
      by_cases h0 : q = 0
      · subst h0; simp [toBits]
      · have hm0 := hm00 h0
        subst hm0
        rw [bitsN_zero, List.nil_append, List.nil_append, ← toBits_append, List.take_append_drop]
    have h := h H3 (j + q) hcase ⟨⟨rest.drop q, acc', m', ?_, ?_, ha2, hm2⟩, by rw [List.length_drop]; omega⟩ (c2.trans c3)
    · have hrest : rest = rest := rfl
      have e1 : toBytes (C.take (8 * (j + q))) = D ++ rest.take q := by
        have hl : (toBits (D ++ rest.take q)).length = 8 * (j + q) := by rw [toBits_len, List.length_append, List.length_take, hDl]; omega
        rw [hsplit, ← hl, List.take_append_of_le_length (Nat.le_refl _), List.take_length, toBytes_toBits']
      rw [e1] at h
      simpa using h
    · have e2 : List.take (rest.length - q) (List.drop q rest) = rest.drop q := by rw [List.take_of_length_le (by rw [List.length_drop]; omega)]
      rw [e2] at hs3
      exact hs3
    · have hl : (toBits (D ++ rest.take q)).length = 8 * (j + q) := by rw [toBits_len, List.length_append, List.length_take, hDl]; omega
      conv => lhs; rw [hsplit]
      rw [← hl, List.drop_append_of_le_length (Nat.le_refl _), List.drop_of_length_le (Nat.le_refl _), List.nil_append]
end Go.Proofs.YtameljhbkedhjaaGreatDoor
namespace Go.Proofs.YtameljhbkedhjaaGreatDoor
open Go Go.Vc Go.Proofs
set_option linter.unusedVariables false
set_option linter.unusedSimpArgs false
variable {H H0 : Heap} {R : Value → Heap → Prop} {v : Value} {zs : List Int} {ls : List Nat} {B : List Bool} {L : List It} {b : Nat} {post : List Value} {t : TypeId}
def rdP (b : Nat) (post : List Value) (t : TypeId) (B : List Bool) : Thing where
  foot k := k = b
  holds H := ∃ (rest : List UInt8) (acc n : Nat), H[b]? = some (.cells (str rest :: u64 acc :: i64 n :: post).toArray t (0, 0)) ∧ B = bitsN acc n ++ toBits rest ∧ acc < 2 ^ n ∧ n < 40 ∧ B.length ≤ 1152921504606846976
  frame := fun h hf => by
    obtain ⟨rest, acc, n, h1, h2⟩ := h
    exact ⟨rest, acc, n, (hf b rfl).trans h1, h2⟩
  lt := fun h hf => by subst hf; obtain ⟨rest, acc, n, h1, h2⟩ := h; exact lt_of_blk h1
abbrev rdI (b : Nat) (post : List Value) (t : TypeId) (B : List Bool) : It := .thing (rdP b post t B)
theorem rdP_rd (o : Owns H0 H L) (hin : rdI b post t B ∈ L) : Rd H b 0 B := by
  obtain ⟨rest, acc, n, h1, h2, h3, h4, h5⟩ := o.thing hin
  refine ⟨⟨rest, acc, n, ?_, h2, h3, h4⟩, h5⟩
  exact (Sub.all h1).part (x := []) (y := [str rest, u64 acc, i64 n]) (z := post)
theorem _root_.Go.Vc.Owns.rd {H' : Heap} {B' : List Bool} {L' : List It} (o : Owns H0 H L) (w : Rd H' b 0 B') (c : Chg b 0 3 none_ none_ H H') (hr : Rep (rdI b post t B) (rdI b post t B') L L') : Owns H0 H' L' := by
  obtain ⟨rest, acc, n, h1, -⟩ := o.thing hr.mem
  refine o.turn hr c.size (fun k hk hf => c.ne k hk hf (fun h => h)) ?_ (fun k hk => .inl hk)
  obtain ⟨⟨rest', acc', n', hs, h2, h3, h4⟩, h5⟩ := w
  refine ⟨rest', acc', n', ?_, h2, h3, h4, h5⟩
  obtain ⟨cs, g1, g2, g3⟩ := c.blk _ _ _ h1
  obtain ⟨p, q, t', k1, k2⟩ := hs
  have hp : p = [] := by simpa using k1
  subst hp
  rw [g1] at k2
  simp only [Option.some.injEq, Obj.cells.injEq, List.nil_append] at k2
  obtain ⟨k2, k3, -⟩ := k2
  have k2 := arr_inj k2
  subst k3
  rw [g1, k2]
  have hq : q = post := by
    apply List.ext_getElem?
    intro j
    have := g3 (3 + j) (.inr (by omega))
    rw [k2, List.getElem?_append_right (by simp)] at this
    simp only [List.length_cons, List.length_nil, Nat.zero_add, Nat.reduceAdd, Nat.add_sub_cancel_left] at this
    rw [this, show 3 + j = j + 1 + 1 + 1 by omega]
    simp only [List.getElem?_cons_succ]
  rw [hq]; rfl
theorem _root_.Go.Vc.Owns.pl {K : Value → Prop} {g : Nat} {w : Value} (o : Owns H0 H L) (hin : rdI b post t B ∈ L) (h3 : 3 ≤ g) (hw : post[g - 3]? = some w) (hk : K w) : pLoad H (.pointer (some ⟨b, g, none⟩)) K := by
  obtain ⟨rest, acc, n, h1, -⟩ := o.thing hin
  refine pLoad_l h1 ?_ hk
  obtain ⟨j, rfl⟩ : ∃ j, g = j + 1 + 1 + 1 := ⟨g - 3, by omega⟩
  simp only [List.getElem?_cons_succ]
  simpa using hw
theorem _root_.Go.Vc.Owns.ps {K : Value → Heap → Prop} {g : Nat} {x : Value} {L' : List It} (o : Owns H0 H L) (hr : Rep (rdI b post t B) (rdI b (post.set (g - 3) x) t B) L L') (h3 : 3 ≤ g) (hg : g - 3 < post.length) (hx : oneCell x = true) (hk : ∀ H', Owns H0 H' L' → H'.size = H.size → K undef H') : pStore H (.pointer (some ⟨b, g, none⟩)) x K := by
  obtain ⟨rest, acc, n, h1, h2⟩ := o.thing hr.mem
  refine pStore_upd h1 (by simp; omega) hx fun H' hs u => hk H' (o.turn hr u.size (fun k hk hne => u.ne k hk (fun e => hne e)) ?_ (fun k hk => .inl hk)) hs
  refine ⟨rest, acc, n, ?_, h2⟩
  rw [u.at_, List.setIfInBounds_toArray]
  obtain ⟨j, rfl⟩ : ∃ j, g = j + 1 + 1 + 1 := ⟨g - 3, by omega⟩
  simp only [List.set_cons_succ, Nat.add_sub_cancel]
  simp
theorem _root_.Go.Vc.Owns.p3 {K : Value → Prop} (o : Owns H0 H L) (hin : rdI b post t B ∈ L) (hk : ∀ (rest : List UInt8) (acc n : Nat), B = bitsN acc n ++ toBits rest → acc < 2 ^ n → n < 40 → B.length ≤ 1152921504606846976 → K (.agg #[str rest, u64 acc, i64 n])) : pLoadN H 3 (.pointer (some ⟨b, 0, none⟩)) K := by
  obtain ⟨rest, acc, n, h1, h2, h3, h4, h5⟩ := o.thing hin
  have hs := (Sub.all h1).part (x := []) (y := [str rest, u64 acc, i64 n]) (z := post)
  have hc : Reads H ⟨b, 0, none⟩ [str rest, u64 acc, i64 n] := fun i v hv => by
    rw [add_mk]
    have := hs.cell (k := i) hv
    simpa using this
  exact hc.loadN (n := 3) rfl (hk rest acc n h2 h3 h4 h5)
theorem _root_.Go.Vc.Owns.p3s {K : Value → Heap → Prop} {rest : List UInt8} {acc n : Nat} {B' : List Bool} {L' : List It} (o : Owns H0 H L) (hr : Rep (rdI b post t B) (rdI b post t B') L L') (h2 : B' = bitsN acc n ++ toBits rest) (h3 : acc < 2 ^ n) (h4 : n < 40) (h5 : B'.length ≤ 1152921504606846976)
    (hk : ∀ H', Owns H0 H' L' → H'.size = H.size → K undef H') : pStoreN H 3 (.pointer (some ⟨b, 0, none⟩)) (.agg #[str rest, u64 acc, i64 n]) K := by
  obtain ⟨rest0, acc0, n0, h1, -⟩ := o.thing hr.mem
  have hs := setsAt_put (new := [str rest, u64 acc, i64 n]) (sp := []) (l := str rest0 :: u64 acc0 :: i64 n0 :: post) (b := b) (j := 0) (.inl rfl) (by rw [List.append_nil]; exact h1) rfl (by simp) rfl
  rw [List.append_nil] at hs
  have hp : putL (str rest0 :: u64 acc0 :: i64 n0 :: post) 0 [str rest, u64 acc, i64 n] = str rest :: u64 acc :: i64 n :: post := by
    simp [putL_cons, putL_nil]
  rw [hp] at hs
  have hb := lt_of_blk h1
  show pStoreN H 3 _ (.agg [str rest, u64 acc, i64 n].toArray) K
  simp only [pStoreN, cells_agg, hs]
  refine ⟨by simp, hk _ (o.turn hr (by simp) (fun k hk hne => get_set_ne (fun e => hne e.symm)) ⟨rest, acc, n, get_set_self hb, h2, h3, h4, h5⟩ (fun k hk => .inl hk)) (by simp)⟩
theorem need_spec {n : Nat} (hn : n ≤ 32) (o : Owns H0 H (rdI b post t B :: L))
    (hok : ∀ x C H', needM n B = .ok x C → x < 2 ^ n → Owns H0 H' (rdI b post t C :: L) → R (.tuple #[i64 x, .int .i64 0]) H')
    (her : needM n B = .er 2 → R (.tuple #[.int .i64 0, .int .i64 2]) H) : CallsH Tryz.prog 84 #[at_ b 0, i64 n] H R := by
  refine inflate_need.vc _ _ _ _ ?_
  unfold inflate_need.res
  have hr := rdP_rd o (List.mem_cons_self)
  by_cases hl : n ≤ B.length
  · refine rRead_spec (k := n) hr hn hl fun H1 w c => ?_
    have hlt := numB_lt (B.take n)
    rw [List.length_take, Nat.min_eq_left hl] at hlt
    have h32 : 2 ^ n ≤ 2 ^ 32 := Nat.pow_le_pow_right (by decide) hn
    have hx : numB (B.take n) < 4294967296 := by omega
    refine pExtract_to rfl ?_
    refine pExtract_to rfl ?_
    rw [pNot_v, Bool.not_true, pCond_false]
    refine pConv_to ?_
    rw [w64 (by omega) (by omega)]
    exact hok _ _ H1 (by unfold needM; rw [if_pos hl]) hlt (o.rd w c Rep.here)
  · refine rRead_no hr (by omega) ?_
    refine pExtract_to rfl ?_
    refine pExtract_to rfl ?_
    rw [pNot_v, Bool.not_false, pCond_true]
    exact her (by unfold needM; rw [if_neg hl])
theorem hitP_take (hle : ∀ k ∈ ls, k ≤ 15) {s : Nat} : hit ls (B.take 15) s ↔ hit ls B s := by
  have := getD_le hle s
  unfold hit
  rw [List.take_take, Nat.min_eq_left this]
open Classical in
theorem nextP_spec {cb : Nat} {lv wv sv : Value} (hz : okC zs) (o : Owns H0 H (rdI b post t B :: L)) (m1 : It.box cb (codeCells lv wv (countsL (natL zs)) sv) 90 ∈ L) (m2 : It.sl wv 2 (wordsV (natL zs)) ∈ L) (m3 : It.sl sv 1 (symsV (symsB (natL zs) 16)) ∈ L)
    (hok : ∀ s C H', nextM zs B = .ok s C → s < zs.length → Owns H0 H' (rdI b post t C :: L) → R (.tuple #[i64 s, .int .i64 0]) H')
    (her : ∀ e H', nextM zs B = .er e → e ≠ 0 → Owns H0 H' (rdI b post t B :: L) → R (.tuple #[.int .i64 0, .int .i64 e]) H') :
    CallsH Tryz.prog 18 #[.pointer (some ⟨cb, 0, none⟩), at_ b 0] H R := by
  have hle := ok_le hz.1
  have ht := @hitP_take (natL zs) B hle
  have hg15 := getD_le hle
  refine canon_Code_Next.vc _ _ _ _ ?_
  unfold canon_Code_Next.res
  rw [pEq_3s]
  refine pOr_false ?_
  rw [pEq_3s]
  intro _
  rw [pCond_false]
  refine rLeft_spec (rdP_rd o (by repeat (first | exact List.mem_cons_self | apply List.mem_cons_of_mem))) ?_
  rw [pMin_v]
  obtain ⟨n, hn⟩ : ∃ n, n = min B.length 15 := ⟨_, rfl⟩
  rw [show min ((B.length : Nat) : Int) 15 = (n : Int) by omega]
  refine rPeek_spec (k := n) (rdP_rd o (by repeat (first | exact List.mem_cons_self | apply List.mem_cons_of_mem))) (by omega) (by omega) fun H1 w1 c1 => ?_
  have o := o.rd w1 c1 Rep.here
  refine pExtract_to rfl ?_
  refine pExtract_to rfl ?_
  have hx := numB_lt (B.take n)
  have hbl : (B.take n).length = n := by rw [List.length_take]; omega
  have hb : bitsN (numB (B.take n)) n = B.take 15 := by
    have := bitsN_numB (B.take n)
    rw [hbl] at this
    rw [this, hn]
    rcases Nat.le_total B.length 15 with g | g
    · rw [Nat.min_eq_left g, List.take_of_length_le (Nat.le_refl _), List.take_of_length_le g]
    · rw [Nat.min_eq_right g]
  rw [hbl] at hx
  generalize numB (B.take n) = x at *
  refine find_spec (x := x) (n := n) hz.1 hz.2 o (List.mem_cons_of_mem _ m1) (List.mem_cons_of_mem _ m3) hx (by omega) (fun s hh => ?_) (fun hno => ?_)
  · rw [hb] at hh
    have hh := ht.1 hh
    have hs1 := hh.2.1
    have hlen := hit_len hh
    have h15 := hg15 s
    refine pExtract_to rfl ?_
    refine pExtract_to rfl ?_
    rw [pGt_v, decide_eq_true (by omega), pCond_true]
    refine rRead_spec (k := (natL zs).getD s 0) (rdP_rd o (by repeat (first | exact List.mem_cons_self | apply List.mem_cons_of_mem))) (by omega) hlen fun H2 w2 c2 => ?_
    exact hok s _ H2 (nextM_hit hz hh) (by have := hh.1; rwa [natL_len] at this) (o.rd w2 c2 Rep.here)
  · rw [hb] at hno
    refine pExtract_to rfl ?_
    refine pExtract_to rfl ?_
    rw [pGt_v, decide_eq_false (by decide), pCond_false]
    refine open_spec (x := x) (n := n) hz.1 o (List.mem_cons_of_mem _ m1) (List.mem_cons_of_mem _ m2) hx (by omega) fun H2 o => ?_
    rw [hb]
    have hnm : nextM zs B = .er (if more (natL zs) (B.take 15) then 2 else 4) := by
      unfold nextM
      rw [dif_neg (fun ⟨s, g⟩ => hno s (ht.2 g))]
    by_cases hm : more (natL zs) (B.take 15)
    · rw [if_pos hm] at hnm
      rw [decide_eq_true hm, pCond_true]
      exact her 2 H2 hnm (by decide) o
    · rw [if_neg hm] at hnm
      rw [decide_eq_false hm, pCond_false]
      exact her 4 H2 hnm (by decide) o
end Go.Proofs.YtameljhbkedhjaaGreatDoor
namespace Go.Proofs.YtameljhbkedhjaaGreatDoor
open Go Go.Vc Go.Proofs
set_option linter.unusedVariables false
set_option linter.unusedSimpArgs false
variable {H H0 : Heap} {R : Value → Heap → Prop} {v : Value} {zs : List Int} {ls : List Nat} {B : List Bool} {L : List It} {b : Nat} {post : List Value} {t : TypeId}
theorem numsV_getD {l : List Int} {i : Nat} (h : i < l.length) : (numsV l)[i]? = some (.int .i64 (l.getD i 0)) := by
  rw [numsV_get h, List.getD_eq_getElem?_getD, List.getElem?_eq_getElem h]; rfl
theorem numsV_snoc (l : List Int) (z : Int) : numsV l ++ (Value.int .i64 z).cells.toList = numsV (l ++ [z]) := by rw [numsV_append]; rfl
theorem _root_.Go.Vc.Owns.drop2 {i j : It} (o : Owns H0 H (i :: j :: L)) : Owns H0 H (i :: L) := o.pick (List.Sublist.cons_cons _ (List.sublist_cons_self _ _))
theorem _root_.Go.Vc.Owns.swap {i j : It} (o : Owns H0 H (i :: j :: L)) : Owns H0 H (j :: i :: L) := o.perm (List.Perm.swap ..)
theorem _root_.Go.Vc.Owns.lenV1 {l : List Value} (o : Owns H0 H L) (h : It.sl v 1 l ∈ L) : lenV v = some l.length := (o.sl h).lenV (Nat.mul_one _).symm (by decide)
theorem _root_.Go.Vc.Owns.len1 {l : List Value} {K : Value → Prop} (o : Owns H0 H L) (h : It.sl v 1 l ∈ L) (hk : K (.int .i64 (l.length : Int))) : pLen v K := (o.sl h).len (Nat.mul_one _).symm (by decide) hk
abbrev grows (n : Nat) (v : Value) : Nat := n - (lenV v).getD 0
theorem grows_lt {n a c : Nat} {v w : Value} (hv : lenV v = some a) (hw : lenV w = some c) (h : a < c) (hn : a < n) : grows n w < grows n v := by
  unfold grows; rw [hv, hw]; simp only [Option.getD_some]; omega
theorem _root_.Go.Vc.Owns.mid {M : List It} {i : It} (o : Owns H0 H (M ++ i :: L)) : Owns H0 H (i :: (M ++ L)) := o.perm List.perm_middle.symm
theorem _root_.Go.Vc.Owns.nil1 (o : Owns H0 H L) : Owns H0 H (.sl (.slice none 0 0) 1 [] :: L) :=
  o.add (Ext.refl H) ⟨by decide, .inl ⟨rfl, rfl⟩⟩ (by intro k hk; exact absurd hk (by simp [It.foot, blkOf]))
def HasC (L : List It) (zs : List Int) (p : Value) : Prop := okC zs ∧ ∃ cb lv wv sv, p = .pointer (some ⟨cb, 0, none⟩) ∧ ∀ i ∈ codeIts zs cb lv wv sv, i ∈ L
theorem HasC.mono {L L' : List It} {p : Value} (h : HasC L zs p) (hm : ∀ i ∈ L, i ∈ L') : HasC L' zs p := by
  obtain ⟨h1, cb, lv, wv, sv, h2, h3⟩ := h
  exact ⟨h1, cb, lv, wv, sv, h2, fun i hi => hm i (h3 i hi)⟩
theorem HasC.cons {i : It} {L : List It} {p : Value} (h : HasC L zs p) : HasC (i :: L) zs p := h.mono fun _ => List.mem_cons_of_mem _
theorem HasC.app {M L : List It} {p : Value} (h : HasC L zs p) : HasC (M ++ L) zs p := h.mono fun _ => List.mem_append_right _
theorem HasC.appl {M L : List It} {p : Value} (h : HasC M zs p) : HasC (M ++ L) zs p := h.mono fun _ => List.mem_append_left _
theorem nextC_spec {p : Value} (hc : HasC L zs p) (o : Owns H0 H (rdI b post t B :: L))
    (hok : ∀ s C H', nextM zs B = .ok s C → s < zs.length → Owns H0 H' (rdI b post t C :: L) → R (.tuple #[i64 s, .int .i64 0]) H')
    (her : ∀ e H', nextM zs B = .er e → e ≠ 0 → Owns H0 H' (rdI b post t B :: L) → R (.tuple #[.int .i64 0, .int .i64 e]) H') :
    CallsH Tryz.prog 18 #[p, at_ b 0] H R := by
  obtain ⟨h1, cb, lv, wv, sv, rfl, h3⟩ := hc
  exact nextP_spec h1 o (h3 _ (by repeat (first | exact List.mem_cons_self | apply List.mem_cons_of_mem))) (h3 _ (by repeat (first | exact List.mem_cons_self | apply List.mem_cons_of_mem))) (h3 _ (by repeat (first | exact List.mem_cons_self | apply List.mem_cons_of_mem))) hok her
theorem newO_spec {loose : Bool} {v : Value} (o : Owns H0 H L) (hs : Sl H v 1 (numsV zs)) (hlen : zs.length ≤ 1000)
    (hno : ∀ H', whyL zs loose ≠ 0 → Owns H0 H' L → R (.tuple #[.pointer none, .int .i64 (whyL zs loose)]) H')
    (hyes : ∀ H' M p, whyL zs loose = 0 → HasC M zs p → Owns H0 H' (M ++ L) → R (.tuple #[p, .int .i64 0]) H') : CallsH Tryz.prog 13 #[v, .bool loose] H R :=
  newC_spec hs (by have : maxLen = 9223372036854775807 := rfl; omega) (fun H' hx h => hno H' h (o.more hx)) (fun H' b lv wv sv c hz h => hyes H' (codeIts zs b lv wv sv) _ h ⟨why_okC h, b, lv, wv, sv, rfl, fun i hi => hi⟩ (o.call c))
theorem ne_ok {K : Value → Prop} (h : K (.bool false)) : pNe 0 (.int .i64 0) (.int .i64 0) K := h
theorem ne_er {e : Int} {K : Value → Prop} (he : e ≠ 0) (h : K (.bool true)) : pNe 0 (.int .i64 e) (.int .i64 0) K := by
  rw [pNe_0, decide_eq_true he]; exact h
theorem fix_fill {e t : TypeId} {K : Value → Heap → Prop} {l2 : Value} {nv up : Nat} {zs : List Int} (o : Owns H0 H (.sl l2 1 (numsV zs) :: L)) (hz : zs.length ≤ up) (hup : up ≤ 288)
    (hk : ∀ l H', Owns H0 H' (.sl l 1 (numsV (zs ++ List.replicate (up - zs.length) (nv : Int))) :: L) → K l H') :
    pBox H t (.agg #[(.int .i64 0), (.int .i64 0)]) fun x5 H_4 =>
    pStoreN H_4 2 x5 (.agg #[i64 nv, i64 up]) fun _ H_5 =>
    ∃ (I_6 : Value → Heap → Prop) (m_7 : Value → Heap → Nat), I_6 l2 H_5 ∧
    ∀ _ : Env, ∀ l2' : Value, ∀ H_8 : Heap, I_6 l2' H_8 →
    pLen l2' fun x19 =>
    pFieldAddr 1 x5 fun x20 =>
    pLoad H_8 x20 fun x21 =>
    pLt x19 x21 fun x22 =>
    pCond x22
    (pFieldAddr 0 x5 fun x24 =>
    pLoad H_8 x24 fun x25 =>
    pBuildSl H_8 e 1 [(.int .i64 0)] [(0, 1, x25)] fun x26 H_9 =>
    pAppend H_9 e 1 8 [(.int .i64 0)] l2' x26 fun x27 H_10 =>
    I_6 x27 H_10 ∧ m_7 x27 H_10 < m_7 l2' H_8)
    (K l2' H_8) := by
  refine o.box fun c H1 o hc => ?_
  change Owns H0 H1 (.box c [.int .i64 0, .int .i64 0] t :: _) at o
  refine o.bstoreN (vs := [i64 nv, i64 up]) (by repeat (first | exact List.mem_cons_self | apply List.mem_cons_of_mem)) rfl rfl rfl (by repeat (first | exact Rep.here | apply Rep.there)) fun H2 o _ => ?_
  refine ⟨fun l2' H' => ∃ j, zs.length + j ≤ up ∧ Owns H0 H' (.box c [i64 nv, i64 up] t :: .sl l2' 1 (numsV (zs ++ List.replicate j (nv : Int))) :: L), fun v _ => grows 1000 v, ⟨0, by omega, by simpa using o⟩, ?_⟩
  rintro _ l2' H3 ⟨j, hj, o⟩
  have hlen : (numsV (zs ++ List.replicate j (nv : Int))).length = zs.length + j := by rw [numsV_len, List.length_append, List.length_replicate]
  have hlv := o.lenV1 (v := l2') (by repeat (first | exact List.mem_cons_self | apply List.mem_cons_of_mem))
  refine o.len1 (v := l2') (by repeat (first | exact List.mem_cons_self | apply List.mem_cons_of_mem)) ?_
  rw [pFieldAddr_v, add_mk]
  refine o.bload (b := c) (f := 0 + 1) (by repeat (first | exact List.mem_cons_self | apply List.mem_cons_of_mem)) rfl ?_
  rw [pLt_v]
  refine pCond_if (fun hc => ?_) (fun hc => ?_)
  · rw [pFieldAddr_v, add_mk]
    refine o.bload (b := c) (f := 0 + 0) (by repeat (first | exact List.mem_cons_self | apply List.mem_cons_of_mem)) rfl ?_
    refine o.build1 (by decide) rfl rfl fun y H4 o => ?_
    refine o.app (v := l2') (x := y) (by repeat (first | exact Sel.here | apply Sel.there)) (o.sl (by repeat (first | exact List.mem_cons_self | apply List.mem_cons_of_mem))) (by rfl) (by rw [hlen]; show 2 * (zs.length + j + 1) * 8 ≤ _; omega) fun y2 H5 o => ?_
    rw [numsV_snoc, List.append_assoc, ← List.replicate_succ'] at o
    have hlv2 := o.lenV1 (v := y2) (by repeat (first | exact List.mem_cons_self | apply List.mem_cons_of_mem))
    rw [numsV_len] at hlv2
    refine ⟨⟨j + 1, by omega, o.drop2.swap⟩, ?_⟩
    refine grows_lt hlv hlv2 ?_ ?_ <;> rw [hlen] <;> first | omega | (rw [List.length_append, List.length_replicate]; omega)
  · have : j = up - zs.length := by omega
    subst this
    exact hk l2' H3 (o.pick (List.sublist_cons_self _ _))
theorem fixL_why : whyL fixL false = 0 := by
  rw [why_ok fixL_ok.1, if_neg (by decide +kernel), if_neg (by decide +kernel)]
theorem fixD_why : whyL fixD false = 0 := by
  rw [why_ok fixD_ok.1, if_neg (by decide +kernel), if_neg (by decide +kernel)]
def fixUp : Nat → Nat
  | 0 => 0 | 1 => 144 | 2 => 256 | 3 => 280 | _ => 288
def fixN : Nat → Nat
  | 0 => 8 | 1 => 9 | 2 => 7 | _ => 8
theorem fix_take : ∀ i : Fin 4, fixL.take (fixUp i.val) ++ List.replicate (fixUp (i.val + 1) - fixUp i.val) (fixN i.val : Int) = fixL.take (fixUp (i.val + 1)) ∧ (fixL.take (fixUp i.val)).length = fixUp i.val ∧ fixUp i.val ≤ fixUp (i.val + 1) ∧ fixUp (i.val + 1) ≤ 288 := by decide +kernel
theorem fixed_spec (o : Owns H0 H L) (h : ∀ H' M p q, HasC M fixL p → HasC M fixD q → Owns H0 H' (M ++ L) → R (.tuple #[p, q]) H') : CallsH Tryz.prog 86 #[] H R := by
  refine inflate_fixedCodes.vc _ _ ?_
  unfold inflate_fixedCodes.res
  refine pBuild_two rfl rfl ?_
  refine pBuild_two rfl rfl ?_
  refine pBuild_two rfl rfl ?_
  refine pBuild_two rfl rfl ?_
  simp only [pBuild_c, pBuild_n, cells_agg, putL_cons, putL_nil, List.set_cons_zero, List.set_cons_succ, List.length_cons, List.length_nil, Nat.reduceAdd, Nat.reduceLeDiff, true_and]
  refine ⟨rfl, rfl, rfl, rfl, ?_⟩
  refine ⟨fun l u H' => ∃ i : Nat, u = i64 i ∧ i ≤ 4 ∧ Owns H0 H' (.sl l 1 (numsV (fixL.take (fixUp i))) :: L), fun _ u _ => match u with | .int _ i => (4 - i).toNat | _ => 0, ⟨0, rfl, by omega, o.nil1⟩, ?_⟩
  rintro _ l2 _ H3 ⟨i, rfl, hi, o⟩
  rw [pLt_v]
  refine pCond_if (fun hc => ?_) (fun hc => ?_)
  · have hi4 : i < 4 := by omega
    obtain ⟨e1, e2, e3, e4⟩ := fix_take ⟨i, hi4⟩
    dsimp only at e1 e2 e3 e4
    have hx : ∀ K : Value → Prop, K (.agg #[i64 (fixN i), i64 (fixUp (i + 1))]) → pIdxAggN 4 2 (.agg [Value.int .i64 8, .int .i64 144, .int .i64 9, .int .i64 256, .int .i64 7, .int .i64 280, .int .i64 8, .int .i64 288].toArray) (i64 i) K := by
      intro K hK
      refine ⟨by omega, by omega, ?_⟩
      rw [Int.toNat_natCast]
      match i, hi4 with
      | 0, _ => exact hK
      | 1, _ => exact hK
      | 2, _ => exact hK
      | 3, _ => exact hK
    refine hx _ ?_
    refine fix_fill o (by rw [e2]; exact e3) e4 fun l H4 o => ?_
    rw [e2, e1] at o
    rw [pAdd_v, w64 (by omega) (by omega)]
    exact ⟨⟨i + 1, rfl, by omega, o⟩, by show (_ : Int).toNat < (_ : Int).toNat; omega⟩
  have hi4 : i = 4 := by omega
  subst hi4
  rw [show fixL.take (fixUp 4) = fixL by decide +kernel] at o
  refine ⟨fun d u H' => ∃ i : Nat, u = i64 i ∧ i ≤ 32 ∧ Owns H0 H' (.sl d 1 (numsV (List.replicate i 5)) :: .sl l2 1 (numsV fixL) :: L), fun _ u _ => match u with | .int _ i => (32 - i).toNat | _ => 0, ⟨0, rfl, by omega, o.nil1⟩, ?_⟩
  rintro _ d3 _ H4 ⟨i, rfl, hi, o⟩
  rw [pLt_v]
  refine pCond_if (fun hc => ?_) (fun hc => ?_)
  · refine o.build1 (by decide) rfl rfl fun y H5 o => ?_
    refine o.app (v := d3) (x := y) (by repeat (first | exact Sel.here | apply Sel.there)) (o.sl (by repeat (first | exact List.mem_cons_self | apply List.mem_cons_of_mem))) (by rfl) (by rw [numsV_len, List.length_replicate]; show 2 * (i + 1) * 8 ≤ _; omega) fun y2 H6 o => ?_
    rw [numsV_snoc, ← List.replicate_succ'] at o
    rw [pAdd_v, w64 (by omega) (by omega)]
    exact ⟨⟨i + 1, rfl, by omega, o.drop2⟩, by show (_ : Int).toNat < (_ : Int).toNat; omega⟩
  have hi32 : i = 32 := by omega
  subst hi32
  refine newO_spec (zs := fixL) o (o.sl (by repeat (first | exact List.mem_cons_self | apply List.mem_cons_of_mem))) (by decide +kernel) (fun H5 hw => absurd fixL_why hw) fun H5 M p _ hp o => ?_
  refine pExtract_to rfl ?_
  refine pExtract_to rfl ?_
  have o := o.pick (List.Sublist.append (List.Sublist.refl M) (List.Sublist.cons_cons _ (List.sublist_cons_self _ L)))
  refine newO_spec (zs := fixD) o (o.sl (v := d3) (List.mem_append_right _ (by repeat (first | exact List.mem_cons_self | apply List.mem_cons_of_mem)))) (by decide +kernel) (fun H5 hw => absurd fixD_why hw) fun H6 M2 q _ hq o => ?_
  refine pExtract_to rfl ?_
  refine pExtract_to rfl ?_
  have o := o.pick (List.Sublist.append (List.Sublist.refl M2) (List.Sublist.append (List.Sublist.refl M) (List.sublist_cons_self _ L)))
  rw [← List.append_assoc] at o
  exact h H6 (M2 ++ M) p q hp.app hq.appl o
theorem and_i64 {v k : Nat} {m : Int} (hk : k ≤ 62) (hm : m = 2 ^ k - 1) : bitsOf .and .i64 (v : Int) m = ((v % 2 ^ k : Nat) : Int) := by
  rw [and_low hk hm]
  push_cast
  rfl
theorem repeat_spec {s : Nat} {ah : List Int} {v : Value} (o : Owns H0 H (rdI b post t B :: L)) (hS : Sl H v 1 (numsV ah)) (hl : ah.length ≤ 1000)
    (hok : ∀ k z C H', repM s ah B = .ok (k, z) C → 1 ≤ k → k ≤ 138 → Owns H0 H' (rdI b post t C :: L) → R (.tuple #[i64 k, .int .i64 z, .int .i64 0]) H')
    (her : ∀ e x z H', repM s ah B = .er e → e ≠ 0 → Owns H0 H' (rdI b post t B :: L) → R (.tuple #[x, z, .int .i64 e]) H') : CallsH Tryz.prog 116 #[at_ b 0, i64 s, v] H R := by
  refine inflate_repeat.vc _ _ _ _ _ ?_
  unfold inflate_repeat.res
  refine ⟨fun le ex va H' => ∃ (l0 n0 : Nat) (z : Int), le = i64 l0 ∧ ex = i64 n0 ∧ va = .int .i64 z ∧ H' = H ∧ 1 ≤ l0 ∧ l0 ≤ 11 ∧ n0 ≤ 7 ∧ repM s ah B = (needM n0 B).bind fun n B => .ok (l0 + n, z) B, ?_, ?_⟩
  · rintro _ _ _ _ _ ⟨l0, n0, z, rfl, rfl, rfl, rfl, h1, h2, h3, hr⟩
    refine need_spec (n := n0) (by omega) o (fun x C H1 hx hlt o => ?_) (fun hx => ?_)
    · refine pExtract_to rfl ?_
      refine pExtract_to rfl ?_
      have h7 : 2 ^ n0 ≤ 2 ^ 7 := Nat.pow_le_pow_right (by decide) h3
      rw [pAdd_v, show (l0 : Int) + (x : Int) = ((l0 + x : Nat) : Int) by omega, w64 (by omega) (by omega)]
      rw [hx] at hr
      exact hok _ _ C H1 hr (by omega) (by omega) o
    · refine pExtract_to rfl ?_
      refine pExtract_to rfl ?_
      rw [pAdd_v]
      rw [hx] at hr
      exact her 2 _ _ _ hr (by decide) o
  · rw [pEq_0]
    refine pCond_if (fun hc => ?_) (fun hc => ?_)
    · have hs : s = 16 := by omega
      refine hS.len (Nat.mul_one _).symm (by decide) ?_
      rw [pEq_0, numsV_len]
      refine pCond_if (fun h0 => ?_) (fun h0 => ?_)
      · have : ah = [] := List.length_eq_zero_iff.1 (by omega)
        exact her 3 _ _ H (by unfold repM; rw [if_pos hs, if_pos this]) (by decide) o
      · refine hS.len (Nat.mul_one _).symm (by decide) ?_
        rw [numsV_len, pSub_v, show (ah.length : Int) - 1 = ((ah.length - 1 : Nat) : Int) by omega, w64 (by omega) (by omega)]
        refine hS.at_ (n := ah.length) (by rw [numsV_len]; omega) (by decide) (by omega) (by omega) fun p hp => ?_
        refine hp.load hS (w := .int .i64 (ah.getD (ah.length - 1) 0)) ?_ ?_
        · rw [Int.toNat_natCast, Nat.mul_one]; exact numsV_getD (by omega)
        · refine ⟨3, 2, _, rfl, rfl, rfl, rfl, by decide, by decide, by decide, ?_⟩
          unfold repM
          rw [if_pos hs, if_neg (fun g => h0 (by rw [g]; rfl))]
    rw [pEq_0]
    refine pCond_if (fun hc2 => ?_) (fun hc2 => ?_)
    · refine ⟨3, 3, 0, rfl, rfl, rfl, rfl, by decide, by decide, by decide, ?_⟩
      unfold repM
      rw [if_neg (by omega), if_pos (by omega)]
    rw [pEq_0]
    refine pCond_if (fun hc3 => ?_) (fun hc3 => ?_)
    · refine ⟨11, 7, 0, rfl, rfl, rfl, rfl, by decide, by decide, by decide, ?_⟩
      unfold repM
      rw [if_neg (by omega), if_neg (by omega), if_pos (by omega)]
    · exact hok 1 (s : Int) B H (by unfold repM; rw [if_neg (by omega), if_neg (by omega), if_neg (by omega)]) (by decide) (by decide) o
theorem lengths_spec7 {n : Nat} {p : Value} (hn : n ≤ 400) (hc : HasC L zs p) (o : Owns H0 H (rdI b post t B :: L))
    (hok : ∀ l C v H', lensM (n + 1) zs n [] B = .ok l C → l.length = n → Owns H0 H' (rdI b post t C :: .sl v 1 (numsV l) :: L) → R (.tuple #[v, .int .i64 0]) H')
    (her : ∀ e C H', lensM (n + 1) zs n [] B = .er e → e ≠ 0 → Owns H0 H' (rdI b post t C :: L) → R (.tuple #[.slice none 0 0, .int .i64 e]) H') : CallsH Tryz.prog 102 #[at_ b 0, p, i64 n] H R := by
  generalize hT : lensM (n + 1) zs n [] B = T at *
  refine inflate_lengths.vc _ _ _ _ _ ?_
  unfold inflate_lengths.res
  refine ⟨fun v H' => ∃ k out C, lensM k zs n out C = T ∧ n < k + out.length ∧ out.length ≤ n ∧ Owns H0 H' (rdI b post t C :: .sl v 1 (numsV out) :: L), fun v _ => grows 1000 v, ⟨n + 1, [], B, hT, by simp, by simp, o.nil1.swap⟩, ?_⟩
  rintro _ out8 H1 ⟨k, out, C, hk, hlt, hle, o⟩
  have hlv := o.lenV1 (v := out8) (by repeat (first | exact List.mem_cons_self | apply List.mem_cons_of_mem))
  rw [numsV_len] at hlv
  obtain ⟨k, rfl⟩ : ∃ j, k = j + 1 := ⟨k - 1, by omega⟩
  unfold lensM at hk
  refine o.len1 (v := out8) (by repeat (first | exact List.mem_cons_self | apply List.mem_cons_of_mem)) ?_
  rw [numsV_len, pLt_v]
  refine pCond_if (fun hc1 => ?_) (fun hc1 => ?_)
  · rw [if_neg (by omega)] at hk
    refine nextC_spec hc.cons o (fun s C1 H2 hs hsl o => ?_) (fun e H2 hs he o => ?_)
    · rw [hs] at hk
      refine pExtract_to rfl ?_
      refine pExtract_to rfl ?_
      refine ne_ok ?_
      rw [pCond_false]
      refine repeat_spec o (o.sl (v := out8) (by repeat (first | exact List.mem_cons_self | apply List.mem_cons_of_mem))) (by omega) (fun k1 z C2 H3 hr h1 h2 o => ?_) (fun e x z H3 hr he o => ?_)
      · simp only [Rs.bind, hr] at hk
        refine pExtract_to rfl ?_
        refine pExtract_to rfl ?_
        refine pExtract_to rfl ?_
        refine ne_ok ?_
        rw [pCond_false]
        refine o.len1 (v := out8) (by repeat (first | exact List.mem_cons_self | apply List.mem_cons_of_mem)) ?_
        rw [numsV_len, pSub_v, show (n : Int) - (out.length : Int) = ((n - out.length : Nat) : Int) by omega, w64 (by omega) (by omega), pGt_v]
        refine pCond_if (fun hc2 => ?_) (fun hc2 => ?_)
        · rw [if_pos (by omega)] at hk
          exact her 20 C2 H3 hk.symm (by decide) o.drop2
        · rw [if_neg (by omega)] at hk
          refine ⟨fun v u H' => ∃ i : Nat, u = i64 i ∧ i ≤ k1 ∧ Owns H0 H' (rdI b post t C2 :: .sl v 1 (numsV (out ++ List.replicate i z)) :: L), fun _ u _ => match u with | .int _ i => (k1 - i).toNat | _ => 0, ⟨0, rfl, by omega, by simpa using o⟩, ?_⟩
          rintro _ v _ H4 ⟨i, rfl, hi, o⟩
          rw [pLt_v]
          refine pCond_if (fun hc3 => ?_) (fun hc3 => ?_)
          · refine o.build1 (by decide) rfl rfl fun y H5 o => ?_
            refine o.app (v := v) (x := y) (by repeat (first | exact Sel.here | apply Sel.there)) (o.sl (by repeat (first | exact List.mem_cons_self | apply List.mem_cons_of_mem))) (by rfl) (by rw [numsV_len, List.length_append, List.length_replicate]; show 2 * (out.length + i + 1) * 8 ≤ _; omega) fun y2 H6 o => ?_
            rw [numsV_snoc, List.append_assoc, ← List.replicate_succ'] at o
            rw [pAdd_v, w64 (by omega) (by omega)]
            exact ⟨⟨i + 1, rfl, by omega, o.drop2.swap⟩, by show (_ : Int).toNat < (_ : Int).toNat; omega⟩
          · have : i = k1 := by omega
            subst this
            have hlv2 := o.lenV1 (v := v) (by repeat (first | exact List.mem_cons_self | apply List.mem_cons_of_mem))
            rw [numsV_len, List.length_append, List.length_replicate] at hlv2
            refine ⟨⟨k, _, C2, hk, by rw [List.length_append, List.length_replicate]; omega, by rw [List.length_append, List.length_replicate]; omega, o⟩, grows_lt hlv hlv2 (by omega) (by omega)⟩
      · simp only [Rs.bind, hr] at hk
        refine pExtract_to rfl ?_
        refine pExtract_to rfl ?_
        refine pExtract_to rfl ?_
        refine ne_er he ?_
        rw [pCond_true]
        exact her e C1 H3 hk.symm he o.drop2
    · rw [hs] at hk
      refine pExtract_to rfl ?_
      refine pExtract_to rfl ?_
      refine ne_er he ?_
      rw [pCond_true]
      exact her e C H2 hk.symm he o.drop2
  · rw [if_pos (by omega)] at hk
    exact hok out C out8 H1 hk.symm (by omega) o
end Go.Proofs.YtameljhbkedhjaaGreatDoor
