/- The residuals of package lighterlaw25's functions, printed by resid.py. -/
import Derived.Test.YtmolkhfohpfhaaaVcSeat
namespace Go.Proofs.Ytmolkhfohpfhaaa
open Go Go.Vc Go.Proofs
set_option linter.unusedVariables false
set_option maxHeartbeats 4000000
def lighterlaw25_RecvPlays.an : Ann := (.seq (.reg (.op 0 [] .nil)) (.seq (.seq (.reg (.op 0 [] (.op 1 [] .nil))) (.cond (.seq (.reg (.op 0 [] .nil)) .leaf) .leaf)) (.seq (.reg (.op 0 [] (.op 1 [] (.op 2 [] (.op 3 [] .nil))))) (.seq (.reg (.op 0 [] (.op 1 [] (.op 2 [] (.op 3 [] (.op 4 [] (.op 5 [] (.op 6 [] (.op 7 [] .nil))))))))) (.seq (.seq (.reg (.op 0 [] (.op 1 [] .nil))) (.cond (.seq (.reg (.op 0 [] .nil)) .leaf) .leaf)) (.seq (.reg (.op 0 [] (.op 1 [] (.op 2 [] (.op 3 [] (.op 4 [] .nil)))))) (.seq (.seq (.reg (.op 0 [] .nil)) (.block (.loop [10] [6, 10, 11, 12, 13, 14, 15, 16, 17, 18, 19, 20, 21, 22, 39, 40, 41, 42, 43, 44, 45, 46, 47, 48, 49, 50, 51, 52, 53, 54, 55, 56, 57, 58, 59, 60, 61, 62, 63, 64, 65, 66, 67, 68, 69, 70, 71, 72, 73, 74, 75, 76, 77, 78, 79, 80, 81, 82, 83, 84, 85, 86, 87, 88, 89, 90, 91, 92, 93, 94, 95, 96, 97, 98, 99, 100, 101, 102, 103, 104, 105, 106, 107, 108, 109, 110, 111, 112, 113, 114, 115, 116, 117, 118, 119, 120, 121, 122, 123, 124, 125, 126, 127, 128, 129, 130, 131, 132, 133, 134, 135, 136, 137, 138, 139, 140] (.seq (.seq (.reg (.op 0 [] (.op 1 [] (.op 2 [] (.op 3 [] (.op 4 [] (.grp 4 (.op 5 [] (.op 6 [] .nil)) 7 .nil))))))) (.cond .leaf .leaf)) (.seq (.block (.seq (.reg (.op 0 [] (.op 1 [] (.op 2 [] (.op 3 [] (.op 4 [] (.op 5 [] .nil))))))) (.cut [] [6, 12, 13, 14, 15, 16, 17, 18, 19, 20, 53, 54, 55, 56, 57, 58, 59, 60, 61, 62, 63, 64, 65, 66, 67, 68, 69, 70, 71, 72, 73, 74, 75, 76, 77, 78, 79, 80, 81, 82, 83, 84, 85, 86, 87, 88, 89, 90, 91, 92, 93, 94, 95, 96, 97, 98, 99, 100, 101, 102, 103, 104, 105, 106, 107, 108, 109, 110, 111] (.seq (.reg (.op 0 [] (.op 1 [] (.op 2 [] (.op 3 [] (.op 4 [] (.op 5 [] .nil))))))) (.cond (.seq (.reg (.op 0 [] (.op 1 [] (.op 2 [] (.op 3 [] (.op 4 [] (.op 5 [] (.op 6 [] .nil)))))))) (.seq (.reg (.op 0 [] (.op 1 [] (.op 2 [] (.op 3 [] (.op 4 [] (.op 5 [] (.op 6 [] (.op 7 [] (.op 8 [] (.op 9 [] .nil))))))))))) (.seq (.seq (.reg (.op 0 [] (.op 1 [] (.op 2 [] (.op 3 [] (.grp 3 (.op 4 [] (.op 5 [] (.op 6 [] .nil))) 7 .nil)))))) (.cond (.seq (.reg (.op 0 [] .nil)) .leaf) .leaf)) (.reg (.op 0 [] (.op 1 [] .nil)))))) (.seq (.reg (.op 0 [] (.op 1 [] (.op 2 [] (.op 3 [] (.op 4 [] (.op 5 [] (.op 6 [] (.op 7 [] (.op 8 [] .nil)))))))))) (.cut [17] [17, 87, 88, 89, 90] (.seq (.reg (.op 0 [] (.op 1 [] .nil))) (.cond (.reg (.op 0 [] (.op 1 [] (.op 2 [] .nil)))) .leaf)) (.seq (.reg (.op 0 [] (.op 1 [] (.op 2 [] (.op 3 [] (.op 4 [] (.op 5 [] (.op 6 [] (.op 7 [] .nil))))))))) (.seq (.reg (.op 0 [] (.op 1 [] (.op 2 [] (.op 3 [] (.op 4 [] (.op 5 [] (.op 6 [] (.op 7 [] (.op 8 [] (.op 9 [] .nil))))))))))) (.seq (.seq (.reg (.op 0 [] (.op 1 [] (.op 2 [] (.op 3 [] (.op 4 [] (.op 5 [] .nil))))))) (.cond (.seq (.reg (.op 0 [] .nil)) .leaf) .leaf)) (.reg (.op 0 [] (.op 1 [] .nil)))))))))) (.seq (.reg (.op 0 [] (.op 1 [] (.op 2 [] (.op 3 [] (.op 4 [] (.op 5 [] (.op 6 [] .nil)))))))) (.seq (.drw [0, 0, 2, 7, 15, 31, 31, 95, 255, 511, 1023, 2047, 4095, 2047, 16383, 32767, 65535, 131071, 262143, 524287, 262143, 1310719, 4194303, 8388607] (.op 0 [] (.op 1 [] (.op 2 [] (.op 3 [] (.op 4 [] (.grp 4 (.op 5 [] (.op 6 [] (.op 7 [] (.op 8 [] .nil)))) 9 (.op 10 [] (.grp 10 (.op 11 [] (.op 13 [] (.op 12 [13] (.op 14 [] (.op 15 [] .nil))))) 16 (.op 17 [] (.grp 17 (.op 18 [] (.op 20 [] (.op 21 [] (.op 19 [] (.op 22 [] .nil))))) 23 .nil))))))))))) (.cond (.seq (.reg (.op 0 [] .nil)) .leaf) .leaf)))))) (.reg (.op 0 [] (.op 1 [] (.op 2 [] .nil))))))))) (.seq (.reg (.op 0 [] .nil)) .leaf))))))))
/-- lighter/lighterlaw25.RecvPlays -/
def lighterlaw25_RecvPlays.res (next0 : Value) (size1 : Value) (l2 : Value) (H0 : Heap) (R : Value → Heap → Prop) : Prop :=
 CallsH Try.prog 11 #[] H0 fun x23 H_1 =>
 pNot x23 fun x24 =>
 pCond x24
 (R (.bool false) H_1)
 (pBits .and size1 (.int .i64 31) fun x26 =>
 pAdd (.int .i64 1) x26 fun x27 =>
 CallsH Try.prog 12 #[next0, x27] H_1 fun x31 H_2 =>
 pExtract 0 x31 fun x32 =>
 pExtract 1 x31 fun x33 =>
 pNe 0 x33 (.int .i64 0) fun x35 =>
 pCond x35
 (R (.bool false) H_2)
 (CallsH Try.prog 13 #[next0, x27] H_2 fun x38 H_3 =>
 pBox H_3 32 (.agg #[(.int .u32 0), (.slice none 0 0), (.slice none 0 0)]) fun m9 H_4 =>
 pStoreN H_4 3 m9 x38 fun _ H_5 =>
 ∃ (I_6 : Value → Heap → Prop) (m_7 : Value → Heap → Nat), I_6 (.int .i64 0) H_5 ∧
 ∀ _ : Env, ∀ i10 : Value, ∀ H_8 : Heap, I_6 i10 H_8 →
 pLen l2 fun x41 =>
 pLt i10 x41 fun x42 =>
 pAnd x42 (fun J_9 =>
 pLt i10 (.int .i64 60) fun x45 =>
 J_9 x45 H_8) H_8 fun x46 H_10 => ∀ _ : Env,
 pCond x46
 (pIdxSl 5 l2 i10 fun x51 =>
 pLoadN H_10 5 x51 fun x52 =>
 pBox H_10 35 (.agg #[(.int .i64 0), (.int .i64 0), (.bool false), (.int .u32 0), (str [])]) fun x11 H_11 =>
 pStoreN H_11 5 x11 x52 fun _ H_12 =>
 ∃ J_13 : Heap → Prop, (∀ _ : Env, ∀ H_14 : Heap, J_13 H_14 →
 CallsH Try.prog 18 #[x32] H_14 fun x114 H_15 =>
 pExtract 0 x114 fun x115 =>
 pExtract 1 x114 fun x116 =>
 pFieldAddr 0 m9 fun x118 =>
 pLoad H_15 x118 fun x119 =>
 pNe 0 x115 x119 fun x120 =>
 pOr x120 (fun J_16 =>
 pLoadN H_15 3 m9 fun x123 =>
 CallsH Try.prog 19 #[x123] H_15 fun x124 H_18 =>
 pNe 0 x116 x124 fun x125 =>
 J_16 x125 H_18) H_15 fun x126 H_17 => ∀ _ : Env,
 pOr x126 (fun J_19 =>
 pLoadN H_17 3 m9 fun x130 =>
 CallsH Try.prog 20 #[x32] H_17 fun x129 H_21 =>
 (pLoadN H_21 3 m9 fun r_ =>
 r_ = x130) ∧
 CallsH Try.prog 21 #[x130] H_21 fun x131 H_22 =>
 pNe 0 x129 x131 fun x132 =>
 J_19 x132 H_22) H_17 fun x133 H_20 => ∀ _ : Env,
 pOr x133 (fun J_23 =>
 pMul (.int .i64 256) x27 fun x138 =>
 CallsH Try.prog 20 #[x32] H_20 fun x136 H_25 =>
 pGt x136 x138 fun x139 =>
 J_23 x139 H_25) H_20 fun x140 H_24 => ∀ _ : Env,
 pCond x140
 (R (.bool false) H_24)
 (pAdd i10 (.int .i64 1) fun x48 =>
 I_6 x48 H_24 ∧ m_7 x48 H_24 < m_7 i10 H_8)) ∧
 pFieldAddr 0 x11 fun x53 =>
 pLoad H_12 x53 fun x54 =>
 pRem x54 (.int .i64 3) fun x55 =>
 pAdd x55 (.int .i64 3) fun x56 =>
 pRem x56 (.int .i64 3) fun x57 =>
 pEq 0 x57 (.int .i64 0) fun x58 =>
 pCond x58
 (CallsH Try.prog 14 #[x32] H_12 fun x61 H_26 =>
 pExtract 0 x61 fun x62 =>
 pExtract 1 x61 fun x63 =>
 pLoadN H_26 3 m9 fun x65 =>
 CallsH Try.prog 15 #[x65] H_26 fun x66 H_27 =>
 pExtract 0 x66 fun x67 =>
 pExtract 1 x66 fun x68 =>
 pExtract 2 x66 fun x69 =>
 pBox H_27 32 (.agg #[(.int .u32 0), (.slice none 0 0), (.slice none 0 0)]) fun n14 H_28 =>
 pStoreN H_28 3 n14 x67 fun _ H_29 =>
 pNe 1 x62 x68 fun x72 =>
 pOr x72 (fun J_30 =>
 pNe 2 x63 x69 fun x76 =>
 J_30 x76 H_29) H_29 fun x77 H_31 => ∀ _ : Env,
 pCond x77
 (R (.bool false) H_31)
 (pLoadN H_31 3 n14 fun x78 =>
 pStoreN H_31 3 m9 x78 fun _ H_32 =>
 J_13 H_32))
 (pFieldAddr 0 m9 fun x79 =>
 pLoad H_12 x79 fun x80 =>
 pFieldAddr 1 x11 fun x81 =>
 pLoad H_12 x81 fun x82 =>
 pBits .and x82 (.int .i64 63) fun x83 =>
 pSub x83 (.int .i64 8) fun x84 =>
 pConv .u32 x84 fun x85 =>
 pAdd x80 x85 fun x86 =>
 ∃ J_33 : Value → Heap → Prop, (∀ _ : Env, ∀ at17 : Value, ∀ H_34 : Heap, J_33 at17 H_34 →
 pFieldAddr 4 x11 fun x91 =>
 pLoad H_34 x91 fun x92 =>
 pFieldAddr 4 x11 fun x93 =>
 pLoad H_34 x93 fun x94 =>
 pLenS x94 fun x95 =>
 pMin x95 (.int .i64 260) fun x96 =>
 pSlStr x92 none (some x96) fun x97 =>
 pLoadN H_34 3 m9 fun x99 =>
 CallsH Try.prog 16 #[x99, at17, x97] H_34 fun x102 H_35 =>
 pExtract 0 x102 fun x103 =>
 pExtract 1 x102 fun x104 =>
 pBox H_35 32 (.agg #[(.int .u32 0), (.slice none 0 0), (.slice none 0 0)]) fun n19 H_36 =>
 pStoreN H_36 3 n19 x103 fun _ H_37 =>
 CallsH Try.prog 17 #[x32, at17, x97] H_37 fun x108 H_38 =>
 pNe 2 x108 x104 fun x110 =>
 pCond x110
 (R (.bool false) H_38)
 (pLoadN H_38 3 n19 fun x111 =>
 pStoreN H_38 3 m9 x111 fun _ H_39 =>
 J_13 H_39)) ∧
 pFieldAddr 2 x11 fun x87 =>
 pLoad H_12 x87 fun x88 =>
 pCond x88
 (pFieldAddr 3 x11 fun x89 =>
 pLoad H_12 x89 fun x90 =>
 J_33 x90 H_12)
 (J_33 x86 H_12)))
 (R (.bool true) H_10)))
set_option maxRecDepth 100000 in
theorem lighterlaw25_RecvPlays.vc (next0 : Value) (size1 : Value) (l2 : Value) (H0 : Heap) (R : Value → Heap → Prop) (h : lighterlaw25_RecvPlays.res next0 size1 l2 H0 R) : CallsH Try.prog 3 #[next0, size1, l2] H0 R := by
  have e : vcFn Try.prog Try.C Try.f3 lighterlaw25_RecvPlays.an [next0, size1, l2] H0 R = lighterlaw25_RecvPlays.res next0 size1 l2 H0 R := by kernel_rfl
  exact vcFn_sound Try.callable Try.mixed Try.func3 (by kernel_rfl) (e.mpr h)

def lighterlaw25_RecvRefuses.an : Ann := (.seq (.reg (.op 0 [] .nil)) (.seq (.seq (.reg (.op 0 [] (.op 1 [] .nil))) (.cond (.seq (.reg (.op 0 [] .nil)) .leaf) .leaf)) (.seq (.reg (.op 0 [] (.op 1 [] (.op 2 [] (.op 3 [] (.op 4 [] (.op 5 [] (.op 6 [] (.op 7 [] .nil))))))))) (.seq (.reg (.op 0 [] (.op 1 [] (.op 2 [] (.grp 2 (.op 3 [] (.op 4 [] .nil)) 5 (.op 6 [] .nil)))))) (.seq (.reg (.op 0 [] .nil)) (.seq (.reg (.op 0 [] (.op 1 [] (.op 2 [] (.op 3 [] (.op 4 [] (.op 5 [] (.op 6 [] .nil)))))))) (.seq (.reg (.op 0 [] (.op 1 [] (.op 2 [] (.op 3 [] (.op 4 [] (.op 5 [] (.op 6 [] .nil)))))))) (.seq (.reg (.op 0 [] (.op 1 [] (.op 2 [] (.op 3 [] (.op 4 [] (.grp 4 (.op 5 [] (.op 6 [] (.op 7 [] (.op 8 [] .nil)))) 9 (.op 10 [] (.grp 10 (.op 11 [] (.op 12 [] (.grp 12 (.op 13 [] (.op 14 [] .nil)) 15 .nil))) 16 (.op 17 [] (.grp 17 (.op 18 [] (.op 19 [] .nil)) 20 (.op 21 [] (.grp 21 (.op 22 [] (.op 23 [] .nil)) 24 (.op 25 [] (.grp 25 (.op 26 [] (.op 27 [] .nil)) 28 (.op 29 [] (.grp 29 (.op 30 [] (.op 31 [] .nil)) 32 (.op 33 [] (.grp 33 (.op 34 [] (.op 35 [] (.op 36 [] .nil))) 37 (.op 38 [] (.grp 38 (.op 39 [] (.op 40 [] (.op 41 [] (.op 42 [] .nil)))) 43 (.op 44 [] .nil)))))))))))))))))))))) .leaf))))))))
/-- lighter/lighterlaw25.RecvRefuses -/
def lighterlaw25_RecvRefuses.res (next0 : Value) (size1 : Value) (H0 : Heap) (R : Value → Heap → Prop) : Prop :=
 CallsH Try.prog 11 #[] H0 fun x13 H_1 =>
 pNot x13 fun x14 =>
 pCond x14
 (R (.bool false) H_1)
 (CallsH Try.prog 12 #[next0, size1] H_1 fun x18 H_2 =>
 pExtract 0 x18 fun x19 =>
 pExtract 1 x18 fun x20 =>
 pGe size1 (.int .i64 1) fun x22 =>
 pAnd x22 (fun J_3 =>
 pLe size1 (.int .i64 32) fun x25 =>
 J_3 x25 H_2) H_2 fun x26 H_4 => ∀ _ : Env,
 CallsH Try.prog 14 #[(.pointer none)] H_4 fun x29 H_5 =>
 pExtract 0 x29 fun x30 =>
 pExtract 1 x29 fun x31 =>
 CallsH Try.prog 18 #[(.pointer none)] H_5 fun x34 H_6 =>
 pExtract 0 x34 fun x35 =>
 pExtract 1 x34 fun x36 =>
 pEq 0 x20 (.int .i64 0) fun x38 =>
 pEq 2 x38 x26 fun x40 =>
 pAnd x40 (fun J_7 =>
 pNe 3 x19 (.pointer none) fun x43 =>
 pEq 2 x43 x26 fun x45 =>
 J_7 x45 H_6) H_6 fun x46 H_8 => ∀ _ : Env,
 pAnd x46 (fun J_9 =>
 pOr x26 (fun J_11 =>
 pEq 0 x20 (.int .i64 1) fun x51 =>
 J_11 x51 H_8) H_8 fun x52 H_12 => ∀ _ : Env,
 J_9 x52 H_12) H_8 fun x53 H_10 => ∀ _ : Env,
 pAnd x53 (fun J_13 =>
 pEq 1 x30 (str []) fun x56 =>
 J_13 x56 H_10) H_10 fun x57 H_14 => ∀ _ : Env,
 pAnd x57 (fun J_15 =>
 pNot x31 fun x60 =>
 J_15 x60 H_14) H_14 fun x61 H_16 => ∀ _ : Env,
 pAnd x61 (fun J_17 =>
 pEq 0 x35 (.int .u32 0) fun x64 =>
 J_17 x64 H_16) H_16 fun x65 H_18 => ∀ _ : Env,
 pAnd x65 (fun J_19 =>
 pEq 0 x36 (.int .u32 0) fun x68 =>
 J_19 x68 H_18) H_18 fun x69 H_20 => ∀ _ : Env,
 pAnd x69 (fun J_21 =>
 CallsH Try.prog 20 #[(.pointer none)] H_20 fun x72 H_23 =>
 pEq 0 x72 (.int .i64 0) fun x73 =>
 J_21 x73 H_23) H_20 fun x74 H_22 => ∀ _ : Env,
 pAnd x74 (fun J_24 =>
 CallsH Try.prog 17 #[(.pointer none), next0, (str [])] H_22 fun x78 H_26 =>
 pNot x78 fun x79 =>
 J_24 x79 H_26) H_22 fun x80 H_25 => ∀ _ : Env,
 R x80 H_25)
set_option maxRecDepth 100000 in
theorem lighterlaw25_RecvRefuses.vc (next0 : Value) (size1 : Value) (H0 : Heap) (R : Value → Heap → Prop) (h : lighterlaw25_RecvRefuses.res next0 size1 H0 R) : CallsH Try.prog 4 #[next0, size1] H0 R := by
  have e : vcFn Try.prog Try.C Try.f4 lighterlaw25_RecvRefuses.an [next0, size1] H0 R = lighterlaw25_RecvRefuses.res next0 size1 H0 R := by kernel_rfl
  exact vcFn_sound Try.callable Try.mixed Try.func4 (by kernel_rfl) (e.mpr h)

def lighterlaw25_RecvBack.an : Ann := (.seq (.reg (.op 0 [] .nil)) (.seq (.seq (.reg (.op 0 [] (.op 1 [] .nil))) (.cond (.seq (.reg (.op 0 [] .nil)) .leaf) .leaf)) (.seq (.reg (.op 0 [] (.op 1 [] (.op 2 [] (.op 3 [] .nil))))) (.seq (.reg (.op 0 [] (.op 1 [] (.op 2 [] (.op 3 [] (.op 4 [] (.op 5 [] .nil))))))) (.seq (.reg (.op 0 [] (.op 1 [] (.op 2 [] (.op 3 [] (.op 4 [] (.op 5 [] (.op 6 [] (.op 7 [] .nil))))))))) (.seq (.seq (.reg (.op 0 [] (.op 1 [] .nil))) (.cond (.seq (.reg (.op 0 [] .nil)) .leaf) .leaf)) (.seq (.seq (.reg (.op 0 [] (.op 1 [] (.op 2 [] .nil)))) (.block (.loop [9] [6, 9, 10, 11, 37, 38, 39, 40, 41, 42, 43, 44, 45, 46, 47, 48, 49, 50, 51, 52, 53, 54, 55, 56, 57, 58, 59] (.seq (.seq (.reg (.op 0 [] (.op 1 [] .nil))) (.cond .leaf .leaf)) (.seq (.block (.seq (.seq (.reg (.op 0 [] (.op 1 [] (.op 2 [] (.op 3 [] (.op 4 [] (.op 5 [] (.op 6 [] (.op 7 [] (.op 8 [] (.op 9 [] (.op 10 [] (.op 11 [] (.op 12 [] .nil)))))))))))))) (.cond (.seq (.reg (.op 0 [] .nil)) .leaf) .leaf)) (.seq (.reg (.op 0 [] (.op 1 [] (.op 2 [] (.op 3 [] (.op 4 [] (.op 5 [] (.op 6 [] .nil)))))))) (.seq (.reg (.op 0 [] .nil)) (.cond (.seq (.reg (.op 0 [] .nil)) .leaf) .leaf))))) (.reg (.op 0 [] (.op 1 [] (.op 2 [] .nil))))))))) (.seq (.reg (.op 0 [] (.op 1 [] (.op 2 [] (.op 3 [] (.op 4 [] (.op 5 [] (.op 6 [] .nil)))))))) (.seq (.seq (.reg (.op 0 [] (.op 1 [] (.op 2 [] (.op 3 [] (.grp 3 (.op 4 [] (.op 5 [] (.op 6 [] (.op 7 [] (.op 8 [] (.op 9 [] (.op 10 [] .nil))))))) 11 (.op 12 [] (.grp 12 (.op 13 [] (.op 14 [] (.op 15 [] (.op 16 [] (.op 17 [] (.op 18 [] (.op 19 [] (.op 20 [] (.op 21 [] .nil))))))))) 22 .nil)))))))) (.cond (.seq (.reg (.op 0 [] .nil)) .leaf) .leaf)) (.seq (.reg (.op 0 [] (.op 1 [] (.op 2 [] (.op 3 [] (.op 4 [] .nil)))))) (.seq (.seq (.reg (.op 0 [] .nil)) (.block (.loop [14] [6, 14, 15, 16, 93, 94, 95, 96, 97, 98, 99, 100, 101, 102, 103, 104, 105, 106, 107, 108, 109, 110, 111, 112, 113, 114] (.seq (.seq (.reg (.op 0 [] (.op 1 [] (.op 2 [] .nil)))) (.cond .leaf .leaf)) (.seq (.block (.seq (.reg (.op 0 [] (.op 1 [] (.op 2 [] (.op 3 [] (.op 4 [] (.op 5 [] (.op 6 [] .nil)))))))) (.seq (.reg (.op 0 [] (.op 1 [] (.op 2 [] (.grp 2 (.op 3 [] (.op 4 [] (.op 5 [] (.op 6 [] (.op 7 [] (.op 8 [] (.op 9 [] (.op 10 [] .nil)))))))) 11 .nil))))) (.cond (.seq (.reg (.op 0 [] .nil)) .leaf) .leaf)))) (.reg (.op 0 [] (.op 1 [] (.op 2 [] .nil))))))))) (.seq (.reg (.op 0 [] (.op 1 [] (.op 2 [] (.op 3 [] (.op 4 [] (.op 5 [] (.op 6 [] .nil)))))))) (.seq (.reg (.op 0 [] (.op 1 [] (.op 2 [] (.op 3 [] (.op 4 [] (.op 5 [] (.op 6 [] (.grp 6 (.op 7 [] (.op 8 [] .nil)) 9 (.op 10 [] (.grp 10 (.op 11 [] (.op 12 [] (.op 13 [] .nil))) 14 (.op 15 [] .nil)))))))))))) .leaf)))))))))))))
/-- lighter/lighterlaw25.RecvBack -/
def lighterlaw25_RecvBack.res (next0 : Value) (size1 : Value) (text2 : Value) (H0 : Heap) (R : Value → Heap → Prop) : Prop :=
 CallsH Try.prog 11 #[] H0 fun x17 H_1 =>
 pNot x17 fun x18 =>
 pCond x18
 (R (.bool false) H_1)
 (pBits .and size1 (.int .i64 31) fun x20 =>
 pAdd (.int .i64 1) x20 fun x21 =>
 pLenS text2 fun x24 =>
 pMin x24 (.int .i64 50) fun x25 =>
 pSlStr text2 none (some x25) fun x26 =>
 CallsH Try.prog 12 #[next0, x21] H_1 fun x30 H_2 =>
 pExtract 0 x30 fun x31 =>
 pExtract 1 x30 fun x32 =>
 pNe 0 x32 (.int .i64 0) fun x34 =>
 pCond x34
 (R (.bool false) H_2)
 (pSub x21 (.int .i64 1) fun x36 =>
 ∃ (I_3 : Value → Heap → Prop) (m_4 : Value → Heap → Nat), I_3 x36 H_2 ∧
 ∀ _ : Env, ∀ k9 : Value, ∀ H_5 : Heap, I_3 k9 H_5 →
 pGt k9 (.int .i64 0) fun x38 =>
 pCond x38
 (pConv .u32 k9 fun x44 =>
 pAdd next0 x44 fun x45 =>
 pConv .u8 k9 fun x48 =>
 pBuildSl H_5 5 1 [(.int .u8 0)] [(0, 1, x48)] fun x49 H_6 =>
 pStrOf H_6 x49 fun x50 =>
 pAdd x26 x50 fun x51 =>
 CallsH Try.prog 17 #[x31, x45, x51] H_6 fun x52 H_7 =>
 pNot x52 fun x53 =>
 pCond x53
 (R (.bool false) H_7)
 (CallsH Try.prog 14 #[x31] H_7 fun x56 H_8 =>
 pExtract 0 x56 fun x57 =>
 pExtract 1 x56 fun x58 =>
 pCond x58
 (R (.bool false) H_8)
 (pSub k9 (.int .i64 1) fun x40 =>
 I_3 x40 H_8 ∧ m_4 x40 H_8 < m_4 k9 H_5)))
 (CallsH Try.prog 18 #[x31] H_5 fun x62 H_9 =>
 pExtract 0 x62 fun x63 =>
 pExtract 1 x62 fun x64 =>
 pNe 0 x63 next0 fun x67 =>
 pOr x67 (fun J_10 =>
 pConv .u64 x64 fun x70 =>
 pSub x21 (.int .i64 1) fun x72 =>
 pShl (.int .u64 1) x72 fun x73 =>
 pSub x73 (.int .u64 1) fun x74 =>
 pNe 0 x70 x74 fun x75 =>
 J_10 x75 H_9) H_9 fun x76 H_11 => ∀ _ : Env,
 pOr x76 (fun J_12 =>
 CallsH Try.prog 20 #[x31] H_11 fun x79 H_14 =>
 pSub x21 (.int .i64 1) fun x81 =>
 pLenS x26 fun x83 =>
 pAdd x83 (.int .i64 1) fun x84 =>
 pMul x81 x84 fun x85 =>
 pNe 0 x79 x85 fun x86 =>
 J_12 x86 H_14) H_11 fun x87 H_13 => ∀ _ : Env,
 pCond x87
 (R (.bool false) H_13)
 (pAdd x26 (str [0]) fun x91 =>
 CallsH Try.prog 17 #[x31, next0, x91] H_13 fun x92 H_15 =>
 ∃ (I_16 : Value → Heap → Prop) (m_17 : Value → Heap → Nat), I_16 (.int .i64 0) H_15 ∧
 ∀ _ : Env, ∀ k14 : Value, ∀ H_18 : Heap, I_16 k14 H_18 →
 pLt k14 x21 fun x95 =>
 pCond x95
 (CallsH Try.prog 14 #[x31] H_18 fun x100 H_19 =>
 pExtract 0 x100 fun x101 =>
 pExtract 1 x100 fun x102 =>
 pNot x102 fun x104 =>
 pOr x104 (fun J_20 =>
 pConv .u8 k14 fun x109 =>
 pBuildSl H_19 5 1 [(.int .u8 0)] [(0, 1, x109)] fun x110 H_22 =>
 pStrOf H_22 x110 fun x111 =>
 pAdd x26 x111 fun x112 =>
 pNe 1 x101 x112 fun x113 =>
 J_20 x113 H_22) H_19 fun x114 H_21 => ∀ _ : Env,
 pCond x114
 (R (.bool false) H_21)
 (pAdd k14 (.int .i64 1) fun x97 =>
 I_16 x97 H_21 ∧ m_17 x97 H_21 < m_17 k14 H_18))
 (CallsH Try.prog 18 #[x31] H_18 fun x117 H_23 =>
 pExtract 0 x117 fun x118 =>
 pExtract 1 x117 fun x119 =>
 pConv .u32 x21 fun x123 =>
 pAdd next0 x123 fun x124 =>
 pEq 0 x118 x124 fun x125 =>
 pAnd x125 (fun J_24 =>
 pEq 0 x119 (.int .u32 0) fun x128 =>
 J_24 x128 H_23) H_23 fun x129 H_25 => ∀ _ : Env,
 pAnd x129 (fun J_26 =>
 CallsH Try.prog 20 #[x31] H_25 fun x132 H_28 =>
 pEq 0 x132 (.int .i64 0) fun x133 =>
 J_26 x133 H_28) H_25 fun x134 H_27 => ∀ _ : Env,
 R x134 H_27)))))
set_option maxRecDepth 100000 in
theorem lighterlaw25_RecvBack.vc (next0 : Value) (size1 : Value) (text2 : Value) (H0 : Heap) (R : Value → Heap → Prop) (h : lighterlaw25_RecvBack.res next0 size1 text2 H0 R) : CallsH Try.prog 5 #[next0, size1, text2] H0 R := by
  have e : vcFn Try.prog Try.C Try.f5 lighterlaw25_RecvBack.an [next0, size1, text2] H0 R = lighterlaw25_RecvBack.res next0 size1 text2 H0 R := by kernel_rfl
  exact vcFn_sound Try.callable Try.mixed Try.func5 (by kernel_rfl) (e.mpr h)

def lighterlaw25_RecvAll.an : Ann := (.seq (.reg (.op 0 [] (.op 1 [] .nil))) (.seq (.seq (.reg (.op 0 [] (.op 1 [] .nil))) (.cond (.seq (.reg (.op 0 [] .nil)) .leaf) .leaf)) (.seq (.drw [0, 1, 3, 0, 8, 24, 56, 7, 255] (.op 0 [] (.op 1 [] (.op 2 [] (.op 3 [] (.op 4 [] (.op 5 [] (.op 6 [] (.op 7 [] (.op 8 [] .nil)))))))))) (.seq (.reg (.op 0 [] (.op 1 [] (.op 2 [] (.op 3 [] (.op 4 [] (.op 5 [] (.op 6 [] (.op 7 [] (.op 8 [] .nil)))))))))) (.seq (.reg (.op 0 [] (.op 1 [] (.op 2 [] (.op 3 [] (.op 4 [] (.op 5 [] (.op 6 [] (.op 7 [] .nil))))))))) (.seq (.reg (.op 0 [] .nil)) (.seq (.seq (.reg (.op 0 [] .nil)) (.block (.loop [13, 14] [6, 13, 14, 15, 16, 17, 18, 41, 42, 43, 44, 45, 46, 47, 48, 49, 50, 51, 52, 53, 54, 55, 56, 57, 58, 59, 60, 61, 62, 63, 64, 65, 66, 67, 68, 69, 70, 71, 72, 73, 74, 75, 76, 77, 78, 79, 80, 81, 82, 83, 84, 85, 86, 87, 88, 89, 90, 91, 92, 93, 94, 95, 96, 97, 98, 99, 100, 101, 102, 103, 104, 105, 106, 107, 108, 109, 110, 111, 112, 113, 114, 115, 116, 117, 118, 119, 120, 121, 122, 123, 124, 125, 126, 127, 128, 129, 130, 131, 132, 133] (.seq (.seq (.reg (.op 0 [] (.op 1 [] (.op 2 [] (.grp 2 (.op 3 [] (.op 4 [] (.op 5 [] .nil))) 6 .nil))))) (.cond .leaf .leaf)) (.cut [13] [6, 13, 15, 16, 17, 18, 50, 51, 52, 53, 54, 55, 56, 57, 58, 59, 60, 61, 62, 63, 64, 65, 66, 67, 68, 69, 70, 71, 72, 73, 74, 75, 76, 77, 78, 79, 80, 81, 82, 83, 84, 85, 86, 87, 88, 89, 90, 91, 92, 93, 94, 95, 96, 97, 98, 99, 100, 101, 102, 103, 104, 105, 106, 107, 108, 109, 110, 111, 112, 113, 114, 115, 116, 117, 118, 119, 120, 121, 122, 123, 124, 125, 126, 127, 128, 129, 130, 131, 132, 133] (.block (.seq (.reg (.op 0 [] (.op 1 [] .nil))) (.seq (.reg (.op 0 [] (.op 1 [] (.op 2 [] .nil)))) (.seq (.seq (.reg (.op 0 [] (.op 1 [] (.op 2 [] .nil)))) (.cond (.seq (.reg (.op 0 [] .nil)) .leaf) .leaf)) (.seq (.reg (.op 0 [] .nil)) (.cut [16] [16, 57, 58, 59, 60, 61, 62, 63, 64, 65, 66, 67, 68, 69, 70, 71, 72, 73, 74, 75, 76, 77] (.seq (.reg (.op 0 [] (.op 1 [] (.op 2 [] (.op 3 [] (.op 4 [] (.grp 4 (.op 5 [] (.op 6 [] .nil)) 7 .nil))))))) (.cond (.reg (.op 0 [] (.op 1 [] (.op 2 [] (.op 3 [] (.op 4 [] (.op 5 [] (.op 6 [] (.op 7 [] (.op 8 [] (.op 9 [] (.op 10 [] (.op 11 [] (.op 12 [] (.op 13 [] .nil))))))))))))))) .leaf)) (.seq (.drw [0, 0, 0, 6, 14, 0, 0, 96, 224, 0, 992, 2016, 4064, 8160, 16383] (.op 0 [] (.op 1 [] (.op 2 [] (.op 3 [] (.op 4 [] (.op 5 [] (.op 6 [] (.op 7 [] (.op 8 [] (.op 9 [] (.op 10 [] (.op 11 [] (.op 12 [4] (.op 13 [] (.op 14 [] .nil)))))))))))))))) (.seq (.seq (.reg (.op 0 [] (.op 1 [] (.op 2 [] (.op 3 [] (.op 4 [] (.op 5 [] (.op 6 [] .nil)))))))) (.block (.loop [13, 17, 18] [6, 13, 17, 18, 98, 99, 100, 101, 102, 103, 104, 105, 106, 107, 108, 109, 110, 111] (.seq (.seq (.reg (.op 0 [] .nil)) (.cond .leaf .leaf)) (.seq (.block (.seq (.seq (.reg (.op 0 [] (.op 1 [] (.op 2 [] (.op 3 [] (.op 4 [] (.op 5 [] .nil))))))) (.cond (.seq (.reg (.op 0 [] .nil)) .leaf) .leaf)) (.reg (.op 0 [] (.op 1 [] (.op 2 [] .nil)))))) (.reg (.op 0 [] (.op 1 [] (.op 2 [] (.op 3 [] (.op 4 [] (.op 5 [] (.op 6 [] .nil))))))))))))) (.seq (.seq (.reg (.op 0 [] (.op 1 [] (.op 2 [] (.op 3 [] (.op 4 [] (.grp 4 (.op 5 [] (.op 6 [] (.op 7 [] (.op 8 [] (.op 9 [] (.op 10 [] .nil)))))) 11 (.op 12 [] (.grp 12 (.op 13 [] (.op 14 [] .nil)) 15 .nil))))))))) (.cond .leaf .leaf)) (.reg (.op 0 [] (.op 1 [] (.op 2 [] (.op 3 [] (.op 4 [] (.op 5 [] .nil)))))))))))))))) (.reg (.op 0 [] (.op 1 [] (.op 2 [] .nil))))))))) (.seq (.reg (.op 0 [] (.op 1 [] (.op 2 [] (.grp 2 (.op 3 [] (.op 4 [] (.op 5 [] .nil))) 6 (.op 7 [] (.grp 7 (.op 8 [] (.op 9 [] (.op 10 [] .nil))) 11 (.op 12 [] .nil)))))))) .leaf))))))))
/-- lighter/lighterlaw25.RecvAll -/
def lighterlaw25_RecvAll.res (first0 : Value) (plan1 : Value) (picks2 : Value) (H0 : Heap) (R : Value → Heap → Prop) : Prop :=
 pBox H0 53 plan1 fun plan4 H_1 =>
 CallsH Try.prog 11 #[] H_1 fun x19 H_2 =>
 pNot x19 fun x20 =>
 pCond x20
 (R (.bool false) H_2)
 (pIdxArr 2 1 plan4 (.int .i64 0) fun x21 =>
 pLoad H_2 x21 fun x22 =>
 pBits .and x22 (.int .i64 31) fun x23 =>
 pIdxArr 2 1 plan4 (.int .i64 1) fun x24 =>
 pLoad H_2 x24 fun x25 =>
 pBits .and x25 (.int .i64 31) fun x26 =>
 pAdd (.int .i64 1) x26 fun x27 =>
 CallsH Try.prog 23 #[first0, x23, x27] H_2 fun x32 H_3 =>
 pExtract 0 x32 fun x33 =>
 pExtract 1 x32 fun x34 =>
 CallsH Try.prog 12 #[first0, x27] H_3 fun x38 H_4 =>
 pExtract 0 x38 fun x39 =>
 pExtract 1 x38 fun x40 =>
 ∃ (I_5 : Value → Value → Heap → Prop) (m_6 : Value → Value → Heap → Nat), I_5 (.int .i64 0) (.int .i64 0) H_4 ∧
 ∀ _ : Env, ∀ got13 : Value, ∀ i14 : Value, ∀ H_7 : Heap, I_5 got13 i14 H_7 →
 pLt i14 (.int .i64 400) fun x42 =>
 pAnd x42 (fun J_8 =>
 CallsH Try.prog 24 #[x33] H_7 fun x45 H_10 =>
 pNot x45 fun x46 =>
 J_8 x46 H_10) H_7 fun x47 H_9 => ∀ _ : Env,
 pCond x47
 (∃ J_11 : Value → Heap → Prop, (∀ _ : Env, ∀ got13' : Value, ∀ H_12 : Heap, J_11 got13' H_12 →
 pAdd i14 (.int .i64 1) fun x49 =>
 I_5 got13' x49 H_12 ∧ m_6 got13' x49 H_12 < m_6 got13 i14 H_7) ∧
 CallsH Try.prog 25 #[x33] H_9 fun x51 H_13 =>
 CallsH Try.prog 26 #[x33] H_13 fun x53 H_14 =>
 pLen x53 fun x55 =>
 pEq 0 x55 (.int .i64 0) fun x56 =>
 pCond x56
 (R (.bool false) H_14)
 (∃ J_15 : Value → Heap → Prop, (∀ _ : Env, ∀ k16 : Value, ∀ H_16 : Heap, J_15 k16 H_16 →
 pIdxSl 1 x53 k16 fun x81 =>
 pLoad H_16 x81 fun x82 =>
 pIdxSl 1 x53 k16 fun x85 =>
 pLoad H_16 x85 fun x86 =>
 pSub x86 first0 fun x88 =>
 pConv .u8 x88 fun x89 =>
 pBuildSl H_16 5 1 [(.int .u8 0)] [(0, 1, x89)] fun x90 H_17 =>
 (pLoad H_17 x81 fun r_ =>
 r_ = x82) ∧
 pStrOf H_17 x90 fun x91 =>
 CallsH Try.prog 17 #[x39, x82, x91] H_17 fun x92 H_18 =>
 CallsH Try.prog 14 #[x39] H_18 fun x95 H_19 =>
 pExtract 0 x95 fun x96 =>
 pExtract 1 x95 fun x97 =>
 ∃ (I_20 : Value → Value → Value → Heap → Prop) (m_21 : Value → Value → Value → Heap → Nat), I_20 got13 x96 x97 H_19 ∧
 ∀ _ : Env, ∀ got13'' : Value, ∀ s17 : Value, ∀ ok18 : Value, ∀ H_22 : Heap, I_20 got13'' s17 ok18 H_22 →
 pCond ok18
 (pConv .u8 got13'' fun x106 =>
 pBuildSl H_22 5 1 [(.int .u8 0)] [(0, 1, x106)] fun x107 H_23 =>
 pStrOf H_23 x107 fun x108 =>
 pNe 1 s17 x108 fun x109 =>
 pCond x109
 (R (.bool false) H_23)
 (pAdd got13'' (.int .i64 1) fun x111 =>
 CallsH Try.prog 14 #[x39] H_23 fun x101 H_24 =>
 pExtract 0 x101 fun x102 =>
 pExtract 1 x101 fun x103 =>
 I_20 x111 x102 x103 H_24 ∧ m_21 x111 x102 x103 H_24 < m_21 got13'' s17 ok18 H_22))
 (pLen picks2 fun x114 =>
 pLt i14 x114 fun x115 =>
 pAnd x115 (fun J_25 =>
 pIdxSl 1 picks2 i14 fun x119 =>
 pLoad H_22 x119 fun x120 =>
 pBits .and x120 (.int .i64 64) fun x121 =>
 pGt x121 (.int .i64 0) fun x122 =>
 J_25 x122 H_22) H_22 fun x123 H_26 => ∀ _ : Env,
 pAnd x123 (fun J_27 =>
 pLt i14 (.int .i64 150) fun x126 =>
 J_27 x126 H_26) H_26 fun x127 H_28 => ∀ _ : Env,
 pCond x127
 (J_11 got13'' H_28)
 (CallsH Try.prog 18 #[x39] H_28 fun x130 H_29 =>
 pExtract 0 x130 fun x131 =>
 pExtract 1 x130 fun x132 =>
 CallsH Try.prog 28 #[x33, x131, x132] H_29 fun x133 H_30 =>
 J_11 got13'' H_30))) ∧
 pLen picks2 fun x59 =>
 pLt i14 x59 fun x60 =>
 pAnd x60 (fun J_31 =>
 pLt i14 (.int .i64 150) fun x63 =>
 J_31 x63 H_14) H_14 fun x64 H_32 => ∀ _ : Env,
 pCond x64
 (pIdxSl 1 picks2 i14 fun x67 =>
 pLoad H_32 x67 fun x68 =>
 pLen x53 fun x70 =>
 pRem x68 x70 fun x71 =>
 pLen x53 fun x73 =>
 pAdd x71 x73 fun x74 =>
 pLen x53 fun x76 =>
 pRem x74 x76 fun x77 =>
 J_15 x77 H_32)
 (J_15 (.int .i64 0) H_32)))
 (CallsH Try.prog 24 #[x33] H_9 fun x135 H_33 =>
 pAnd x135 (fun J_34 =>
 pEq 0 got13 x23 fun x139 =>
 J_34 x139 H_33) H_33 fun x140 H_35 => ∀ _ : Env,
 pAnd x140 (fun J_36 =>
 CallsH Try.prog 20 #[x39] H_35 fun x143 H_38 =>
 pEq 0 x143 (.int .i64 0) fun x144 =>
 J_36 x144 H_38) H_35 fun x145 H_37 => ∀ _ : Env,
 R x145 H_37))
set_option maxRecDepth 100000 in
theorem lighterlaw25_RecvAll.vc (first0 : Value) (plan1 : Value) (picks2 : Value) (H0 : Heap) (R : Value → Heap → Prop) (h : lighterlaw25_RecvAll.res first0 plan1 picks2 H0 R) : CallsH Try.prog 10 #[first0, plan1, picks2] H0 R := by
  have e : vcFn Try.prog Try.C Try.f10 lighterlaw25_RecvAll.an [first0, plan1, picks2] H0 R = lighterlaw25_RecvAll.res first0 plan1 picks2 H0 R := by kernel_rfl
  exact vcFn_sound Try.callable Try.mixed Try.func10 (by kernel_rfl) (e.mpr h)

def lighterlaw25_speaks.an : Ann := (.seq (.reg (.op 0 [] .nil)) (.seq (.reg (.op 0 [] (.op 1 [] (.op 2 [] (.op 3 [] (.op 4 [] (.op 5 [] .nil))))))) (.seq (.reg (.op 0 [] (.op 1 [] (.op 2 [] .nil)))) (.seq (.reg (.op 0 [] (.op 1 [] (.op 2 [] (.op 3 [] (.op 4 [] (.op 5 [] (.op 6 [] .nil)))))))) (.seq (.reg (.op 0 [] (.op 1 [] (.op 2 [] .nil)))) (.seq (.reg (.op 0 [] (.op 1 [] (.op 2 [] (.op 3 [] (.op 4 [] (.op 5 [] (.op 6 [] .nil)))))))) (.seq (.reg (.op 0 [] (.op 1 [] (.op 2 [] (.op 3 [] (.op 4 [] (.op 5 [] (.op 6 [] .nil)))))))) (.seq (.reg (.op 0 [] (.op 1 [] (.op 2 [] (.grp 2 (.op 3 [] .nil) 4 (.op 5 [] (.grp 5 (.op 6 [] .nil) 7 (.op 8 [] (.grp 8 (.op 9 [] (.op 10 [] .nil)) 11 (.op 12 [] (.grp 12 (.op 13 [] (.op 14 [] .nil)) 15 (.op 16 [] (.grp 16 (.op 17 [] (.op 18 [] .nil)) 19 (.op 20 [] (.grp 20 (.op 21 [] (.op 22 [] .nil)) 23 (.op 24 [] (.grp 24 (.op 25 [] (.op 26 [] (.op 27 [] .nil))) 28 (.op 29 [] .nil)))))))))))))))))) .leaf))))))))
/-- lighter/lighterlaw25.speaks -/
def lighterlaw25_speaks.res (H0 : Heap) (R : Value → Heap → Prop) : Prop :=
 CallsH Try.prog 12 #[(.int .u32 5), (.int .i64 4)] H0 fun x12 H_1 =>
 pExtract 0 x12 fun x13 =>
 pExtract 1 x12 fun x14 =>
 CallsH Try.prog 17 #[x13, (.int .u32 6), (str [98])] H_1 fun x16 H_2 =>
 CallsH Try.prog 18 #[x13] H_2 fun x19 H_3 =>
 pExtract 0 x19 fun x20 =>
 pExtract 1 x19 fun x21 =>
 CallsH Try.prog 17 #[x13, (.int .u32 5), (str [97])] H_3 fun x23 H_4 =>
 CallsH Try.prog 14 #[x13] H_4 fun x26 H_5 =>
 pExtract 0 x26 fun x27 =>
 pExtract 1 x26 fun x28 =>
 CallsH Try.prog 14 #[x13] H_5 fun x31 H_6 =>
 pExtract 0 x31 fun x32 =>
 pExtract 1 x31 fun x33 =>
 pEq 0 x14 (.int .i64 0) fun x35 =>
 pAnd x35 (fun J_7 =>
 J_7 x16 H_6) H_6 fun x38 H_8 => ∀ _ : Env,
 pAnd x38 (fun J_9 =>
 J_9 x23 H_8) H_8 fun x41 H_10 => ∀ _ : Env,
 pAnd x41 (fun J_11 =>
 pEq 0 x20 (.int .u32 5) fun x44 =>
 J_11 x44 H_10) H_10 fun x45 H_12 => ∀ _ : Env,
 pAnd x45 (fun J_13 =>
 pEq 0 x21 (.int .u32 1) fun x48 =>
 J_13 x48 H_12) H_12 fun x49 H_14 => ∀ _ : Env,
 pAnd x49 (fun J_15 =>
 pEq 1 x27 (str [97]) fun x52 =>
 J_15 x52 H_14) H_14 fun x53 H_16 => ∀ _ : Env,
 pAnd x53 (fun J_17 =>
 pEq 1 x32 (str [98]) fun x56 =>
 J_17 x56 H_16) H_16 fun x57 H_18 => ∀ _ : Env,
 pAnd x57 (fun J_19 =>
 CallsH Try.prog 20 #[x13] H_18 fun x60 H_21 =>
 pEq 0 x60 (.int .i64 0) fun x61 =>
 J_19 x61 H_21) H_18 fun x62 H_20 => ∀ _ : Env,
 R x62 H_20
set_option maxRecDepth 100000 in
theorem lighterlaw25_speaks.vc (H0 : Heap) (R : Value → Heap → Prop) (h : lighterlaw25_speaks.res H0 R) : CallsH Try.prog 11 #[] H0 R := by
  have e : vcFn Try.prog Try.C Try.f11 lighterlaw25_speaks.an [] H0 R = lighterlaw25_speaks.res H0 R := by kernel_rfl
  exact vcFn_sound Try.callable Try.mixed Try.func11 (by kernel_rfl) (e.mpr h)

end Go.Proofs.Ytmolkhfohpfhaaa
