/- The residuals of package lighterlaw20's functions, printed by resid.py. -/
import Derived.Test.YtdaolhlfngfmgaaVcSeat
namespace Go.Proofs.Ytdaolhlfngfmgaa
open Go Go.Vc Go.Proofs
set_option linter.unusedVariables false
set_option maxHeartbeats 4000000
def lighterlaw20_KeepSpoilt.an : Ann := (.seq (.reg (.op 0 [] .nil)) (.seq (.seq (.reg (.op 0 [] (.op 1 [] .nil))) (.cond (.seq (.reg (.op 0 [] .nil)) .leaf) .leaf)) (.seq (.reg (.op 0 [] (.op 1 [] (.op 2 [] (.op 3 [] (.op 4 [] (.op 5 [] (.op 6 [] .nil)))))))) (.seq (.reg (.op 0 [] (.op 1 [] (.op 2 [] (.op 3 [] (.op 4 [] (.op 5 [] .nil))))))) (.seq (.reg (.op 0 [] (.op 1 [] (.op 2 [] (.op 3 [] (.op 4 [] (.op 5 [] (.op 6 [] .nil)))))))) (.seq (.seq (.reg (.op 0 [] (.op 1 [] (.op 2 [] (.op 3 [] .nil))))) (.cond (.seq (.reg (.op 0 [] .nil)) .leaf) .leaf)) (.seq (.reg (.op 0 [] (.op 1 [] (.op 2 [] (.op 3 [] (.op 4 [] (.op 5 [] (.op 6 [] (.op 7 [] (.op 8 [] (.op 9 [] (.op 10 [] .nil)))))))))))) (.seq (.reg (.op 0 [] (.op 1 [] (.op 2 [] (.op 3 [] (.op 4 [] (.op 5 [] (.op 6 [] (.op 7 [] (.op 8 [] (.op 9 [] .nil))))))))))) (.seq (.reg (.op 0 [] (.op 1 [] (.op 2 [] .nil)))) (.seq (.reg (.op 0 [] (.op 1 [] (.op 2 [] (.op 3 [] (.op 4 [] (.op 5 [] (.op 6 [] (.op 7 [] .nil))))))))) (.seq (.reg (.op 0 [] (.op 1 [] (.op 2 [] (.op 3 [] (.op 4 [] (.op 5 [] (.op 6 [] .nil)))))))) (.seq (.reg (.op 0 [] (.op 1 [] (.op 2 [] (.op 3 [] (.op 4 [] (.op 5 [] (.op 6 [] .nil)))))))) (.seq (.reg (.op 0 [] (.op 1 [] (.op 2 [] (.grp 2 (.op 3 [] (.op 4 [] .nil)) 5 (.op 6 [] .nil)))))) .leaf)))))))))))))
/-- lighter/lighterlaw20.KeepSpoilt -/
def lighterlaw20_KeepSpoilt.res (text0 : Value) (at1 : Value) (H0 : Heap) (R : Value → Heap → Prop) : Prop :=
 CallsH Try.prog 6 #[] H0 fun x15 H_1 =>
 pNot x15 fun x16 =>
 pCond x16
 (R (.bool false) H_1)
 (pLenS text0 fun x19 =>
 pMin x19 (.int .i64 200) fun x20 =>
 pSlStr text0 none (some x20) fun x21 =>
 pAdd x21 (str [120]) fun x22 =>
 CallsH Try.prog 7 #[(.int .i64 16)] H_1 fun x24 H_2 =>
 pExtract 0 x24 fun x25 =>
 pExtract 1 x24 fun x26 =>
 CallsH Try.prog 8 #[x25] H_2 fun x29 H_3 =>
 pExtract 0 x29 fun x30 =>
 pExtract 1 x29 fun x31 =>
 CallsH Try.prog 9 #[x30, x22] H_3 fun x34 H_4 =>
 pNe 0 x34 (.int .i64 0) fun x35 =>
 pCond x35
 (R (.bool false) H_4)
 (pLenS x22 fun x38 =>
 pRem at1 x38 fun x39 =>
 pLenS x22 fun x41 =>
 pAdd x39 x41 fun x42 =>
 pLenS x22 fun x44 =>
 pRem x42 x44 fun x45 =>
 pQuo x45 (.int .i64 64) fun x49 =>
 pAdd (.int .i64 8) x49 fun x50 =>
 CallsH Try.prog 10 #[x25, x50] H_4 fun x51 H_5 =>
 pExtract 0 x51 fun x52 =>
 pExtract 1 x51 fun x53 =>
 pBytes H_5 5 x52 fun x55 H_6 =>
 pRem x45 (.int .i64 64) fun x58 =>
 pIdxSl 1 x55 x58 fun x59 =>
 pLoad H_6 x59 fun x60 =>
 pBits .xor x60 (.int .u8 1) fun x61 =>
 pIdxSl 1 x55 x58 fun x62 =>
 pStore H_6 x62 x61 fun _ H_7 =>
 pQuo x45 (.int .i64 64) fun x65 =>
 pAdd (.int .i64 8) x65 fun x66 =>
 pStrOf H_7 x55 fun x68 =>
 CallsH Try.prog 11 #[x25, x66, x68] H_7 fun x69 H_8 =>
 CallsH Try.prog 8 #[x25] H_8 fun x72 H_9 =>
 pExtract 0 x72 fun x73 =>
 pExtract 1 x72 fun x74 =>
 pEq 0 x74 (.int .i64 7) fun x76 =>
 pAnd x76 (fun J_10 =>
 pEq 3 x73 (.pointer none) fun x79 =>
 J_10 x79 H_9) H_9 fun x80 H_11 => ∀ _ : Env,
 R x80 H_11))
set_option maxRecDepth 100000 in
theorem lighterlaw20_KeepSpoilt.vc (text0 : Value) (at1 : Value) (H0 : Heap) (R : Value → Heap → Prop) (h : lighterlaw20_KeepSpoilt.res text0 at1 H0 R) : CallsH Try.prog 3 #[text0, at1] H0 R := by
  have e : vcFn Try.prog Try.C Try.f3 lighterlaw20_KeepSpoilt.an [text0, at1] H0 R = lighterlaw20_KeepSpoilt.res text0 at1 H0 R := by kernel_rfl
  exact vcFn_sound Try.callable Try.mixed Try.func3 (by kernel_rfl) (e.mpr h)

def lighterlaw20_KeepAgain.an : Ann := (.seq (.reg (.op 0 [] .nil)) (.seq (.seq (.reg (.op 0 [] (.op 1 [] .nil))) (.cond (.seq (.reg (.op 0 [] .nil)) .leaf) .leaf)) (.seq (.reg (.op 0 [] (.op 1 [] (.op 2 [] (.op 3 [] (.op 4 [] (.op 5 [] .nil))))))) (.seq (.reg (.op 0 [] (.op 1 [] (.op 2 [] (.op 3 [] (.op 4 [] (.op 5 [] .nil))))))) (.seq (.reg (.op 0 [] (.op 1 [] (.op 2 [] .nil)))) (.seq (.seq (.reg (.op 0 [] .nil)) (.block (.loop [9] [6, 9, 10, 11, 30, 31, 32, 33, 34, 35, 36, 37, 38, 39, 40, 41, 42, 43, 44, 45, 46, 47, 48, 49, 50, 51, 52, 53, 54] (.seq (.seq (.reg (.op 0 [] (.op 1 [] (.op 2 [] .nil)))) (.cond .leaf .leaf)) (.seq (.block (.seq (.reg (.op 0 [] (.op 1 [] (.op 2 [] (.op 3 [] (.op 4 [] (.op 5 [] (.op 6 [] .nil)))))))) (.seq (.reg (.op 0 [] (.op 1 [] (.op 2 [] (.grp 2 (.op 3 [] (.op 4 [] (.op 5 [] .nil))) 6 (.op 7 [] (.grp 7 (.op 8 [] (.op 9 [] (.op 10 [] (.op 11 [] (.op 12 [] (.op 13 [] .nil)))))) 14 .nil))))))) (.cond (.seq (.reg (.op 0 [] .nil)) .leaf) .leaf)))) (.reg (.op 0 [] (.op 1 [] (.op 2 [] .nil))))))))) (.seq (.reg (.op 0 [] (.op 1 [] (.op 2 [] (.op 3 [] (.op 4 [] (.op 5 [] (.op 6 [] .nil)))))))) (.seq (.seq (.reg (.op 0 [] .nil)) (.block (.loop [14] [6, 14, 60, 61, 62, 63, 64, 65, 66, 67, 68, 69, 70, 71, 72, 73, 74, 75, 76, 77, 78, 79, 80, 81, 82, 83, 84, 85, 86, 87, 88, 89, 90, 91, 92, 93, 94, 95, 96, 97, 98, 99, 100, 101, 102] (.seq (.seq (.reg (.op 0 [] (.op 1 [] (.op 2 [] (.op 3 [] (.op 4 [] (.grp 4 (.op 5 [] (.op 6 [] .nil)) 7 .nil))))))) (.cond .leaf .leaf)) (.seq (.block (.seq (.drw [0, 0, 0, 6, 14, 31, 63, 127, 255, 511, 255, 255, 3327, 7423, 255, 16639, 64767, 131071, 262143, 524287, 1048575, 1048575, 4194303, 8388607, 16777215, 33554431, 67108863, 134217727, 268435455, 67108863, 603979775, 2147483647, 4294967295] (.op 0 [] (.op 1 [] (.op 2 [] (.op 3 [] (.op 4 [] (.op 5 [] (.op 6 [] (.op 7 [] (.grp 7 (.op 8 [] (.op 10 [] (.op 11 [] (.op 12 [] (.op 13 [] (.op 14 [] (.op 15 [] (.op 16 [] (.op 9 [13] (.op 17 [] .nil)))))))))) 18 (.op 19 [] (.grp 19 (.op 20 [] (.op 21 [] (.op 22 [] (.op 23 [] .nil)))) 24 (.op 25 [] (.grp 25 (.op 26 [] (.op 29 [] (.op 30 [] (.op 27 [] (.op 28 [] (.op 31 [] .nil)))))) 32 .nil)))))))))))))) (.cond (.seq (.reg (.op 0 [] .nil)) .leaf) .leaf))) (.reg (.op 0 [] (.op 1 [] (.op 2 [] .nil))))))))) (.seq (.reg (.op 0 [] (.op 1 [] (.op 2 [] (.op 3 [] (.op 4 [] (.op 5 [] (.op 6 [] .nil)))))))) (.seq (.reg (.op 0 [] (.op 1 [] (.op 2 [] (.grp 2 (.op 3 [] (.op 4 [] (.op 5 [] (.op 6 [] (.op 7 [] .nil))))) 8 (.op 9 [] .nil)))))) .leaf))))))))))
/-- lighter/lighterlaw20.KeepAgain -/
def lighterlaw20_KeepAgain.res (sessions0 : Value) (starts1 : Value) (text2 : Value) (H0 : Heap) (R : Value → Heap → Prop) : Prop :=
 CallsH Try.prog 6 #[] H0 fun x17 H_1 =>
 pNot x17 fun x18 =>
 pCond x18
 (R (.bool false) H_1)
 (pLenS text2 fun x21 =>
 pMin x21 (.int .i64 60) fun x22 =>
 pSlStr text2 none (some x22) fun x23 =>
 CallsH Try.prog 7 #[(.int .i64 12)] H_1 fun x25 H_2 =>
 pExtract 0 x25 fun x26 =>
 pExtract 1 x25 fun x27 =>
 pBits .and starts1 (.int .i64 7) fun x29 =>
 ∃ (I_3 : Value → Heap → Prop) (m_4 : Value → Heap → Nat), I_3 (.int .i64 1) H_2 ∧
 ∀ _ : Env, ∀ i9 : Value, ∀ H_5 : Heap, I_3 i9 H_5 →
 pLe i9 x29 fun x32 =>
 pCond x32
 (CallsH Try.prog 8 #[x26] H_5 fun x37 H_6 =>
 pExtract 0 x37 fun x38 =>
 pExtract 1 x37 fun x39 =>
 pNe 0 x39 (.int .i64 0) fun x41 =>
 pOr x41 (fun J_7 =>
 CallsH Try.prog 12 #[x38] H_6 fun x44 H_9 =>
 pNe 0 x44 (.int .i64 0) fun x45 =>
 J_7 x45 H_9) H_6 fun x46 H_8 => ∀ _ : Env,
 pOr x46 (fun J_10 =>
 CallsH Try.prog 13 #[x38] H_8 fun x49 H_12 =>
 pField1 1 x49 fun x50 =>
 pConv .u32 i9 fun x52 =>
 pNe 0 x50 x52 fun x53 =>
 J_10 x53 H_12) H_8 fun x54 H_11 => ∀ _ : Env,
 pCond x54
 (R (.bool false) H_11)
 (pAdd i9 (.int .i64 1) fun x34 =>
 I_3 x34 H_11 ∧ m_4 x34 H_11 < m_4 i9 H_5))
 (CallsH Try.prog 8 #[x26] H_5 fun x57 H_13 =>
 pExtract 0 x57 fun x58 =>
 pExtract 1 x57 fun x59 =>
 ∃ (I_14 : Value → Heap → Prop) (m_15 : Value → Heap → Nat), I_14 (.int .i64 0) H_13 ∧
 ∀ _ : Env, ∀ i14 : Value, ∀ H_16 : Heap, I_14 i14 H_16 →
 pLen sessions0 fun x62 =>
 pLt i14 x62 fun x63 =>
 pAnd x63 (fun J_17 =>
 pLt i14 (.int .i64 8) fun x66 =>
 J_17 x66 H_16) H_16 fun x67 H_18 => ∀ _ : Env,
 pCond x67
 (pIdxSl 1 sessions0 i14 fun x73 =>
 pLoad H_18 x73 fun x74 =>
 CallsH Try.prog 14 #[x58, x74] H_18 fun x75 H_19 =>
 pNe 0 x75 (.int .i64 0) fun x76 =>
 pOr x76 (fun J_20 =>
 pIdxSl 1 sessions0 i14 fun x82 =>
 pLoad H_19 x82 fun x83 =>
 pConv .u32 x29 fun x85 =>
 pBuild [(.int .u32 0), (.int .u32 0), (.int .i64 0), (.int .u32 0), (.bool false)] [(0, 1, x83), (1, 1, x85)] fun x86 =>
 CallsH Try.prog 13 #[x58] H_19 fun x79 H_22 =>
 (pLoad H_22 x82 fun r_ =>
 r_ = x83) ∧
 pNeA [0, 0, 0, 0, 2] x79 x86 fun x87 =>
 J_20 x87 H_22) H_19 fun x88 H_21 => ∀ _ : Env,
 pOr x88 (fun J_23 =>
 CallsH Try.prog 9 #[x58, x23] H_21 fun x92 H_25 =>
 pNe 0 x92 (.int .i64 0) fun x93 =>
 J_23 x93 H_25) H_21 fun x94 H_24 => ∀ _ : Env,
 pOr x94 (fun J_26 =>
 pLenS x23 fun x100 =>
 CallsH Try.prog 13 #[x58] H_24 fun x97 H_28 =>
 pField1 2 x97 fun x98 =>
 pNe 0 x98 x100 fun x101 =>
 J_26 x101 H_28) H_24 fun x102 H_27 => ∀ _ : Env,
 pCond x102
 (R (.bool false) H_27)
 (pAdd i14 (.int .i64 1) fun x69 =>
 I_14 x69 H_27 ∧ m_15 x69 H_27 < m_15 i14 H_16))
 (CallsH Try.prog 8 #[x26] H_18 fun x105 H_29 =>
 pExtract 0 x105 fun x106 =>
 pExtract 1 x105 fun x107 =>
 pEq 0 x107 (.int .i64 0) fun x109 =>
 pAnd x109 (fun J_30 =>
 CallsH Try.prog 13 #[x106] H_29 fun x112 H_32 =>
 CallsH Try.prog 13 #[x58] H_32 fun x114 H_33 =>
 pEqA [0, 0, 0, 0, 2] x112 x114 fun x115 =>
 J_30 x115 H_33) H_29 fun x116 H_31 => ∀ _ : Env,
 R x116 H_31)))
set_option maxRecDepth 100000 in
theorem lighterlaw20_KeepAgain.vc (sessions0 : Value) (starts1 : Value) (text2 : Value) (H0 : Heap) (R : Value → Heap → Prop) (h : lighterlaw20_KeepAgain.res sessions0 starts1 text2 H0 R) : CallsH Try.prog 4 #[sessions0, starts1, text2] H0 R := by
  have e : vcFn Try.prog Try.C Try.f4 lighterlaw20_KeepAgain.an [sessions0, starts1, text2] H0 R = lighterlaw20_KeepAgain.res sessions0 starts1 text2 H0 R := by kernel_rfl
  exact vcFn_sound Try.callable Try.mixed Try.func4 (by kernel_rfl) (e.mpr h)

def lighterlaw20_KeepRefuses.an : Ann := (.seq (.reg (.op 0 [] .nil)) (.seq (.seq (.reg (.op 0 [] (.op 1 [] .nil))) (.cond (.seq (.reg (.op 0 [] .nil)) .leaf) .leaf)) (.seq (.reg (.op 0 [] (.op 1 [] (.op 2 [] (.op 3 [] .nil))))) (.seq (.reg (.op 0 [] (.op 1 [] (.op 2 [] (.op 3 [] (.op 4 [] (.op 5 [] (.op 6 [] .nil)))))))) (.seq (.reg (.op 0 [] (.op 1 [] (.op 2 [] (.op 3 [] (.op 4 [] (.op 5 [] (.op 6 [] .nil)))))))) (.seq (.reg (.op 0 [] (.op 1 [] (.op 2 [] (.op 3 [] (.op 4 [] (.op 5 [] .nil))))))) (.seq (.reg (.op 0 [] .nil)) (.seq (.reg (.op 0 [] (.op 1 [] (.op 2 [] (.op 3 [] (.op 4 [] (.op 5 [] (.op 6 [] .nil)))))))) (.seq (.reg (.op 0 [] (.op 1 [] (.op 2 [] (.op 3 [] (.op 4 [] (.op 5 [] (.grp 5 (.op 6 [] (.op 7 [] (.op 8 [] (.op 9 [] (.op 10 [] .nil))))) 11 (.op 12 [] (.grp 12 (.op 13 [] (.op 14 [] (.op 15 [] (.grp 15 (.op 16 [] (.op 17 [] .nil)) 18 .nil)))) 19 (.op 20 [] (.grp 20 (.op 21 [] (.op 22 [] .nil)) 23 (.op 24 [] (.grp 24 (.op 25 [] (.op 26 [] .nil)) 27 (.op 28 [] (.grp 28 (.op 29 [] (.op 30 [] (.op 31 [] .nil))) 32 (.op 33 [] (.grp 33 (.op 34 [] (.op 35 [] (.op 36 [] .nil))) 37 (.op 38 [] (.grp 38 (.op 39 [] (.op 40 [] (.op 41 [] .nil))) 42 (.op 43 [] (.grp 43 (.op 44 [] (.op 45 [] (.op 46 [] .nil))) 47 (.op 48 [] (.grp 48 (.op 49 [] (.op 50 [] (.op 51 [] .nil))) 52 (.op 53 [] (.grp 53 (.op 54 [] (.op 55 [] (.op 56 [] (.op 57 [] .nil)))) 58 (.op 59 [] .nil))))))))))))))))))))))))))) .leaf)))))))))
/-- lighter/lighterlaw20.KeepRefuses -/
def lighterlaw20_KeepRefuses.res (sectors0 : Value) (H0 : Heap) (R : Value → Heap → Prop) : Prop :=
 CallsH Try.prog 6 #[] H0 fun x12 H_1 =>
 pNot x12 fun x13 =>
 pCond x13
 (R (.bool false) H_1)
 (pBits .and sectors0 (.int .i64 15) fun x15 =>
 pAdd (.int .i64 1) x15 fun x16 =>
 CallsH Try.prog 7 #[x16] H_1 fun x19 H_2 =>
 pExtract 0 x19 fun x20 =>
 pExtract 1 x19 fun x21 =>
 CallsH Try.prog 8 #[x20] H_2 fun x24 H_3 =>
 pExtract 0 x24 fun x25 =>
 pExtract 1 x24 fun x26 =>
 CallsH Try.prog 8 #[(.pointer none)] H_3 fun x28 H_4 =>
 pExtract 0 x28 fun x29 =>
 pExtract 1 x28 fun x30 =>
 CallsH Try.prog 15 #[(.pointer none), (.int .i64 0), (.int .i64 0)] H_4 fun x33 H_5 =>
 pExtract 0 x33 fun x34 =>
 pExtract 1 x33 fun x35 =>
 pEq 0 x26 (.int .i64 0) fun x37 =>
 pGe x16 (.int .i64 9) fun x39 =>
 pEq 2 x37 x39 fun x40 =>
 pAnd x40 (fun J_6 =>
 pNe 3 x25 (.pointer none) fun x43 =>
 pGe x16 (.int .i64 9) fun x45 =>
 pEq 2 x43 x45 fun x46 =>
 J_6 x46 H_5) H_5 fun x47 H_7 => ∀ _ : Env,
 pAnd x47 (fun J_8 =>
 pEq 0 x26 (.int .i64 0) fun x50 =>
 pOr x50 (fun J_10 =>
 pEq 0 x26 (.int .i64 20) fun x53 =>
 J_10 x53 H_7) H_7 fun x54 H_11 => ∀ _ : Env,
 J_8 x54 H_11) H_7 fun x55 H_9 => ∀ _ : Env,
 pAnd x55 (fun J_12 =>
 pEq 0 x30 (.int .i64 1) fun x58 =>
 J_12 x58 H_9) H_9 fun x59 H_13 => ∀ _ : Env,
 pAnd x59 (fun J_14 =>
 pEq 0 x35 (.int .i64 1) fun x62 =>
 J_14 x62 H_13) H_13 fun x63 H_15 => ∀ _ : Env,
 pAnd x63 (fun J_16 =>
 CallsH Try.prog 12 #[(.pointer none)] H_15 fun x66 H_18 =>
 pEq 0 x66 (.int .i64 1) fun x67 =>
 J_16 x67 H_18) H_15 fun x68 H_17 => ∀ _ : Env,
 pAnd x68 (fun J_19 =>
 CallsH Try.prog 14 #[(.pointer none), (.int .u32 1)] H_17 fun x71 H_21 =>
 pEq 0 x71 (.int .i64 1) fun x72 =>
 J_19 x72 H_21) H_17 fun x73 H_20 => ∀ _ : Env,
 pAnd x73 (fun J_22 =>
 CallsH Try.prog 9 #[(.pointer none), (str [120])] H_20 fun x76 H_24 =>
 pEq 0 x76 (.int .i64 1) fun x77 =>
 J_22 x77 H_24) H_20 fun x78 H_23 => ∀ _ : Env,
 pAnd x78 (fun J_25 =>
 CallsH Try.prog 16 #[(.pointer none)] H_23 fun x81 H_27 =>
 pEq 0 x81 (.int .i64 1) fun x82 =>
 J_25 x82 H_27) H_23 fun x83 H_26 => ∀ _ : Env,
 pAnd x83 (fun J_28 =>
 CallsH Try.prog 17 #[(.pointer none)] H_26 fun x86 H_30 =>
 pEq 0 x86 (.int .i64 0) fun x87 =>
 J_28 x87 H_30) H_26 fun x88 H_29 => ∀ _ : Env,
 pAnd x88 (fun J_31 =>
 CallsH Try.prog 13 #[(.pointer none)] H_29 fun x91 H_33 =>
 pBuild [(.int .u32 0), (.int .u32 0), (.int .i64 0), (.int .u32 0), (.bool false)] [] fun x92 =>
 pEqA [0, 0, 0, 0, 2] x91 x92 fun x93 =>
 J_31 x93 H_33) H_29 fun x94 H_32 => ∀ _ : Env,
 R x94 H_32)
set_option maxRecDepth 100000 in
theorem lighterlaw20_KeepRefuses.vc (sectors0 : Value) (H0 : Heap) (R : Value → Heap → Prop) (h : lighterlaw20_KeepRefuses.res sectors0 H0 R) : CallsH Try.prog 5 #[sectors0] H0 R := by
  have e : vcFn Try.prog Try.C Try.f5 lighterlaw20_KeepRefuses.an [sectors0] H0 R = lighterlaw20_KeepRefuses.res sectors0 H0 R := by kernel_rfl
  exact vcFn_sound Try.callable Try.mixed Try.func5 (by kernel_rfl) (e.mpr h)

def lighterlaw20_speaks.an : Ann := (.seq (.reg (.op 0 [] .nil)) (.seq (.reg (.op 0 [] (.op 1 [] (.op 2 [] (.op 3 [] (.op 4 [] (.op 5 [] .nil))))))) (.seq (.reg (.op 0 [] (.op 1 [] (.op 2 [] (.op 3 [] (.op 4 [] (.op 5 [] (.op 6 [] .nil)))))))) (.seq (.seq (.reg (.op 0 [] (.op 1 [] (.op 2 [] (.grp 2 (.op 3 [] (.op 4 [] (.op 5 [] .nil))) 6 (.op 7 [] (.grp 7 (.op 8 [] (.op 9 [] (.op 10 [] .nil))) 11 .nil))))))) (.cond (.seq (.reg (.op 0 [] .nil)) .leaf) .leaf)) (.seq (.reg (.op 0 [] (.op 1 [] (.op 2 [] (.op 3 [] (.op 4 [] (.op 5 [] (.op 6 [] .nil)))))))) (.seq (.reg (.op 0 [] (.op 1 [] (.op 2 [] (.grp 2 (.op 3 [] (.op 4 [] .nil)) 5 (.op 6 [] (.grp 6 (.op 7 [] (.op 8 [] (.op 9 [] (.op 10 [] .nil)))) 11 (.op 12 [] (.grp 12 (.op 13 [] (.op 14 [] (.op 15 [] (.op 16 [] .nil)))) 17 (.op 18 [] (.grp 18 (.op 19 [] (.op 20 [] (.op 21 [] (.op 22 [] .nil)))) 23 (.op 24 [] (.grp 24 (.op 25 [] (.op 26 [] (.op 27 [] .nil))) 28 (.op 29 [] .nil)))))))))))))) .leaf))))))
/-- lighter/lighterlaw20.speaks -/
def lighterlaw20_speaks.res (H0 : Heap) (R : Value → Heap → Prop) : Prop :=
 CallsH Try.prog 7 #[(.int .i64 12)] H0 fun x8 H_1 =>
 pExtract 0 x8 fun x9 =>
 pExtract 1 x8 fun x10 =>
 CallsH Try.prog 8 #[x9] H_1 fun x13 H_2 =>
 pExtract 0 x13 fun x14 =>
 pExtract 1 x13 fun x15 =>
 pNe 0 x15 (.int .i64 0) fun x17 =>
 pOr x17 (fun J_3 =>
 CallsH Try.prog 14 #[x14, (.int .u32 7)] H_2 fun x20 H_5 =>
 pNe 0 x20 (.int .i64 0) fun x21 =>
 J_3 x21 H_5) H_2 fun x22 H_4 => ∀ _ : Env,
 pOr x22 (fun J_6 =>
 CallsH Try.prog 9 #[x14, (str [97, 98, 99])] H_4 fun x25 H_8 =>
 pNe 0 x25 (.int .i64 0) fun x26 =>
 J_6 x26 H_8) H_4 fun x27 H_7 => ∀ _ : Env,
 pCond x27
 (R (.bool false) H_7)
 (CallsH Try.prog 15 #[x14, (.int .i64 0), (.int .i64 3)] H_7 fun x30 H_9 =>
 pExtract 0 x30 fun x31 =>
 pExtract 1 x30 fun x32 =>
 pEq 0 x32 (.int .i64 0) fun x34 =>
 pAnd x34 (fun J_10 =>
 pEq 1 x31 (str [97, 98, 99]) fun x37 =>
 J_10 x37 H_9) H_9 fun x38 H_11 => ∀ _ : Env,
 pAnd x38 (fun J_12 =>
 CallsH Try.prog 13 #[x14] H_11 fun x41 H_14 =>
 pField1 0 x41 fun x42 =>
 pEq 0 x42 (.int .u32 7) fun x43 =>
 J_12 x43 H_14) H_11 fun x44 H_13 => ∀ _ : Env,
 pAnd x44 (fun J_15 =>
 CallsH Try.prog 13 #[x14] H_13 fun x47 H_17 =>
 pField1 2 x47 fun x48 =>
 pEq 0 x48 (.int .i64 3) fun x49 =>
 J_15 x49 H_17) H_13 fun x50 H_16 => ∀ _ : Env,
 pAnd x50 (fun J_18 =>
 CallsH Try.prog 13 #[x14] H_16 fun x53 H_20 =>
 pField1 4 x53 fun x54 =>
 pNot x54 fun x55 =>
 J_18 x55 H_20) H_16 fun x56 H_19 => ∀ _ : Env,
 pAnd x56 (fun J_21 =>
 CallsH Try.prog 17 #[x14] H_19 fun x59 H_23 =>
 pEq 0 x59 (.int .i64 253) fun x60 =>
 J_21 x60 H_23) H_19 fun x61 H_22 => ∀ _ : Env,
 R x61 H_22)
set_option maxRecDepth 100000 in
theorem lighterlaw20_speaks.vc (H0 : Heap) (R : Value → Heap → Prop) (h : lighterlaw20_speaks.res H0 R) : CallsH Try.prog 6 #[] H0 R := by
  have e : vcFn Try.prog Try.C Try.f6 lighterlaw20_speaks.an [] H0 R = lighterlaw20_speaks.res H0 R := by kernel_rfl
  exact vcFn_sound Try.callable Try.mixed Try.func6 (by kernel_rfl) (e.mpr h)

end Go.Proofs.Ytdaolhlfngfmgaa
