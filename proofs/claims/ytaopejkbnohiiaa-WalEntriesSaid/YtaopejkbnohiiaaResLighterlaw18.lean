/- The residuals of package lighterlaw18's functions, printed by resid.py. -/
import Derived.Test.YtaopejkbnohiiaaVcSeat
namespace Go.Proofs.Ytaopejkbnohiiaa
open Go Go.Vc Go.Proofs
set_option linter.unusedVariables false
set_option maxHeartbeats 4000000
def lighterlaw18_WalPuts.an : Ann := (.seq (.reg (.op 0 [] .nil)) (.seq (.seq (.reg (.op 0 [] (.op 1 [] .nil))) (.cond (.seq (.reg (.op 0 [] .nil)) .leaf) .leaf)) (.seq (.reg (.op 0 [] (.op 1 [] (.op 2 [] (.op 3 [] (.op 4 [] (.op 5 [] (.op 6 [] .nil)))))))) (.seq (.reg (.op 0 [] (.op 1 [] (.op 2 [] (.op 3 [] (.op 4 [] (.op 5 [] .nil))))))) (.seq (.reg (.op 0 [] (.op 1 [] (.op 2 [] (.op 3 [] (.op 4 [] (.op 5 [] (.op 6 [] (.op 7 [] (.op 8 [] .nil)))))))))) (.seq (.seq (.reg (.op 0 [] (.op 1 [] .nil))) (.cond (.seq (.reg (.op 0 [] .nil)) .leaf) .leaf)) (.seq (.reg (.op 0 [] (.op 1 [] .nil))) (.seq (.seq (.reg (.op 0 [] .nil)) (.block (.loop [12, 13] [6, 11, 12, 13, 14, 15, 16, 17, 18, 19, 20, 21, 22, 23, 44, 45, 46, 47, 48, 49, 50, 51, 52, 53, 54, 55, 56, 57, 58, 59, 60, 61, 62, 63, 64, 65, 66, 67, 68, 69, 70, 71, 72, 73, 74, 75, 76, 77, 78, 79, 80, 81, 82, 83, 84, 85, 86, 87, 88, 89, 90, 91, 92, 93, 94, 95, 96, 97, 98, 99, 100, 101, 102, 103, 104, 105, 106, 107, 108, 109, 110, 111, 112, 113, 114, 115, 116, 117, 118, 119, 120, 121, 122, 123, 124, 125, 126, 127, 128, 129, 130, 131, 132, 133, 134, 135] (.seq (.seq (.reg (.op 0 [] (.op 1 [] (.op 2 [] (.op 3 [] (.op 4 [] (.grp 4 (.op 5 [] (.op 6 [] .nil)) 7 .nil))))))) (.cond .leaf .leaf)) (.cut [12] [6, 11, 12, 14, 15, 16, 17, 18, 19, 20, 21, 22, 23, 54, 55, 56, 57, 58, 59, 60, 61, 62, 63, 64, 65, 66, 67, 68, 69, 70, 71, 72, 73, 74, 75, 76, 77, 78, 79, 80, 81, 82, 83, 84, 85, 86, 87, 88, 89, 90, 91, 92, 93, 94, 95, 96, 97, 98, 99, 100, 101, 102, 103, 104, 105, 106, 107, 108, 109, 110, 111, 112, 113, 114, 115, 116, 117, 118, 119, 120, 121, 122, 123, 124, 125, 126, 127, 128, 129, 130, 131, 132, 133, 134, 135] (.block (.seq (.drw [0, 0, 3, 7, 0, 0, 48, 112, 240, 496, 1023, 2047] (.op 0 [] (.op 1 [] (.op 2 [] (.op 3 [] (.op 4 [] (.op 5 [] (.op 6 [] (.op 7 [] (.op 8 [] (.op 9 [] (.op 10 [] (.op 11 [] .nil))))))))))))) (.seq (.reg (.op 0 [] (.op 1 [] (.op 2 [] (.op 3 [] .nil))))) (.seq (.seq (.reg (.op 0 [] (.op 1 [] (.op 2 [] .nil)))) (.cond (.seq (.seq (.reg (.op 0 [] (.op 1 [] .nil))) (.cond (.seq (.reg (.op 0 [] .nil)) .leaf) .leaf)) .leaf) .leaf)) (.seq (.reg (.op 0 [] (.op 1 [] (.op 2 [] .nil)))) (.seq (.reg (.op 0 [] (.op 1 [] .nil))) (.seq (.reg (.op 0 [] (.op 1 [] (.op 2 [] (.op 3 [] (.op 4 [] (.op 5 [] (.op 6 [] (.op 7 [] (.op 8 [] (.op 9 [] (.op 10 [] (.op 11 [] (.op 12 [] (.op 13 [] .nil))))))))))))))) (.seq (.seq (.reg (.op 0 [] (.op 1 [] (.op 2 [] (.grp 2 (.op 3 [] (.op 4 [] (.op 5 [] (.op 6 [] (.op 7 [] .nil))))) 8 .nil))))) (.cond (.seq (.reg (.op 0 [] .nil)) .leaf) .leaf)) (.seq (.reg (.op 0 [] (.op 1 [] (.op 2 [] (.op 3 [] (.op 4 [] (.op 5 [] (.op 6 [] (.op 7 [] (.op 8 [] .nil)))))))))) (.seq (.reg (.op 0 [] (.op 1 [] (.op 2 [] (.op 3 [] (.op 4 [] (.op 5 [] (.op 6 [] .nil)))))))) (.seq (.reg (.op 0 [] (.op 1 [] (.op 2 [] (.op 3 [] (.op 4 [] (.op 5 [] (.op 6 [] .nil)))))))) (.seq (.reg (.op 0 [] (.op 1 [] (.op 2 [] (.grp 2 (.op 3 [] (.op 4 [] (.op 5 [] .nil))) 6 (.op 7 [] (.grp 7 (.op 8 [] (.op 9 [] (.op 10 [] .nil))) 11 (.op 12 [] (.grp 12 (.op 13 [] (.op 14 [] (.op 15 [] .nil))) 16 (.op 17 [] (.grp 17 (.op 18 [] (.op 19 [] (.op 20 [] .nil))) 21 .nil))))))))))) (.cond (.seq (.reg (.op 0 [] .nil)) .leaf) .leaf))))))))))))) (.reg (.op 0 [] (.op 1 [] (.op 2 [] .nil))))))))) (.seq (.reg (.op 0 [] .nil)) .leaf)))))))))
/-- lighter/lighterlaw18.WalPuts -/
def lighterlaw18_WalPuts.res (notes0 : Value) (sectors1 : Value) (at2 : Value) (H0 : Heap) (R : Value → Heap → Prop) : Prop :=
 CallsH Try.prog 7 #[] H0 fun x24 H_1 =>
 pNot x24 fun x25 =>
 pCond x25
 (R (.bool false) H_1)
 (pBits .and sectors1 (.int .i64 7) fun x27 =>
 pAdd (.int .i64 2) x27 fun x28 =>
 pBits .and at2 (.int .i64 3) fun x30 =>
 CallsH Try.prog 8 #[(.int .i64 12)] H_1 fun x32 H_2 =>
 pExtract 0 x32 fun x33 =>
 pExtract 1 x32 fun x34 =>
 CallsH Try.prog 9 #[x33, x30, x28] H_2 fun x39 H_3 =>
 pExtract 0 x39 fun x40 =>
 pExtract 1 x39 fun x41 =>
 pNe 0 x41 (.int .i64 0) fun x43 =>
 pCond x43
 (R (.bool false) H_3)
 (∃ (I_4 : Value → Value → Heap → Prop) (m_5 : Value → Value → Heap → Nat), I_4 (.int .u64 0) (.int .i64 0) H_3 ∧
 ∀ _ : Env, ∀ number12 : Value, ∀ i13 : Value, ∀ H_6 : Heap, I_4 number12 i13 H_6 →
 pLen notes0 fun x46 =>
 pLt i13 x46 fun x47 =>
 pAnd x47 (fun J_7 =>
 pLt i13 (.int .i64 30) fun x50 =>
 J_7 x50 H_6) H_6 fun x51 H_8 => ∀ _ : Env,
 pCond x51
 (∃ J_9 : Value → Heap → Prop, (∀ _ : Env, ∀ number12' : Value, ∀ H_10 : Heap, J_9 number12' H_10 →
 pAdd i13 (.int .i64 1) fun x53 =>
 I_4 number12' x53 H_10 ∧ m_5 number12' x53 H_10 < m_5 number12 i13 H_6) ∧
 pIdxSl 1 notes0 i13 fun x56 =>
 pLoad H_8 x56 fun x57 =>
 pIdxSl 1 notes0 i13 fun x60 =>
 pLoad H_8 x60 fun x61 =>
 pLenS x61 fun x62 =>
 pMin x62 (.int .i64 50) fun x63 =>
 pSlStr x57 none (some x63) fun x64 =>
 CallsH Try.prog 10 #[x40, x64] H_8 fun x67 H_11 =>
 pLenS x64 fun x69 =>
 pGt x69 (.int .i64 23) fun x70 =>
 pCond x70
 (pNe 0 x67 (.int .i64 1) fun x72 =>
 pCond x72
 (R (.bool false) H_11)
 (J_9 number12 H_11))
 (pAdd number12 (.int .u64 1) fun x74 =>
 pConv .u64 x28 fun x81 =>
 pRem x74 x81 fun x82 =>
 pConv .i64 x82 fun x83 =>
 pAdd x30 x83 fun x84 =>
 CallsH Try.prog 11 #[x33, x84] H_11 fun x85 H_12 =>
 pExtract 0 x85 fun x86 =>
 pExtract 1 x85 fun x87 =>
 pNe 0 x67 (.int .i64 0) fun x89 =>
 pOr x89 (fun J_13 =>
 CallsH Try.prog 12 #[x74, x64] H_12 fun x94 H_15 =>
 pNe 1 x86 x94 fun x95 =>
 J_13 x95 H_15) H_12 fun x96 H_14 => ∀ _ : Env,
 pCond x96
 (R (.bool false) H_14)
 (CallsH Try.prog 9 #[x33, x30, x28] H_14 fun x101 H_16 =>
 pExtract 0 x101 fun x102 =>
 pExtract 1 x101 fun x103 =>
 CallsH Try.prog 13 #[x102] H_16 fun x106 H_17 =>
 pExtract 0 x106 fun x107 =>
 pExtract 1 x106 fun x108 =>
 CallsH Try.prog 13 #[x40] H_17 fun x111 H_18 =>
 pExtract 0 x111 fun x112 =>
 pExtract 1 x111 fun x113 =>
 pNe 0 x103 (.int .i64 0) fun x115 =>
 pOr x115 (fun J_19 =>
 pNe 1 x107 x64 fun x119 =>
 J_19 x119 H_18) H_18 fun x120 H_20 => ∀ _ : Env,
 pOr x120 (fun J_21 =>
 pNe 0 x108 x74 fun x124 =>
 J_21 x124 H_20) H_20 fun x125 H_22 => ∀ _ : Env,
 pOr x125 (fun J_23 =>
 pNe 1 x112 x64 fun x129 =>
 J_23 x129 H_22) H_22 fun x130 H_24 => ∀ _ : Env,
 pOr x130 (fun J_25 =>
 pNe 0 x113 x74 fun x134 =>
 J_25 x134 H_24) H_24 fun x135 H_26 => ∀ _ : Env,
 pCond x135
 (R (.bool false) H_26)
 (J_9 x74 H_26))))
 (R (.bool true) H_8)))
set_option maxRecDepth 100000 in
theorem lighterlaw18_WalPuts.vc (notes0 : Value) (sectors1 : Value) (at2 : Value) (H0 : Heap) (R : Value → Heap → Prop) (h : lighterlaw18_WalPuts.res notes0 sectors1 at2 H0 R) : CallsH Try.prog 3 #[notes0, sectors1, at2] H0 R := by
  have e : vcFn Try.prog Try.C Try.f3 lighterlaw18_WalPuts.an [notes0, sectors1, at2] H0 R = lighterlaw18_WalPuts.res notes0 sectors1 at2 H0 R := by kernel_rfl
  exact vcFn_sound Try.callable Try.mixed Try.func3 (by kernel_rfl) (e.mpr h)

def lighterlaw18_WalTears.an : Ann := (.seq (.reg (.op 0 [] .nil)) (.seq (.seq (.reg (.op 0 [] (.op 1 [] .nil))) (.cond (.seq (.reg (.op 0 [] .nil)) .leaf) .leaf)) (.seq (.reg (.op 0 [] (.op 1 [] (.op 2 [] (.op 3 [] (.op 4 [] (.op 5 [] .nil))))))) (.seq (.reg (.op 0 [] (.op 1 [] (.op 2 [] (.op 3 [] (.op 4 [] (.op 5 [] (.op 6 [] .nil)))))))) (.seq (.reg (.op 0 [] .nil)) (.seq (.reg (.op 0 [] .nil)) (.seq (.seq (.reg (.op 0 [] .nil)) (.block (.loop [9, 10, 11] [4, 9, 10, 11, 28, 29, 30, 31, 32, 33, 34, 35, 36, 37, 38, 39, 40, 41, 42, 43, 44, 45, 46, 47, 48, 49, 50, 51, 52, 53, 54, 55] (.seq (.seq (.reg (.op 0 [] (.op 1 [] (.op 2 [] (.op 3 [] (.op 4 [] (.op 5 [] (.grp 5 (.op 6 [] (.op 7 [] .nil)) 8 .nil)))))))) (.cond .leaf .leaf)) (.seq (.block (.seq (.drw [0, 0, 3, 7, 0, 0, 48, 112, 240, 496, 1023, 2047] (.op 0 [] (.op 1 [] (.op 2 [] (.op 3 [] (.op 4 [] (.op 5 [] (.op 6 [] (.op 7 [] (.op 8 [] (.op 9 [] (.op 10 [] (.op 11 [] .nil))))))))))))) (.seq (.reg (.op 0 [] (.op 1 [] (.op 2 [] .nil)))) (.seq (.reg (.op 0 [] (.op 1 [] (.op 2 [] (.op 3 [] .nil))))) (.cond (.seq (.reg (.op 0 [] .nil)) .leaf) .leaf))))) (.reg (.op 0 [] (.op 1 [] (.op 2 [] .nil))))))))) (.seq (.reg (.op 0 [] .nil)) (.cut [12] [12, 56, 57, 58, 59, 60, 61, 62, 63, 64, 65, 66, 67, 68, 69, 70, 71, 72, 73] (.seq (.reg (.op 0 [] (.op 1 [] (.op 2 [] .nil)))) (.cond (.drw [0, 0, 2, 6, 15, 31, 0, 0, 128, 384, 960, 1984, 4032, 8128, 16383, 32767] (.op 0 [] (.op 1 [] (.op 2 [] (.op 3 [] (.op 4 [] (.op 5 [] (.op 6 [] (.op 7 [] (.op 8 [] (.op 9 [] (.op 10 [] (.op 11 [] (.op 12 [] (.op 13 [] (.op 14 [] (.op 15 [] .nil))))))))))))))))) .leaf)) (.seq (.reg (.op 0 [] (.op 1 [] (.op 2 [] (.op 3 [] (.op 4 [] (.op 5 [] (.op 6 [] (.op 7 [] (.op 8 [] (.op 9 [] .nil))))))))))) (.seq (.reg (.op 0 [] (.op 1 [] (.op 2 [] .nil)))) (.seq (.reg (.op 0 [] (.op 1 [] .nil))) (.seq (.reg (.op 0 [] (.op 1 [] (.op 2 [] (.op 3 [] (.op 4 [] (.op 5 [] (.op 6 [] .nil)))))))) (.seq (.reg (.op 0 [] (.op 1 [] (.op 2 [] (.op 3 [] (.op 4 [] (.op 5 [] (.op 6 [] .nil)))))))) (.seq (.reg (.op 0 [] (.op 1 [] (.op 2 [] (.grp 2 (.op 3 [] (.op 4 [] (.op 5 [] (.op 6 [] (.grp 6 (.op 7 [] (.op 8 [] (.op 9 [] .nil))) 10 (.op 11 [] (.grp 11 (.op 12 [] (.op 13 [] (.op 14 [] (.op 15 [] (.grp 15 (.op 16 [] (.op 17 [] (.op 18 [] (.op 19 [] .nil)))) 20 .nil))))) 21 .nil))))))) 22 (.op 23 [] .nil)))))) .leaf)))))))))))))))
/-- lighter/lighterlaw18.WalTears -/
def lighterlaw18_WalTears.res (notes0 : Value) (fates1 : Value) (H0 : Heap) (R : Value → Heap → Prop) : Prop :=
 CallsH Try.prog 7 #[] H0 fun x17 H_1 =>
 pNot x17 fun x18 =>
 pCond x18
 (R (.bool false) H_1)
 (CallsH Try.prog 8 #[(.int .i64 3)] H_1 fun x20 H_2 =>
 pExtract 0 x20 fun x21 =>
 pExtract 1 x20 fun x22 =>
 CallsH Try.prog 9 #[x21, (.int .i64 0), (.int .i64 3)] H_2 fun x25 H_3 =>
 pExtract 0 x25 fun x26 =>
 pExtract 1 x25 fun x27 =>
 ∃ (I_4 : Value → Value → Value → Heap → Prop) (m_5 : Value → Value → Value → Heap → Nat), I_4 (str []) (.int .u64 0) (.int .i64 0) H_3 ∧
 ∀ _ : Env, ∀ want9 : Value, ∀ number10 : Value, ∀ i11 : Value, ∀ H_6 : Heap, I_4 want9 number10 i11 H_6 →
 pAdd i11 (.int .i64 1) fun x29 =>
 pLen notes0 fun x31 =>
 pLt x29 x31 fun x32 =>
 pAnd x32 (fun J_7 =>
 pLt i11 (.int .i64 12) fun x35 =>
 J_7 x35 H_6) H_6 fun x36 H_8 => ∀ _ : Env,
 pCond x36
 (pIdxSl 1 notes0 i11 fun x41 =>
 pLoad H_8 x41 fun x42 =>
 pIdxSl 1 notes0 i11 fun x45 =>
 pLoad H_8 x45 fun x46 =>
 pLenS x46 fun x47 =>
 pMin x47 (.int .i64 23) fun x48 =>
 pSlStr x42 none (some x48) fun x49 =>
 pAdd number10 (.int .u64 1) fun x51 =>
 CallsH Try.prog 10 #[x26, x49] H_8 fun x54 H_9 =>
 pNe 0 x54 (.int .i64 0) fun x55 =>
 pCond x55
 (R (.bool false) H_9)
 (pAdd i11 (.int .i64 1) fun x38 =>
 I_4 x49 x51 x38 H_9 ∧ m_5 x49 x51 x38 H_9 < m_5 want9 number10 i11 H_6))
 (∃ J_10 : Value → Heap → Prop, (∀ _ : Env, ∀ next12 : Value, ∀ H_11 : Heap, J_10 next12 H_11 →
 pAdd number10 (.int .u64 1) fun x76 =>
 pRem x76 (.int .u64 3) fun x77 =>
 pConv .i64 x77 fun x78 =>
 pAdd number10 (.int .u64 1) fun x80 =>
 CallsH Try.prog 15 #[x80, next12] H_11 fun x82 H_12 =>
 CallsH Try.prog 14 #[x21, x78, x82] H_12 fun x83 H_13 =>
 CallsH Try.prog 16 #[x21, fates1] H_13 fun x86 H_14 =>
 CallsH Try.prog 17 #[x21] H_14 fun x88 H_15 =>
 CallsH Try.prog 9 #[x21, (.int .i64 0), (.int .i64 3)] H_15 fun x91 H_16 =>
 pExtract 0 x91 fun x92 =>
 pExtract 1 x91 fun x93 =>
 CallsH Try.prog 13 #[x92] H_16 fun x96 H_17 =>
 pExtract 0 x96 fun x97 =>
 pExtract 1 x96 fun x98 =>
 pEq 0 x93 (.int .i64 0) fun x100 =>
 pAnd x100 (fun J_18 =>
 pEq 1 x97 want9 fun x104 =>
 pAnd x104 (fun J_20 =>
 pEq 0 x98 number10 fun x108 =>
 J_20 x108 H_17) H_17 fun x109 H_21 => ∀ _ : Env,
 pOr x109 (fun J_22 =>
 pEq 1 x97 next12 fun x113 =>
 pAnd x113 (fun J_24 =>
 pAdd number10 (.int .u64 1) fun x117 =>
 pEq 0 x98 x117 fun x118 =>
 J_24 x118 H_21) H_21 fun x119 H_25 => ∀ _ : Env,
 J_22 x119 H_25) H_21 fun x120 H_23 => ∀ _ : Env,
 J_18 x120 H_23) H_17 fun x121 H_19 => ∀ _ : Env,
 R x121 H_19) ∧
 pLen notes0 fun x57 =>
 pGt x57 (.int .i64 0) fun x58 =>
 pCond x58
 (pLen notes0 fun x61 =>
 pSub x61 (.int .i64 1) fun x62 =>
 pIdxSl 1 notes0 x62 fun x63 =>
 pLoad H_8 x63 fun x64 =>
 pLen notes0 fun x67 =>
 pSub x67 (.int .i64 1) fun x68 =>
 pIdxSl 1 notes0 x68 fun x69 =>
 pLoad H_8 x69 fun x70 =>
 pLenS x70 fun x71 =>
 pMin x71 (.int .i64 23) fun x72 =>
 pSlStr x64 none (some x72) fun x73 =>
 J_10 x73 H_8)
 (J_10 (str []) H_8)))
set_option maxRecDepth 100000 in
theorem lighterlaw18_WalTears.vc (notes0 : Value) (fates1 : Value) (H0 : Heap) (R : Value → Heap → Prop) (h : lighterlaw18_WalTears.res notes0 fates1 H0 R) : CallsH Try.prog 4 #[notes0, fates1] H0 R := by
  have e : vcFn Try.prog Try.C Try.f4 lighterlaw18_WalTears.an [notes0, fates1] H0 R = lighterlaw18_WalTears.res notes0 fates1 H0 R := by kernel_rfl
  exact vcFn_sound Try.callable Try.mixed Try.func4 (by kernel_rfl) (e.mpr h)

def lighterlaw18_WalCrash.an : Ann := (.seq (.reg (.op 0 [] .nil)) (.seq (.seq (.reg (.op 0 [] (.op 1 [] .nil))) (.cond (.seq (.reg (.op 0 [] .nil)) .leaf) .leaf)) (.seq (.reg (.op 0 [] (.op 1 [] (.op 2 [] (.op 3 [] (.op 4 [] (.op 5 [] .nil))))))) (.seq (.reg (.op 0 [] (.op 1 [] (.op 2 [] (.op 3 [] (.op 4 [] (.op 5 [] (.op 6 [] .nil)))))))) (.seq (.reg (.op 0 [] (.op 1 [] (.op 2 [] (.op 3 [] .nil))))) (.seq (.reg (.op 0 [] (.op 1 [] .nil))) (.seq (.reg (.op 0 [] .nil)) (.cut [11, 12, 13] [6, 11, 12, 13, 14, 15, 16, 36, 37, 38, 39, 40, 41, 42, 43, 44, 45, 46, 47, 48, 49, 50, 51, 52, 53, 54, 55, 56, 57, 58, 59, 60, 61, 62, 63, 64, 65, 66, 67, 68, 69, 70, 71, 72, 73] (.seq (.reg (.op 0 [] .nil)) (.block (.loop [11, 12, 13, 14] [6, 11, 12, 13, 14, 15, 16, 36, 37, 38, 39, 40, 41, 42, 43, 44, 45, 46, 47, 48, 49, 50, 51, 52, 53, 54, 55, 56, 57, 58, 59, 60, 61, 62, 63, 64, 65, 66, 67, 68, 69, 70, 71, 72, 73] (.seq (.seq (.reg (.op 0 [] (.op 1 [] (.op 2 [] (.op 3 [] (.op 4 [] (.grp 4 (.op 5 [] (.op 6 [] .nil)) 7 .nil))))))) (.cond .leaf .leaf)) (.seq (.block (.seq (.drw [0, 0, 3, 7, 0, 0, 48, 112, 240, 496, 1023, 2047] (.op 0 [] (.op 1 [] (.op 2 [] (.op 3 [] (.op 4 [] (.op 5 [] (.op 6 [] (.op 7 [] (.op 8 [] (.op 9 [] (.op 10 [] (.op 11 [] .nil))))))))))))) (.seq (.reg (.op 0 [] (.op 1 [] (.op 2 [] (.op 3 [] .nil))))) (.seq (.seq (.reg (.op 0 [] (.op 1 [] .nil))) (.cond (.seq (.reg (.op 0 [] (.op 1 [] .nil))) (.seq (.seq (.reg (.op 0 [] (.op 1 [] (.op 2 [] (.grp 2 (.op 3 [] (.op 4 [] (.op 5 [] .nil))) 6 .nil))))) (.cond (.seq (.reg (.op 0 [] .nil)) .leaf) .leaf)) .leaf)) .leaf)) (.seq (.reg (.op 0 [] (.op 1 [] .nil))) (.seq (.reg (.op 0 [] (.op 1 [] .nil))) (.reg (.op 0 [] (.op 1 [] (.op 2 [] .nil)))))))))) (.reg (.op 0 [] (.op 1 [] (.op 2 [] .nil))))))))) (.seq (.reg (.op 0 [] (.op 1 [] (.op 2 [] .nil)))) (.seq (.reg (.op 0 [] (.op 1 [] .nil))) (.seq (.reg (.op 0 [] (.op 1 [] (.op 2 [] (.op 3 [] (.op 4 [] (.op 5 [] (.op 6 [] .nil)))))))) (.seq (.reg (.op 0 [] (.op 1 [] (.op 2 [] (.op 3 [] (.op 4 [] (.op 5 [] (.op 6 [] .nil)))))))) (.seq (.reg (.op 0 [] (.op 1 [] (.op 2 [] (.grp 2 (.op 3 [] (.op 4 [] (.op 5 [] (.op 6 [] (.grp 6 (.op 7 [] (.op 8 [] (.op 9 [] .nil))) 10 (.op 11 [] (.grp 11 (.op 12 [] (.op 13 [] (.op 14 [] (.op 15 [] (.grp 15 (.op 16 [] (.op 17 [] (.op 18 [] (.op 19 [] .nil)))) 20 .nil))))) 21 .nil))))))) 22 (.op 23 [] .nil)))))) .leaf)))))))))))))
/-- lighter/lighterlaw18.WalCrash -/
def lighterlaw18_WalCrash.res (notes0 : Value) (fuse1 : Value) (fates2 : Value) (H0 : Heap) (R : Value → Heap → Prop) : Prop :=
 CallsH Try.prog 7 #[] H0 fun x21 H_1 =>
 pNot x21 fun x22 =>
 pCond x22
 (R (.bool false) H_1)
 (CallsH Try.prog 8 #[(.int .i64 6)] H_1 fun x24 H_2 =>
 pExtract 0 x24 fun x25 =>
 pExtract 1 x24 fun x26 =>
 CallsH Try.prog 9 #[x25, (.int .i64 0), (.int .i64 3)] H_2 fun x29 H_3 =>
 pExtract 0 x29 fun x30 =>
 pExtract 1 x29 fun x31 =>
 pBits .and fuse1 (.int .i64 31) fun x34 =>
 CallsH Try.prog 18 #[x25, x34] H_3 fun x35 H_4 =>
 ∃ J_5 : Value → Value → Value → Heap → Prop, (∀ _ : Env, ∀ want11 : Value, ∀ next12 : Value, ∀ number13 : Value, ∀ H_6 : Heap, J_5 want11 next12 number13 H_6 →
 CallsH Try.prog 16 #[x25, fates2] H_6 fun x76 H_7 =>
 CallsH Try.prog 17 #[x25] H_7 fun x78 H_8 =>
 CallsH Try.prog 9 #[x25, (.int .i64 0), (.int .i64 3)] H_8 fun x81 H_9 =>
 pExtract 0 x81 fun x82 =>
 pExtract 1 x81 fun x83 =>
 CallsH Try.prog 13 #[x82] H_9 fun x86 H_10 =>
 pExtract 0 x86 fun x87 =>
 pExtract 1 x86 fun x88 =>
 pEq 0 x83 (.int .i64 0) fun x90 =>
 pAnd x90 (fun J_11 =>
 pEq 1 x87 want11 fun x94 =>
 pAnd x94 (fun J_13 =>
 pEq 0 x88 number13 fun x98 =>
 J_13 x98 H_10) H_10 fun x99 H_14 => ∀ _ : Env,
 pOr x99 (fun J_15 =>
 pEq 1 x87 next12 fun x103 =>
 pAnd x103 (fun J_17 =>
 pAdd number13 (.int .u64 1) fun x107 =>
 pEq 0 x88 x107 fun x108 =>
 J_17 x108 H_14) H_14 fun x109 H_18 => ∀ _ : Env,
 J_15 x109 H_18) H_14 fun x110 H_16 => ∀ _ : Env,
 J_11 x110 H_16) H_10 fun x111 H_12 => ∀ _ : Env,
 R x111 H_12) ∧
 ∃ (I_19 : Value → Value → Value → Value → Heap → Prop) (m_20 : Value → Value → Value → Value → Heap → Nat), I_19 (str []) (str []) (.int .u64 0) (.int .i64 0) H_4 ∧
 ∀ _ : Env, ∀ want11' : Value, ∀ next12' : Value, ∀ number13' : Value, ∀ i14 : Value, ∀ H_21 : Heap, I_19 want11' next12' number13' i14 H_21 →
 pLen notes0 fun x38 =>
 pLt i14 x38 fun x39 =>
 pAnd x39 (fun J_22 =>
 pLt i14 (.int .i64 20) fun x42 =>
 J_22 x42 H_21) H_21 fun x43 H_23 => ∀ _ : Env,
 pCond x43
 (pIdxSl 1 notes0 i14 fun x48 =>
 pLoad H_23 x48 fun x49 =>
 pIdxSl 1 notes0 i14 fun x52 =>
 pLoad H_23 x52 fun x53 =>
 pLenS x53 fun x54 =>
 pMin x54 (.int .i64 23) fun x55 =>
 pSlStr x49 none (some x55) fun x56 =>
 CallsH Try.prog 10 #[x30, x56] H_23 fun x59 H_24 =>
 pNe 0 x59 (.int .i64 0) fun x61 =>
 pCond x61
 (pNe 0 x59 (.int .i64 14) fun x64 =>
 pOr x64 (fun J_25 =>
 CallsH Try.prog 10 #[x30, (str [120])] H_24 fun x67 H_27 =>
 pNe 0 x67 (.int .i64 16) fun x68 =>
 J_25 x68 H_27) H_24 fun x69 H_26 => ∀ _ : Env,
 pCond x69
 (R (.bool false) H_26)
 (J_5 want11' x56 number13' H_26))
 (pAdd number13' (.int .u64 1) fun x73 =>
 pAdd i14 (.int .i64 1) fun x45 =>
 I_19 x56 x56 x73 x45 H_24 ∧ m_20 x56 x56 x73 x45 H_24 < m_20 want11' next12' number13' i14 H_21))
 (J_5 want11' next12' number13' H_23))
set_option maxRecDepth 100000 in
theorem lighterlaw18_WalCrash.vc (notes0 : Value) (fuse1 : Value) (fates2 : Value) (H0 : Heap) (R : Value → Heap → Prop) (h : lighterlaw18_WalCrash.res notes0 fuse1 fates2 H0 R) : CallsH Try.prog 5 #[notes0, fuse1, fates2] H0 R := by
  have e : vcFn Try.prog Try.C Try.f5 lighterlaw18_WalCrash.an [notes0, fuse1, fates2] H0 R = lighterlaw18_WalCrash.res notes0 fuse1 fates2 H0 R := by kernel_rfl
  exact vcFn_sound Try.callable Try.mixed Try.func5 (by kernel_rfl) (e.mpr h)

def lighterlaw18_WalEntries.an : Ann := (.seq (.reg (.op 0 [] .nil)) (.seq (.seq (.reg (.op 0 [] (.op 1 [] .nil))) (.cond (.seq (.reg (.op 0 [] .nil)) .leaf) .leaf)) (.seq (.reg (.op 0 [] (.op 1 [] (.op 2 [] (.op 3 [] .nil))))) (.seq (.reg (.op 0 [] (.op 1 [] (.op 2 [] (.op 3 [] (.op 4 [] (.op 5 [] .nil))))))) (.seq (.reg (.op 0 [] (.op 1 [] (.op 2 [] (.op 3 [] (.op 4 [] (.op 5 [] (.op 6 [] (.op 7 [] .nil))))))))) (.seq (.reg (.op 0 [] .nil)) (.seq (.seq (.reg (.op 0 [] .nil)) (.block (.loop [9, 10] [4, 9, 10, 11, 36, 37, 38, 39, 40, 41, 42, 43, 44, 45, 46, 47, 48, 49, 50, 51, 52, 53, 54, 55, 56, 57, 58, 59, 60, 61, 62, 63, 64] (.seq (.seq (.reg (.op 0 [] (.op 1 [] (.op 2 [] (.op 3 [] (.op 4 [] (.grp 4 (.op 5 [] (.op 6 [] .nil)) 7 .nil))))))) (.cond .leaf .leaf)) (.seq (.block (.seq (.drw [0, 0, 3, 7, 0, 0, 48, 112, 240, 496, 1023, 2047] (.op 0 [] (.op 1 [] (.op 2 [] (.op 3 [] (.op 4 [] (.op 5 [] (.op 6 [] (.op 7 [] (.op 8 [] (.op 9 [] (.op 10 [] (.op 11 [] .nil))))))))))))) (.seq (.seq (.reg (.op 0 [] (.op 1 [] (.op 2 [] (.op 3 [] .nil))))) (.cond (.seq (.reg (.op 0 [] .nil)) .leaf) .leaf)) (.reg (.op 0 [] (.op 1 [] (.op 2 [] (.op 3 [] (.op 4 [] .nil))))))))) (.reg (.op 0 [] (.op 1 [] (.op 2 [] .nil))))))))) (.seq (.reg (.op 0 [] (.op 1 [] (.op 2 [] (.op 3 [] (.op 4 [] (.op 5 [] (.op 6 [] .nil)))))))) (.seq (.seq (.reg (.op 0 [] (.op 1 [] (.op 2 [] (.grp 2 (.op 3 [] (.op 4 [] (.op 5 [] (.op 6 [] (.op 7 [] (.op 8 [] (.op 9 [] .nil))))))) 10 .nil))))) (.cond (.seq (.reg (.op 0 [] .nil)) .leaf) .leaf)) (.seq (.seq (.reg (.op 0 [] .nil)) (.block (.loop [14] [4, 14, 15, 81, 82, 83, 84, 85, 86, 87, 88, 89, 90, 91, 92, 93, 94, 95, 96, 97, 98, 99, 100, 101, 102, 103, 104, 105, 106, 107, 108, 109, 110, 111, 112, 113, 114] (.seq (.seq (.reg (.op 0 [] (.op 1 [] (.op 2 [] (.op 3 [] .nil))))) (.cond .leaf .leaf)) (.seq (.block (.seq (.reg (.op 0 [] (.op 1 [] (.op 2 [] (.op 3 [] (.op 4 [] (.op 5 [] (.op 6 [] (.op 7 [] .nil))))))))) (.seq (.drw [0, 0, 3, 7, 15, 0, 32, 96, 255, 511, 1023, 1023, 4095, 8191, 16383, 1023, 1023, 99327, 230399, 524287, 1048575] (.op 0 [] (.op 1 [] (.op 2 [] (.op 3 [] (.op 4 [] (.op 5 [] (.op 6 [] (.op 7 [] (.op 8 [] (.op 9 [] (.grp 9 (.op 10 [] (.op 11 [] (.op 12 [] (.op 13 [] (.op 14 [] (.op 15 [] (.op 16 [] (.op 17 [] (.op 18 [] (.op 19 [] .nil)))))))))) 20 .nil)))))))))))) (.cond (.seq (.reg (.op 0 [] .nil)) .leaf) .leaf)))) (.reg (.op 0 [] (.op 1 [] (.op 2 [] .nil))))))))) (.seq (.reg (.op 0 [] .nil)) (.seq (.reg (.op 0 [] (.op 1 [] (.op 2 [] (.op 3 [] (.op 4 [] (.op 5 [] (.op 6 [] .nil)))))))) (.seq (.reg (.op 0 [] (.op 1 [] .nil))) (.seq (.reg (.op 0 [] (.op 1 [] (.op 2 [] (.op 3 [] (.op 4 [] (.op 5 [] (.op 6 [] .nil)))))))) (.seq (.reg (.op 0 [] (.op 1 [] (.op 2 [] (.grp 2 (.op 3 [] (.op 4 [] .nil)) 5 (.op 6 [] .nil)))))) .leaf)))))))))))))))
/-- lighter/lighterlaw18.WalEntries -/
def lighterlaw18_WalEntries.res (notes0 : Value) (sectors1 : Value) (H0 : Heap) (R : Value → Heap → Prop) : Prop :=
 CallsH Try.prog 7 #[] H0 fun x21 H_1 =>
 pNot x21 fun x22 =>
 pCond x22
 (R (.bool false) H_1)
 (pBits .and sectors1 (.int .i64 7) fun x24 =>
 pAdd (.int .i64 2) x24 fun x25 =>
 CallsH Try.prog 8 #[(.int .i64 12)] H_1 fun x27 H_2 =>
 pExtract 0 x27 fun x28 =>
 pExtract 1 x27 fun x29 =>
 CallsH Try.prog 9 #[x28, (.int .i64 1), x25] H_2 fun x33 H_3 =>
 pExtract 0 x33 fun x34 =>
 pExtract 1 x33 fun x35 =>
 ∃ (I_4 : Value → Value → Heap → Prop) (m_5 : Value → Value → Heap → Nat), I_4 (.slice none 0 0) (.int .i64 0) H_3 ∧
 ∀ _ : Env, ∀ all9 : Value, ∀ i10 : Value, ∀ H_6 : Heap, I_4 all9 i10 H_6 →
 pLen notes0 fun x38 =>
 pLt i10 x38 fun x39 =>
 pAnd x39 (fun J_7 =>
 pLt i10 (.int .i64 25) fun x42 =>
 J_7 x42 H_6) H_6 fun x43 H_8 => ∀ _ : Env,
 pCond x43
 (pIdxSl 1 notes0 i10 fun x48 =>
 pLoad H_8 x48 fun x49 =>
 pIdxSl 1 notes0 i10 fun x52 =>
 pLoad H_8 x52 fun x53 =>
 pLenS x53 fun x54 =>
 pMin x54 (.int .i64 23) fun x55 =>
 pSlStr x49 none (some x55) fun x56 =>
 CallsH Try.prog 10 #[x34, x56] H_8 fun x59 H_9 =>
 pNe 0 x59 (.int .i64 0) fun x60 =>
 pCond x60
 (R (.bool false) H_9)
 (pBuildSl H_9 9 1 [(str [])] [(0, 1, x56)] fun x63 H_10 =>
 pAppend H_10 9 1 16 [(str [])] all9 x63 fun x64 H_11 =>
 pAdd i10 (.int .i64 1) fun x45 =>
 I_4 x64 x45 H_11 ∧ m_5 x64 x45 H_11 < m_5 all9 i10 H_6))
 (CallsH Try.prog 19 #[x34] H_8 fun x67 H_12 =>
 pExtract 0 x67 fun x68 =>
 pExtract 1 x67 fun x69 =>
 pNe 0 x69 (.int .i64 0) fun x71 =>
 pOr x71 (fun J_13 =>
 pLen x68 fun x74 =>
 pLen all9 fun x76 =>
 pMin x76 x25 fun x78 =>
 pNe 0 x74 x78 fun x79 =>
 J_13 x79 H_12) H_12 fun x80 H_14 => ∀ _ : Env,
 pCond x80
 (R (.bool false) H_14)
 (∃ (I_15 : Value → Heap → Prop) (m_16 : Value → Heap → Nat), I_15 (.int .i64 0) H_14 ∧
 ∀ _ : Env, ∀ i14 : Value, ∀ H_17 : Heap, I_15 i14 H_17 →
 pLen x68 fun x83 =>
 pLt i14 x83 fun x84 =>
 pCond x84
 (pLen all9 fun x88 =>
 pLen x68 fun x90 =>
 pSub x88 x90 fun x91 =>
 pAdd x91 i14 fun x93 =>
 pIdxSl 2 x68 i14 fun x96 =>
 pFieldAddr 0 x96 fun x97 =>
 pLoad H_17 x97 fun x98 =>
 pAdd x93 (.int .i64 1) fun x100 =>
 pConv .u64 x100 fun x101 =>
 pNe 0 x98 x101 fun x102 =>
 pOr x102 (fun J_18 =>
 pIdxSl 2 x68 i14 fun x106 =>
 pFieldAddr 1 x106 fun x107 =>
 pLoad H_17 x107 fun x108 =>
 pIdxSl 1 all9 x93 fun x111 =>
 pLoad H_17 x111 fun x112 =>
 pNe 1 x108 x112 fun x113 =>
 J_18 x113 H_17) H_17 fun x114 H_19 => ∀ _ : Env,
 pCond x114
 (R (.bool false) H_19)
 (pAdd i14 (.int .i64 1) fun x86 =>
 I_15 x86 H_19 ∧ m_16 x86 H_19 < m_16 i14 H_17))
 (CallsH Try.prog 19 #[(.pointer none)] H_17 fun x117 H_20 =>
 pExtract 0 x117 fun x118 =>
 pExtract 1 x117 fun x119 =>
 CallsH Try.prog 16 #[x28, (.slice none 0 0)] H_20 fun x121 H_21 =>
 CallsH Try.prog 19 #[x34] H_21 fun x124 H_22 =>
 pExtract 0 x124 fun x125 =>
 pExtract 1 x124 fun x126 =>
 pEq 0 x119 (.int .i64 1) fun x128 =>
 pAnd x128 (fun J_23 =>
 pEq 0 x126 (.int .i64 14) fun x131 =>
 J_23 x131 H_22) H_22 fun x132 H_24 => ∀ _ : Env,
 R x132 H_24))))
set_option maxRecDepth 100000 in
theorem lighterlaw18_WalEntries.vc (notes0 : Value) (sectors1 : Value) (H0 : Heap) (R : Value → Heap → Prop) (h : lighterlaw18_WalEntries.res notes0 sectors1 H0 R) : CallsH Try.prog 6 #[notes0, sectors1] H0 R := by
  have e : vcFn Try.prog Try.C Try.f6 lighterlaw18_WalEntries.an [notes0, sectors1] H0 R = lighterlaw18_WalEntries.res notes0 sectors1 H0 R := by kernel_rfl
  exact vcFn_sound Try.callable Try.mixed Try.func6 (by kernel_rfl) (e.mpr h)

def lighterlaw18_speaks.an : Ann := (.seq (.reg (.op 0 [] .nil)) (.seq (.reg (.op 0 [] (.op 1 [] (.op 2 [] (.op 3 [] (.op 4 [] (.op 5 [] .nil))))))) (.seq (.reg (.op 0 [] (.op 1 [] (.op 2 [] (.op 3 [] (.op 4 [] (.op 5 [] (.op 6 [] .nil)))))))) (.seq (.seq (.reg (.op 0 [] (.op 1 [] (.op 2 [] (.grp 2 (.op 3 [] (.op 4 [] (.op 5 [] .nil))) 6 .nil))))) (.cond (.seq (.reg (.op 0 [] .nil)) .leaf) .leaf)) (.seq (.reg (.op 0 [] (.op 1 [] (.op 2 [] (.op 3 [] (.op 4 [] (.op 5 [] (.op 6 [] .nil)))))))) (.seq (.reg (.op 0 [] (.op 1 [] (.op 2 [] (.grp 2 (.op 3 [] (.op 4 [] .nil)) 5 (.op 6 [] (.grp 6 (.op 7 [] (.op 8 [] (.op 9 [] .nil))) 10 (.op 11 [] .nil)))))))) .leaf))))))
/-- lighter/lighterlaw18.speaks -/
def lighterlaw18_speaks.res (H0 : Heap) (R : Value → Heap → Prop) : Prop :=
 CallsH Try.prog 8 #[(.int .i64 4)] H0 fun x8 H_1 =>
 pExtract 0 x8 fun x9 =>
 pExtract 1 x8 fun x10 =>
 CallsH Try.prog 9 #[x9, (.int .i64 1), (.int .i64 3)] H_1 fun x13 H_2 =>
 pExtract 0 x13 fun x14 =>
 pExtract 1 x13 fun x15 =>
 pNe 0 x15 (.int .i64 0) fun x17 =>
 pOr x17 (fun J_3 =>
 CallsH Try.prog 10 #[x14, (str [97])] H_2 fun x20 H_5 =>
 pNe 0 x20 (.int .i64 0) fun x21 =>
 J_3 x21 H_5) H_2 fun x22 H_4 => ∀ _ : Env,
 pCond x22
 (R (.bool false) H_4)
 (CallsH Try.prog 13 #[x14] H_4 fun x25 H_6 =>
 pExtract 0 x25 fun x26 =>
 pExtract 1 x25 fun x27 =>
 pEq 1 x26 (str [97]) fun x29 =>
 pAnd x29 (fun J_7 =>
 pEq 0 x27 (.int .u64 1) fun x32 =>
 J_7 x32 H_6) H_6 fun x33 H_8 => ∀ _ : Env,
 pAnd x33 (fun J_9 =>
 CallsH Try.prog 15 #[(.int .u64 1), (str [97])] H_8 fun x35 H_11 =>
 pLenS x35 fun x36 =>
 pEq 0 x36 (.int .i64 64) fun x37 =>
 J_9 x37 H_11) H_8 fun x38 H_10 => ∀ _ : Env,
 R x38 H_10)
set_option maxRecDepth 100000 in
theorem lighterlaw18_speaks.vc (H0 : Heap) (R : Value → Heap → Prop) (h : lighterlaw18_speaks.res H0 R) : CallsH Try.prog 7 #[] H0 R := by
  have e : vcFn Try.prog Try.C Try.f7 lighterlaw18_speaks.an [] H0 R = lighterlaw18_speaks.res H0 R := by kernel_rfl
  exact vcFn_sound Try.callable Try.mixed Try.func7 (by kernel_rfl) (e.mpr h)

end Go.Proofs.Ytaopejkbnohiiaa
