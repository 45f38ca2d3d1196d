/- The residuals of package lighterlaw17's functions, printed by resid.py. -/
import Derived.Test.YthadmceioakgnaaVcSeat
namespace Go.Proofs.Ythadmceioakgnaa
open Go Go.Vc Go.Proofs
set_option linter.unusedVariables false
set_option maxHeartbeats 4000000
def lighterlaw17_DiskLasts.an : Ann := (.seq (.reg (.op 0 [] .nil)) (.seq (.seq (.reg (.op 0 [] (.op 1 [] .nil))) (.cond (.seq (.reg (.op 0 [] .nil)) .leaf) .leaf)) (.seq (.reg (.op 0 [] (.op 1 [] (.op 2 [] (.op 3 [] (.op 4 [] (.op 5 [] .nil))))))) (.seq (.seq (.reg (.op 0 [] .nil)) (.block (.loop [9] [9, 26, 27, 28, 29, 30, 31, 32, 33, 34, 35, 36, 37, 38, 39, 40, 41, 42, 43, 44, 45, 46, 47, 48, 49] (.seq (.seq (.reg (.op 0 [] (.op 1 [] (.op 2 [] (.op 3 [] (.op 4 [] (.grp 4 (.op 5 [] (.op 6 [] .nil)) 7 .nil))))))) (.cond .leaf .leaf)) (.seq (.block (.drw [0, 0, 0, 6, 14, 30, 62, 0, 0, 384, 896, 1920, 3968, 8191] (.op 0 [] (.op 1 [] (.op 2 [] (.op 3 [] (.op 4 [] (.op 5 [] (.op 6 [] (.op 7 [] (.op 8 [] (.op 9 [] (.op 10 [] (.op 11 [] (.op 12 [5] (.op 13 [] .nil)))))))))))))))) (.reg (.op 0 [] (.op 1 [] (.op 2 [] .nil))))))))) (.seq (.seq (.reg (.op 0 [] (.op 1 [] (.op 2 [] .nil)))) (.cond (.seq (.reg (.op 0 [] .nil)) .leaf) .leaf)) (.seq (.reg (.op 0 [] (.op 1 [] (.op 2 [] (.op 3 [] (.op 4 [] (.op 5 [] .nil))))))) (.seq (.seq (.reg (.op 0 [] .nil)) (.block (.loop [12] [12, 57, 58, 59, 60, 61, 62, 63, 64, 65, 66, 67, 68, 69, 70, 71, 72, 73, 74, 75, 76, 77, 78, 79, 80, 81, 82, 83, 84, 85, 86, 87, 88, 89, 90, 91, 92, 93, 94] (.seq (.seq (.reg (.op 0 [] (.op 1 [] (.op 2 [] (.op 3 [] (.op 4 [] (.grp 4 (.op 5 [] (.op 6 [] .nil)) 7 .nil))))))) (.cond .leaf .leaf)) (.seq (.block (.seq (.drw [0, 0, 0, 6, 14, 30, 62, 0, 0, 384, 896, 1920, 3968, 8191] (.op 0 [] (.op 1 [] (.op 2 [] (.op 3 [] (.op 4 [] (.op 5 [] (.op 6 [] (.op 7 [] (.op 8 [] (.op 9 [] (.op 10 [] (.op 11 [] (.op 12 [5] (.op 13 [] .nil))))))))))))))) (.drw [0, 0, 0, 6, 14, 30, 62, 0, 0, 384, 896, 1920, 3968, 8191] (.op 0 [] (.op 1 [] (.op 2 [] (.op 3 [] (.op 4 [] (.op 5 [] (.op 6 [] (.op 7 [] (.op 8 [] (.op 9 [] (.op 10 [] (.op 11 [] (.op 12 [5] (.op 13 [] .nil))))))))))))))))) (.reg (.op 0 [] (.op 1 [] (.op 2 [] .nil))))))))) (.seq (.reg (.op 0 [] (.op 1 [] (.op 2 [] .nil)))) (.seq (.reg (.op 0 [] (.op 1 [] .nil))) (.seq (.seq (.reg (.op 0 [] .nil)) (.block (.loop [13] [6, 13, 14, 15, 16, 17, 18, 19, 100, 101, 102, 103, 104, 105, 106, 107, 108, 109, 110, 111, 112, 113, 114, 115, 116, 117, 118, 119, 120, 121, 122, 123, 124, 125, 126, 127, 128, 129, 130, 131, 132, 133, 134, 135, 136, 137, 138, 139, 140, 141, 142, 143, 144, 145, 146, 147] (.seq (.seq (.reg (.op 0 [] (.op 1 [] .nil))) (.cond .leaf .leaf)) (.seq (.block (.seq (.reg (.op 0 [] (.op 1 [] (.op 2 [] (.op 3 [] (.op 4 [] (.op 5 [] (.op 6 [] (.op 7 [] .nil))))))))) (.seq (.reg (.op 0 [] (.op 1 [] (.op 2 [] (.op 3 [] (.op 4 [] (.op 5 [] (.op 6 [] (.op 7 [] .nil))))))))) (.seq (.reg (.op 0 [] (.op 1 [] (.op 2 [] (.op 3 [] (.op 4 [] (.op 5 [] (.op 6 [] (.op 7 [] .nil))))))))) (.seq (.drw [0, 0, 3, 7, 15, 15, 63, 127, 255, 511, 511, 1535, 511, 4607, 15871, 32767, 65535, 131071, 262143, 262143, 786431, 262143, 2359295, 8126463, 16777215, 33554431] (.op 0 [] (.op 1 [] (.op 2 [] (.op 3 [] (.grp 3 (.op 4 [] (.op 5 [] (.op 6 [] .nil))) 7 (.op 8 [] (.grp 8 (.op 9 [] (.op 10 [] (.op 11 [] (.op 12 [] (.op 13 [] (.op 14 [] (.op 15 [] .nil))))))) 16 (.op 17 [] (.grp 17 (.op 18 [] (.op 19 [] (.op 20 [] (.op 21 [] (.op 22 [] (.op 23 [] (.op 24 [] .nil))))))) 25 .nil)))))))))) (.cond (.seq (.reg (.op 0 [] .nil)) .leaf) .leaf)))))) (.reg (.op 0 [] (.op 1 [] (.op 2 [] .nil))))))))) (.seq (.reg (.op 0 [] .nil)) .leaf)))))))))))
/-- lighter/lighterlaw17.DiskLasts -/
def lighterlaw17_DiskLasts.res (before0 : Value) (behind1 : Value) (fates2 : Value) (H0 : Heap) (R : Value → Heap → Prop) : Prop :=
 CallsH Try.prog 7 #[] H0 fun x20 H_1 =>
 pNot x20 fun x21 =>
 pCond x21
 (R (.bool false) H_1)
 (CallsH Try.prog 8 #[(.int .i64 8)] H_1 fun x23 H_2 =>
 pExtract 0 x23 fun x24 =>
 pExtract 1 x23 fun x25 =>
 ∃ (I_3 : Value → Heap → Prop) (m_4 : Value → Heap → Nat), I_3 (.int .i64 0) H_2 ∧
 ∀ _ : Env, ∀ i9 : Value, ∀ H_5 : Heap, I_3 i9 H_5 →
 pLen before0 fun x28 =>
 pLt i9 x28 fun x29 =>
 pAnd x29 (fun J_6 =>
 pLt i9 (.int .i64 20) fun x32 =>
 J_6 x32 H_5) H_5 fun x33 H_7 => ∀ _ : Env,
 pCond x33
 (pIdxSl 5 before0 i9 fun x39 =>
 pFieldAddr 1 x39 fun x40 =>
 pLoad H_7 x40 fun x41 =>
 pBits .and x41 (.int .i64 7) fun x42 =>
 pIdxSl 5 before0 i9 fun x45 =>
 pFieldAddr 2 x45 fun x46 =>
 pLoad H_7 x46 fun x47 =>
 CallsH Try.prog 10 #[x47] H_7 fun x48 H_8 =>
 (pLoad H_8 x40 fun r_ =>
 r_ = x41) ∧
 CallsH Try.prog 9 #[x24, x42, x48] H_8 fun x49 H_9 =>
 pAdd i9 (.int .i64 1) fun x35 =>
 I_3 x35 H_9 ∧ m_4 x35 H_9 < m_4 i9 H_5)
 (CallsH Try.prog 11 #[x24] H_7 fun x51 H_10 =>
 pNe 0 x51 (.int .i64 0) fun x52 =>
 pCond x52
 (R (.bool false) H_10)
 (CallsH Try.prog 12 #[x24] H_10 fun x54 H_11 =>
 CallsH Try.prog 12 #[x24] H_11 fun x56 H_12 =>
 ∃ (I_13 : Value → Heap → Prop) (m_14 : Value → Heap → Nat), I_13 (.int .i64 0) H_12 ∧
 ∀ _ : Env, ∀ i12 : Value, ∀ H_15 : Heap, I_13 i12 H_15 →
 pLen behind1 fun x59 =>
 pLt i12 x59 fun x60 =>
 pAnd x60 (fun J_16 =>
 pLt i12 (.int .i64 20) fun x63 =>
 J_16 x63 H_15) H_15 fun x64 H_17 => ∀ _ : Env,
 pCond x64
 (pIdxSl 5 behind1 i12 fun x70 =>
 pFieldAddr 1 x70 fun x71 =>
 pLoad H_17 x71 fun x72 =>
 pBits .and x72 (.int .i64 7) fun x73 =>
 pIdxSl 5 behind1 i12 fun x76 =>
 pFieldAddr 2 x76 fun x77 =>
 pLoad H_17 x77 fun x78 =>
 CallsH Try.prog 10 #[x78] H_17 fun x79 H_18 =>
 (pLoad H_18 x71 fun r_ =>
 r_ = x72) ∧
 CallsH Try.prog 9 #[x24, x73, x79] H_18 fun x80 H_19 =>
 pIdxSl 5 behind1 i12 fun x84 =>
 pFieldAddr 1 x84 fun x85 =>
 pLoad H_19 x85 fun x86 =>
 pBits .and x86 (.int .i64 7) fun x87 =>
 pIdxSl 5 behind1 i12 fun x90 =>
 pFieldAddr 2 x90 fun x91 =>
 pLoad H_19 x91 fun x92 =>
 CallsH Try.prog 10 #[x92] H_19 fun x93 H_20 =>
 (pLoad H_20 x85 fun r_ =>
 r_ = x86) ∧
 CallsH Try.prog 9 #[x56, x87, x93] H_20 fun x94 H_21 =>
 pAdd i12 (.int .i64 1) fun x66 =>
 I_13 x66 H_21 ∧ m_14 x66 H_21 < m_14 i12 H_15)
 (CallsH Try.prog 13 #[x24, fates2] H_17 fun x97 H_22 =>
 CallsH Try.prog 14 #[x24] H_22 fun x99 H_23 =>
 ∃ (I_24 : Value → Heap → Prop) (m_25 : Value → Heap → Nat), I_24 (.int .i64 0) H_23 ∧
 ∀ _ : Env, ∀ k13 : Value, ∀ H_26 : Heap, I_24 k13 H_26 →
 pLt k13 (.int .i64 8) fun x101 =>
 pCond x101
 (CallsH Try.prog 15 #[x24, k13] H_26 fun x107 H_27 =>
 pExtract 0 x107 fun x108 =>
 pExtract 1 x107 fun x109 =>
 CallsH Try.prog 15 #[x54, k13] H_27 fun x113 H_28 =>
 pExtract 0 x113 fun x114 =>
 pExtract 1 x113 fun x115 =>
 CallsH Try.prog 15 #[x56, k13] H_28 fun x119 H_29 =>
 pExtract 0 x119 fun x120 =>
 pExtract 1 x119 fun x121 =>
 pNe 1 x108 x114 fun x124 =>
 pAnd x124 (fun J_30 =>
 pNe 1 x108 x120 fun x128 =>
 J_30 x128 H_29) H_29 fun x129 H_31 => ∀ _ : Env,
 pAnd x129 (fun J_32 =>
 pSlStr x114 none (some (.int .i64 32)) fun x133 =>
 pSlStr x120 (some (.int .i64 32)) none fun x135 =>
 pAdd x133 x135 fun x136 =>
 pNe 1 x108 x136 fun x137 =>
 J_32 x137 H_31) H_31 fun x138 H_33 => ∀ _ : Env,
 pAnd x138 (fun J_34 =>
 pSlStr x120 none (some (.int .i64 32)) fun x142 =>
 pSlStr x114 (some (.int .i64 32)) none fun x144 =>
 pAdd x142 x144 fun x145 =>
 pNe 1 x108 x145 fun x146 =>
 J_34 x146 H_33) H_33 fun x147 H_35 => ∀ _ : Env,
 pCond x147
 (R (.bool false) H_35)
 (pAdd k13 (.int .i64 1) fun x103 =>
 I_24 x103 H_35 ∧ m_25 x103 H_35 < m_25 k13 H_26))
 (R (.bool true) H_26)))))
set_option maxRecDepth 100000 in
theorem lighterlaw17_DiskLasts.vc (before0 : Value) (behind1 : Value) (fates2 : Value) (H0 : Heap) (R : Value → Heap → Prop) (h : lighterlaw17_DiskLasts.res before0 behind1 fates2 H0 R) : CallsH Try.prog 3 #[before0, behind1, fates2] H0 R := by
  have e : vcFn Try.prog Try.C Try.f3 lighterlaw17_DiskLasts.an [before0, behind1, fates2] H0 R = lighterlaw17_DiskLasts.res before0 behind1 fates2 H0 R := by kernel_rfl
  exact vcFn_sound Try.callable Try.mixed Try.func3 (by kernel_rfl) (e.mpr h)

def lighterlaw17_DiskCopies.an : Ann := (.seq (.reg (.op 0 [] .nil)) (.seq (.seq (.reg (.op 0 [] (.op 1 [] .nil))) (.cond (.seq (.reg (.op 0 [] .nil)) .leaf) .leaf)) (.seq (.reg (.op 0 [] (.op 1 [] (.op 2 [] (.op 3 [] (.op 4 [] (.op 5 [] .nil))))))) (.seq (.seq (.reg (.op 0 [] .nil)) (.block (.loop [9] [9, 21, 22, 23, 24, 25, 26, 27, 28, 29, 30, 31, 32, 33, 34, 35, 36, 37, 38, 39, 40, 41, 42, 43, 44] (.seq (.seq (.reg (.op 0 [] (.op 1 [] (.op 2 [] (.op 3 [] (.op 4 [] (.grp 4 (.op 5 [] (.op 6 [] .nil)) 7 .nil))))))) (.cond .leaf .leaf)) (.seq (.block (.drw [0, 0, 0, 6, 14, 30, 62, 0, 0, 384, 896, 1920, 3968, 8191] (.op 0 [] (.op 1 [] (.op 2 [] (.op 3 [] (.op 4 [] (.op 5 [] (.op 6 [] (.op 7 [] (.op 8 [] (.op 9 [] (.op 10 [] (.op 11 [] (.op 12 [5] (.op 13 [] .nil)))))))))))))))) (.reg (.op 0 [] (.op 1 [] (.op 2 [] .nil))))))))) (.seq (.reg (.op 0 [] (.op 1 [] (.op 2 [] .nil)))) (.seq (.seq (.reg (.op 0 [] (.op 1 [] (.op 2 [] (.op 3 [] (.grp 3 (.op 4 [] (.op 5 [] (.op 6 [] .nil))) 7 .nil)))))) (.cond (.seq (.reg (.op 0 [] .nil)) .leaf) .leaf)) (.seq (.reg (.op 0 [] (.op 1 [] .nil))) (.seq (.reg (.op 0 [] (.op 1 [] .nil))) (.seq (.seq (.reg (.op 0 [] (.op 1 [] (.op 2 [] (.op 3 [] (.op 4 [] (.grp 4 (.op 5 [] (.op 6 [] (.op 7 [] (.op 8 [] .nil)))) 9 .nil))))))) (.cond (.seq (.reg (.op 0 [] .nil)) .leaf) .leaf)) (.seq (.reg (.op 0 [] (.op 1 [] (.op 2 [] (.op 3 [] (.op 4 [] (.op 5 [] (.op 6 [] (.op 7 [] (.op 8 [] .nil)))))))))) (.seq (.reg (.op 0 [] (.op 1 [] (.op 2 [] (.op 3 [] (.op 4 [] (.op 5 [] .nil))))))) (.seq (.reg (.op 0 [] (.op 1 [] (.op 2 [] (.op 3 [] (.op 4 [] (.op 5 [] (.op 6 [] (.op 7 [] (.op 8 [] .nil)))))))))) (.seq (.reg (.op 0 [] (.op 1 [] .nil))) (.seq (.reg (.op 0 [] (.op 1 [] (.op 2 [] (.op 3 [] (.grp 3 (.op 4 [] (.op 5 [] (.op 6 [] (.op 7 [] (.op 8 [] (.op 9 [] (.op 10 [] (.op 11 [] .nil)))))))) 12 (.op 13 [] .nil))))))) .leaf))))))))))))))
/-- lighter/lighterlaw17.DiskCopies -/
def lighterlaw17_DiskCopies.res (l0 : Value) (at1 : Value) (b2 : Value) (H0 : Heap) (R : Value → Heap → Prop) : Prop :=
 CallsH Try.prog 7 #[] H0 fun x15 H_1 =>
 pNot x15 fun x16 =>
 pCond x16
 (R (.bool false) H_1)
 (CallsH Try.prog 8 #[(.int .i64 8)] H_1 fun x18 H_2 =>
 pExtract 0 x18 fun x19 =>
 pExtract 1 x18 fun x20 =>
 ∃ (I_3 : Value → Heap → Prop) (m_4 : Value → Heap → Nat), I_3 (.int .i64 0) H_2 ∧
 ∀ _ : Env, ∀ i9 : Value, ∀ H_5 : Heap, I_3 i9 H_5 →
 pLen l0 fun x23 =>
 pLt i9 x23 fun x24 =>
 pAnd x24 (fun J_6 =>
 pLt i9 (.int .i64 20) fun x27 =>
 J_6 x27 H_5) H_5 fun x28 H_7 => ∀ _ : Env,
 pCond x28
 (pIdxSl 5 l0 i9 fun x34 =>
 pFieldAddr 1 x34 fun x35 =>
 pLoad H_7 x35 fun x36 =>
 pBits .and x36 (.int .i64 7) fun x37 =>
 pIdxSl 5 l0 i9 fun x40 =>
 pFieldAddr 2 x40 fun x41 =>
 pLoad H_7 x41 fun x42 =>
 CallsH Try.prog 10 #[x42] H_7 fun x43 H_8 =>
 (pLoad H_8 x35 fun r_ =>
 r_ = x36) ∧
 CallsH Try.prog 9 #[x19, x37, x43] H_8 fun x44 H_9 =>
 pAdd i9 (.int .i64 1) fun x30 =>
 I_3 x30 H_9 ∧ m_4 x30 H_9 < m_4 i9 H_5)
 (CallsH Try.prog 12 #[x19] H_7 fun x46 H_10 =>
 pLen l0 fun x48 =>
 pGt x48 (.int .i64 0) fun x49 =>
 pAnd x49 (fun J_11 =>
 CallsH Try.prog 16 #[x19, x46] H_10 fun x53 H_13 =>
 J_11 x53 H_13) H_10 fun x54 H_12 => ∀ _ : Env,
 pCond x54
 (R (.bool false) H_12)
 (CallsH Try.prog 11 #[x19] H_12 fun x56 H_14 =>
 CallsH Try.prog 11 #[x46] H_14 fun x58 H_15 =>
 CallsH Try.prog 16 #[x19, x46] H_15 fun x61 H_16 =>
 pNot x61 fun x62 =>
 pOr x62 (fun J_17 =>
 CallsH Try.prog 16 #[x46, x19] H_16 fun x66 H_19 =>
 pNot x66 fun x67 =>
 J_17 x67 H_19) H_16 fun x68 H_18 => ∀ _ : Env,
 pCond x68
 (R (.bool false) H_18)
 (pBits .and at1 (.int .i64 7) fun x72 =>
 CallsH Try.prog 15 #[x19, x72] H_18 fun x73 H_20 =>
 pExtract 0 x73 fun x74 =>
 pExtract 1 x73 fun x75 =>
 pBits .and at1 (.int .i64 7) fun x78 =>
 CallsH Try.prog 10 #[b2] H_20 fun x80 H_21 =>
 CallsH Try.prog 9 #[x46, x78, x80] H_21 fun x81 H_22 =>
 pBits .and at1 (.int .i64 7) fun x85 =>
 CallsH Try.prog 15 #[x19, x85] H_22 fun x86 H_23 =>
 pExtract 0 x86 fun x87 =>
 pExtract 1 x86 fun x88 =>
 CallsH Try.prog 11 #[x46] H_23 fun x90 H_24 =>
 pEq 1 x87 x74 fun x93 =>
 pAnd x93 (fun J_25 =>
 CallsH Try.prog 16 #[x19, x46] H_24 fun x97 H_27 =>
 CallsH Try.prog 10 #[b2] H_27 fun x100 H_28 =>
 pEq 1 x74 x100 fun x101 =>
 pEq 2 x97 x101 fun x102 =>
 J_25 x102 H_28) H_24 fun x103 H_26 => ∀ _ : Env,
 R x103 H_26))))
set_option maxRecDepth 100000 in
theorem lighterlaw17_DiskCopies.vc (l0 : Value) (at1 : Value) (b2 : Value) (H0 : Heap) (R : Value → Heap → Prop) (h : lighterlaw17_DiskCopies.res l0 at1 b2 H0 R) : CallsH Try.prog 4 #[l0, at1, b2] H0 R := by
  have e : vcFn Try.prog Try.C Try.f4 lighterlaw17_DiskCopies.an [l0, at1, b2] H0 R = lighterlaw17_DiskCopies.res l0 at1 b2 H0 R := by kernel_rfl
  exact vcFn_sound Try.callable Try.mixed Try.func4 (by kernel_rfl) (e.mpr h)

def lighterlaw17_DiskNone.an : Ann := (.seq (.reg (.op 0 [] .nil)) (.seq (.seq (.reg (.op 0 [] (.op 1 [] .nil))) (.cond (.seq (.reg (.op 0 [] .nil)) .leaf) .leaf)) (.cut [0] [0, 13, 14, 15, 16, 17, 18] (.seq (.reg (.op 0 [] (.op 1 [] (.op 2 [] (.grp 2 (.op 3 [] (.op 4 [] .nil)) 5 .nil))))) (.cond (.reg (.op 0 [] .nil)) .leaf)) (.seq (.reg (.op 0 [] (.op 1 [] (.op 2 [] (.op 3 [] (.op 4 [] (.op 5 [] (.op 6 [] .nil)))))))) (.seq (.seq (.reg (.op 0 [] (.op 1 [] (.op 2 [] (.grp 2 (.op 3 [] (.op 4 [] .nil)) 5 (.op 6 [] .nil)))))) (.seq (.reg (.op 0 [] (.op 1 [] (.op 2 [] (.op 3 [] (.op 4 [] (.grp 4 (.op 5 [] (.op 6 [] (.op 7 [] (.op 8 [] .nil)))) 9 (.op 10 [] (.grp 10 (.op 11 [] (.op 12 [] (.op 13 [] (.grp 13 (.op 14 [] (.op 15 [] .nil)) 16 .nil)))) 17 .nil))))))))) (.cond (.seq (.reg (.op 0 [] .nil)) .leaf) .leaf))) (.seq (.seq (.reg (.op 0 [] (.op 1 [] (.op 2 [] (.grp 2 (.op 3 [] (.op 4 [] (.op 5 [] .nil))) 6 (.op 7 [] (.grp 7 (.op 8 [] (.op 9 [] (.op 10 [] (.op 11 [] .nil)))) 12 .nil))))))) (.cond (.seq (.reg (.op 0 [] .nil)) .leaf) .leaf)) (.seq (.reg (.op 0 [] .nil)) (.seq (.reg (.op 0 [] (.op 1 [] (.op 2 [] (.op 3 [] (.op 4 [] (.op 5 [] (.op 6 [] .nil)))))))) (.seq (.reg (.op 0 [] (.op 1 [] .nil))) (.seq (.reg (.op 0 [] (.op 1 [] .nil))) (.seq (.reg (.op 0 [] (.op 1 [] .nil))) (.seq (.reg (.op 0 [] (.op 1 [] (.op 2 [] (.grp 2 (.op 3 [] (.op 4 [] (.op 5 [] (.op 6 [] .nil)))) 7 (.op 8 [] (.grp 8 (.op 9 [] (.op 10 [] (.op 11 [] .nil))) 12 (.op 13 [] (.grp 13 (.op 14 [] (.op 15 [] (.op 16 [] .nil))) 17 (.op 18 [] (.grp 18 (.op 19 [] (.op 20 [] (.op 21 [] .nil))) 22 (.op 23 [] (.grp 23 (.op 24 [] (.op 25 [] (.op 26 [] .nil))) 27 (.op 28 [] (.grp 28 (.op 29 [] (.op 30 [] (.op 31 [] (.op 32 [] .nil)))) 33 (.op 34 [] .nil)))))))))))))))) .leaf))))))))))))
/-- lighter/lighterlaw17.DiskNone -/
def lighterlaw17_DiskNone.res (sectors0 : Value) (s1 : Value) (H0 : Heap) (R : Value → Heap → Prop) : Prop :=
 CallsH Try.prog 7 #[] H0 fun x11 H_1 =>
 pNot x11 fun x12 =>
 pCond x12
 (R (.bool false) H_1)
 (∃ J_2 : Value → Heap → Prop, (∀ _ : Env, ∀ sectors0' : Value, ∀ H_3 : Heap, J_2 sectors0' H_3 →
 CallsH Try.prog 8 #[sectors0'] H_3 fun x21 H_4 =>
 pExtract 0 x21 fun x22 =>
 pExtract 1 x21 fun x23 =>
 pGe sectors0' (.int .i64 1) fun x25 =>
 pAnd x25 (fun J_5 =>
 pLe sectors0' (.int .i64 65536) fun x28 =>
 J_5 x28 H_4) H_4 fun x29 H_6 => ∀ _ : Env,
 pEq 0 x23 (.int .i64 0) fun x31 =>
 pNe 2 x31 x29 fun x33 =>
 pOr x33 (fun J_7 =>
 pNe 3 x22 (.pointer none) fun x36 =>
 pNe 2 x36 x29 fun x38 =>
 J_7 x38 H_6) H_6 fun x39 H_8 => ∀ _ : Env,
 pOr x39 (fun J_9 =>
 pNot x29 fun x42 =>
 pAnd x42 (fun J_11 =>
 pNe 0 x23 (.int .i64 1) fun x45 =>
 J_11 x45 H_8) H_8 fun x46 H_12 => ∀ _ : Env,
 J_9 x46 H_12) H_8 fun x47 H_10 => ∀ _ : Env,
 pCond x47
 (R (.bool false) H_10)
 (pNe 3 x22 (.pointer none) fun x49 =>
 pAnd x49 (fun J_13 =>
 pLenS s1 fun x52 =>
 pNe 0 x52 (.int .i64 64) fun x53 =>
 J_13 x53 H_10) H_10 fun x54 H_14 => ∀ _ : Env,
 pAnd x54 (fun J_15 =>
 CallsH Try.prog 9 #[x22, (.int .i64 0), s1] H_14 fun x58 H_17 =>
 pNe 0 x58 (.int .i64 1) fun x59 =>
 J_15 x59 H_17) H_14 fun x60 H_16 => ∀ _ : Env,
 pCond x60
 (R (.bool false) H_16)
 (CallsH Try.prog 15 #[(.pointer none), (.int .i64 0)] H_16 fun x63 H_18 =>
 pExtract 0 x63 fun x64 =>
 pExtract 1 x63 fun x65 =>
 CallsH Try.prog 13 #[(.pointer none), (.slice none 0 0)] H_18 fun x67 H_19 =>
 CallsH Try.prog 17 #[(.pointer none), (.int .i64 1)] H_19 fun x69 H_20 =>
 CallsH Try.prog 14 #[(.pointer none)] H_20 fun x71 H_21 =>
 pEq 0 x65 (.int .i64 1) fun x73 =>
 pAnd x73 (fun J_22 =>
 CallsH Try.prog 9 #[(.pointer none), (.int .i64 0), s1] H_21 fun x77 H_24 =>
 pEq 0 x77 (.int .i64 1) fun x78 =>
 J_22 x78 H_24) H_21 fun x79 H_23 => ∀ _ : Env,
 pAnd x79 (fun J_25 =>
 CallsH Try.prog 11 #[(.pointer none)] H_23 fun x82 H_27 =>
 pEq 0 x82 (.int .i64 1) fun x83 =>
 J_25 x83 H_27) H_23 fun x84 H_26 => ∀ _ : Env,
 pAnd x84 (fun J_28 =>
 CallsH Try.prog 18 #[(.pointer none)] H_26 fun x87 H_30 =>
 pNot x87 fun x88 =>
 J_28 x88 H_30) H_26 fun x89 H_29 => ∀ _ : Env,
 pAnd x89 (fun J_31 =>
 CallsH Try.prog 19 #[(.pointer none)] H_29 fun x92 H_33 =>
 pEq 0 x92 (.int .i64 0) fun x93 =>
 J_31 x93 H_33) H_29 fun x94 H_32 => ∀ _ : Env,
 pAnd x94 (fun J_34 =>
 CallsH Try.prog 12 #[(.pointer none)] H_32 fun x97 H_36 =>
 pEq 3 x97 (.pointer none) fun x98 =>
 J_34 x98 H_36) H_32 fun x99 H_35 => ∀ _ : Env,
 pAnd x99 (fun J_37 =>
 CallsH Try.prog 16 #[(.pointer none), (.pointer none)] H_35 fun x103 H_39 =>
 pNot x103 fun x104 =>
 J_37 x104 H_39) H_35 fun x105 H_38 => ∀ _ : Env,
 R x105 H_38))) ∧
 pGt sectors0 (.int .i64 4000) fun x14 =>
 pAnd x14 (fun J_40 =>
 pLe sectors0 (.int .i64 65536) fun x17 =>
 J_40 x17 H_1) H_1 fun x18 H_41 => ∀ _ : Env,
 pCond x18
 (J_2 (.int .i64 4000) H_41)
 (J_2 sectors0 H_41))
set_option maxRecDepth 100000 in
theorem lighterlaw17_DiskNone.vc (sectors0 : Value) (s1 : Value) (H0 : Heap) (R : Value → Heap → Prop) (h : lighterlaw17_DiskNone.res sectors0 s1 H0 R) : CallsH Try.prog 5 #[sectors0, s1] H0 R := by
  have e : vcFn Try.prog Try.C Try.f5 lighterlaw17_DiskNone.an [sectors0, s1] H0 R = lighterlaw17_DiskNone.res sectors0 s1 H0 R := by kernel_rfl
  exact vcFn_sound Try.callable Try.mixed Try.func5 (by kernel_rfl) (e.mpr h)

def lighterlaw17_DiskImages.an : Ann := (.seq (.reg (.op 0 [] .nil)) (.seq (.seq (.reg (.op 0 [] (.op 1 [] .nil))) (.cond (.seq (.reg (.op 0 [] .nil)) .leaf) .leaf)) (.seq (.reg (.op 0 [] (.op 1 [] (.op 2 [] (.op 3 [] (.op 4 [] (.op 5 [] .nil))))))) (.seq (.reg (.op 0 [] (.op 1 [] (.op 2 [] .nil)))) (.seq (.seq (.reg (.op 0 [] .nil)) (.block (.loop [8] [8, 29, 30, 31, 32, 33, 34, 35, 36, 37, 38] (.seq (.seq (.reg (.op 0 [] (.op 1 [] .nil))) (.cond .leaf .leaf)) (.seq (.block (.drw [0, 1, 0, 4, 15, 31, 63] (.op 0 [] (.op 1 [] (.op 2 [1] (.op 3 [1] (.op 4 [] (.op 5 [] (.op 6 [] .nil))))))))) (.reg (.op 0 [] (.op 1 [] (.op 2 [] .nil))))))))) (.seq (.seq (.reg (.op 0 [] .nil)) (.block (.loop [9] [4, 9, 10, 11, 12, 13, 14, 39, 40, 41, 42, 43, 44, 45, 46, 47, 48, 49, 50, 51, 52, 53, 54, 55, 56, 57, 58, 59, 60, 61, 62, 63, 64, 65, 66, 67, 68, 69, 70, 71, 72, 73, 74, 75, 76, 77, 78, 79, 80, 81, 82, 83, 84, 85, 86, 87, 88, 89, 90, 91, 92, 93, 94, 95, 96, 97, 98, 99, 100, 101, 102, 103, 104, 105, 106, 107, 108, 109, 110, 111, 112, 113, 114, 115, 116, 117, 118, 119, 120, 121, 122, 123, 124, 125, 126, 127, 128, 129, 130, 131, 132, 133, 134, 135, 136] (.seq (.seq (.reg (.op 0 [] (.op 1 [] (.op 2 [] (.op 3 [] (.op 4 [] (.grp 4 (.op 5 [] (.op 6 [] .nil)) 7 .nil))))))) (.cond .leaf .leaf)) (.seq (.block (.seq (.reg (.op 0 [] (.op 1 [] (.op 2 [] (.op 3 [] (.op 4 [] (.op 5 [] .nil))))))) (.cut [] [53, 54, 55, 56, 57, 58, 59, 60, 61, 62, 63, 64, 65, 66, 67, 68, 69, 70, 71, 72, 73, 74, 75, 76, 77, 78, 79, 80, 81, 82, 83, 84, 85, 86, 87, 88, 89, 90, 91, 92, 93, 94] (.seq (.reg (.op 0 [] (.op 1 [] (.op 2 [] .nil)))) (.block (.seq (.reg (.op 0 [] (.op 1 [] .nil))) (.cond (.seq (.reg (.op 0 [] (.op 1 [] .nil))) (.reg (.op 0 [] (.op 1 [] (.op 2 [] (.op 3 [] (.op 4 [] (.op 5 [] .nil)))))))) (.seq (.reg (.op 0 [] (.op 1 [] .nil))) (.cond (.seq (.reg (.op 0 [] (.op 1 [] (.op 2 [] (.op 3 [] .nil))))) (.seq (.reg (.op 0 [] (.op 1 [] .nil))) (.seq (.reg (.op 0 [] (.op 1 [] (.op 2 [] (.op 3 [] (.op 4 [] .nil)))))) (.reg (.op 0 [] (.op 1 [] .nil)))))) (.seq (.drw [0, 0, 2, 0, 8, 24, 63] (.op 0 [] (.op 1 [] (.op 2 [] (.op 3 [] (.op 4 [] (.op 5 [2] (.op 6 [] .nil)))))))) (.drw [0, 0, 2, 0, 8, 24, 63, 127, 255, 255, 511] (.op 0 [] (.op 1 [] (.op 2 [] (.op 3 [] (.op 4 [] (.op 5 [0, 2] (.op 6 [] (.op 7 [] (.op 8 [] (.op 9 [] (.op 10 [] .nil))))))))))))))))))) (.seq (.reg (.op 0 [] .nil)) (.seq (.seq (.reg (.op 0 [] .nil)) (.block (.loop [11, 12] [11, 12, 95, 96, 97, 98, 99, 100, 101, 102, 103, 104, 105] (.seq (.seq (.reg (.op 0 [] (.op 1 [] .nil))) (.cond .leaf .leaf)) (.seq (.block (.reg (.op 0 [] (.op 1 [] (.op 2 [] (.op 3 [] (.op 4 [] (.op 5 [] (.op 6 [] (.op 7 [] .nil)))))))))) (.reg (.op 0 [] (.op 1 [] (.op 2 [] .nil))))))))) (.seq (.reg (.op 0 [] (.op 1 [] (.op 2 [] .nil)))) (.seq (.seq (.reg (.op 0 [] (.op 1 [] (.op 2 [] (.op 3 [] (.op 4 [] (.grp 4 (.op 5 [] (.op 6 [] (.op 7 [] (.op 8 [] (.op 9 [] (.op 10 [] .nil)))))) 11 .nil))))))) (.cond (.seq (.reg (.op 0 [] .nil)) .leaf) .leaf)) (.seq (.reg (.op 0 [] .nil)) (.block (.loop [14] [4, 14, 120, 121, 122, 123, 124, 125, 126, 127, 128, 129, 130, 131, 132, 133, 134, 135, 136] (.seq (.seq (.reg (.op 0 [] (.op 1 [] (.op 2 [] (.op 3 [] .nil))))) (.cond .leaf .leaf)) (.seq (.block (.seq (.drw [0, 0, 3, 7, 0, 16, 0, 112, 240, 496, 1023] (.op 0 [] (.op 1 [] (.op 2 [] (.op 3 [] (.op 4 [] (.op 5 [] (.op 6 [] (.op 7 [] (.op 8 [] (.op 9 [] (.op 10 [] .nil)))))))))))) (.cond (.seq (.reg (.op 0 [] .nil)) .leaf) .leaf))) (.reg (.op 0 [] (.op 1 [] (.op 2 [] .nil)))))))))))))))) (.reg (.op 0 [] (.op 1 [] (.op 2 [] .nil))))))))) (.seq (.reg (.op 0 [] (.op 1 [] (.op 2 [] .nil)))) (.seq (.reg (.op 0 [] (.op 1 [] (.op 2 [] (.op 3 [] (.op 4 [] (.op 5 [] (.op 6 [] .nil)))))))) (.seq (.reg (.op 0 [] (.op 1 [] (.op 2 [] (.op 3 [] (.op 4 [] (.op 5 [] .nil))))))) (.seq (.reg (.op 0 [] (.op 1 [] (.op 2 [] (.op 3 [] (.op 4 [] (.op 5 [] (.op 6 [] (.op 7 [] (.op 8 [] .nil)))))))))) (.seq (.reg (.op 0 [] (.op 1 [] .nil))) (.seq (.reg (.op 0 [] .nil)) (.seq (.reg (.op 0 [] (.op 1 [] (.op 2 [] (.grp 2 (.op 3 [] (.op 4 [] (.op 5 [] (.op 6 [] .nil)))) 7 (.op 8 [] (.grp 8 (.op 9 [] (.op 10 [] .nil)) 11 (.op 12 [] (.grp 12 (.op 13 [] (.op 14 [] (.op 15 [] (.op 16 [] (.op 17 [] (.grp 17 (.op 18 [] (.op 19 [] (.op 20 [] .nil))) 21 (.op 22 [] .nil))))))) 23 (.op 24 [] (.grp 24 (.op 25 [] (.op 26 [] (.op 27 [] (.op 28 [] (.op 29 [] (.grp 29 (.op 30 [] (.op 31 [] (.op 32 [] .nil))) 33 .nil)))))) 34 (.op 35 [] (.grp 35 (.op 36 [] (.op 37 [] (.op 38 [] (.op 39 [] .nil)))) 40 (.op 41 [] (.grp 41 (.op 42 [] (.op 43 [] (.op 44 [] .nil))) 45 (.op 46 [] .nil)))))))))))))))) .leaf)))))))))))))
/-- lighter/lighterlaw17.DiskImages -/
def lighterlaw17_DiskImages.res (l0 : Value) (cut1 : Value) (H0 : Heap) (R : Value → Heap → Prop) : Prop :=
 CallsH Try.prog 7 #[] H0 fun x22 H_1 =>
 pNot x22 fun x23 =>
 pCond x23
 (R (.bool false) H_1)
 (CallsH Try.prog 8 #[(.int .i64 6)] H_1 fun x25 H_2 =>
 pExtract 0 x25 fun x26 =>
 pExtract 1 x25 fun x27 =>
 pBuild [(.slice none 0 0), (.slice none 0 0), (.bool false), (.int .i64 0)] [(3, 1, (.int .i64 (-1)))] fun x28 =>
 pBox H_2 47 (.agg #[(.slice none 0 0), (.slice none 0 0), (.bool false), (.int .i64 0)]) fun w7 H_3 =>
 pStoreN H_3 4 w7 x28 fun _ H_4 =>
 ∃ (I_5 : Value → Heap → Prop) (m_6 : Value → Heap → Nat), I_5 (.int .i64 0) H_4 ∧
 ∀ _ : Env, ∀ i8 : Value, ∀ H_7 : Heap, I_5 i8 H_7 →
 pLt i8 (.int .i64 6) fun x30 =>
 pCond x30
 (pFieldAddr 0 w7 fun x33 =>
 pLoad H_7 x33 fun x34 =>
 CallsH Try.prog 10 #[(.int .u8 0)] H_7 fun x35 H_8 =>
 (pLoad H_8 x33 fun r_ =>
 r_ = x34) ∧
 pBuildSl H_8 9 1 [(str [])] [(0, 1, x35)] fun x36 H_9 =>
 (pLoad H_9 x33 fun r_ =>
 r_ = x34) ∧
 pAppend H_9 9 1 16 [(str [])] x34 x36 fun x37 H_10 =>
 pFieldAddr 0 w7 fun x38 =>
 pStore H_10 x38 x37 fun _ H_11 =>
 pAdd i8 (.int .i64 1) fun x32 =>
 I_5 x32 H_11 ∧ m_6 x32 H_11 < m_6 i8 H_7)
 (∃ (I_12 : Value → Heap → Prop) (m_13 : Value → Heap → Nat), I_12 (.int .i64 0) H_7 ∧
 ∀ _ : Env, ∀ i9 : Value, ∀ H_14 : Heap, I_12 i9 H_14 →
 pLen l0 fun x41 =>
 pLt i9 x41 fun x42 =>
 pAnd x42 (fun J_15 =>
 pLt i9 (.int .i64 30) fun x45 =>
 J_15 x45 H_14) H_14 fun x46 H_16 => ∀ _ : Env,
 pCond x46
 (pIdxSl 5 l0 i9 fun x51 =>
 pLoadN H_16 5 x51 fun x52 =>
 pBox H_16 31 (.agg #[(.int .i64 0), (.int .i64 0), (.int .u8 0), (.int .i64 0), (.slice none 0 0)]) fun x10 H_17 =>
 pStoreN H_17 5 x10 x52 fun _ H_18 =>
 ∃ J_19 : Heap → Prop, (∀ _ : Env, ∀ H_20 : Heap, J_19 H_20 →
 ∃ (I_21 : Value → Value → Heap → Prop) (m_22 : Value → Value → Heap → Nat), I_21 (str []) (.int .i64 0) H_20 ∧
 ∀ _ : Env, ∀ all11 : Value, ∀ k12 : Value, ∀ H_23 : Heap, I_21 all11 k12 H_23 →
 pLt k12 (.int .i64 6) fun x96 =>
 pCond x96
 (pFieldAddr 0 w7 fun x100 =>
 pLoad H_23 x100 fun x101 =>
 pIdxSl 1 x101 k12 fun x103 =>
 pLoad H_23 x103 fun x104 =>
 pAdd all11 x104 fun x105 =>
 pAdd k12 (.int .i64 1) fun x98 =>
 I_21 x105 x98 H_23 ∧ m_22 x105 x98 H_23 < m_22 all11 k12 H_23)
 (CallsH Try.prog 23 #[x26] H_23 fun x107 H_24 =>
 CallsH Try.prog 24 #[x26] H_24 fun x109 H_25 =>
 pNe 1 x109 all11 fun x111 =>
 pOr x111 (fun J_26 =>
 pLen x107 fun x114 =>
 pFieldAddr 1 w7 fun x115 =>
 pLoad H_25 x115 fun x116 =>
 pLen x116 fun x117 =>
 pNe 0 x114 x117 fun x118 =>
 J_26 x118 H_25) H_25 fun x119 H_27 => ∀ _ : Env,
 pCond x119
 (R (.bool false) H_27)
 (∃ (I_28 : Value → Heap → Prop) (m_29 : Value → Heap → Nat), I_28 (.int .i64 0) H_27 ∧
 ∀ _ : Env, ∀ k14 : Value, ∀ H_30 : Heap, I_28 k14 H_30 →
 pLen x107 fun x122 =>
 pLt k14 x122 fun x123 =>
 pCond x123
 (pIdxSl 1 x107 k14 fun x128 =>
 pLoad H_30 x128 fun x129 =>
 pFieldAddr 1 w7 fun x130 =>
 pLoad H_30 x130 fun x131 =>
 pIdxSl 2 x131 k14 fun x133 =>
 pFieldAddr 0 x133 fun x134 =>
 pLoad H_30 x134 fun x135 =>
 pNe 0 x129 x135 fun x136 =>
 pCond x136
 (R (.bool false) H_30)
 (pAdd k14 (.int .i64 1) fun x125 =>
 I_28 x125 H_30 ∧ m_29 x125 H_30 < m_29 k14 H_30))
 (pAdd i9 (.int .i64 1) fun x48 =>
 I_12 x48 H_30 ∧ m_13 x48 H_30 < m_13 i9 H_14)))) ∧
 pFieldAddr 0 x10 fun x53 =>
 pLoad H_18 x53 fun x54 =>
 pBits .and x54 (.int .i64 3) fun x55 =>
 pEq 0 x55 (.int .i64 2) fun x74 =>
 pCond x74
 (CallsH Try.prog 11 #[x26] H_18 fun x76 H_31 =>
 pLoadN H_31 4 w7 fun x78 =>
 CallsH Try.prog 20 #[x78] H_31 fun x79 H_32 =>
 pExtract 0 x79 fun x80 =>
 pExtract 1 x79 fun x81 =>
 pStoreN H_32 4 w7 x80 fun _ H_33 =>
 J_19 H_33)
 (pEq 0 x55 (.int .i64 3) fun x83 =>
 pCond x83
 (pFieldAddr 4 x10 fun x85 =>
 pLoad H_18 x85 fun x86 =>
 CallsH Try.prog 13 #[x26, x86] H_18 fun x87 H_34 =>
 CallsH Try.prog 14 #[x26] H_34 fun x89 H_35 =>
 pLoadN H_35 4 w7 fun x90 =>
 pFieldAddr 4 x10 fun x91 =>
 pLoad H_35 x91 fun x92 =>
 CallsH Try.prog 21 #[x90, x92] H_35 fun x93 H_36 =>
 pStoreN H_36 4 w7 x93 fun _ H_37 =>
 pFieldAddr 2 w7 fun x94 =>
 pStore H_37 x94 (.bool false) fun _ H_38 =>
 J_19 H_38)
 (pFieldAddr 1 x10 fun x57 =>
 pLoad H_18 x57 fun x58 =>
 pFieldAddr 2 x10 fun x59 =>
 pLoad H_18 x59 fun x60 =>
 CallsH Try.prog 10 #[x60] H_18 fun x61 H_39 =>
 (pLoad H_39 x57 fun r_ =>
 r_ = x58) ∧
 CallsH Try.prog 9 #[x26, x58, x61] H_39 fun x62 H_40 =>
 pLoadN H_40 4 w7 fun x64 =>
 pFieldAddr 1 x10 fun x65 =>
 pLoad H_40 x65 fun x66 =>
 pFieldAddr 2 x10 fun x67 =>
 pLoad H_40 x67 fun x68 =>
 CallsH Try.prog 10 #[x68] H_40 fun x69 H_41 =>
 (pLoadN H_41 4 w7 fun r_ =>
 r_ = x64) ∧
 (pLoad H_41 x65 fun r_ =>
 r_ = x66) ∧
 CallsH Try.prog 22 #[x64, x66, x69] H_41 fun x70 H_42 =>
 pExtract 0 x70 fun x71 =>
 pExtract 1 x70 fun x72 =>
 pStoreN H_42 4 w7 x71 fun _ H_43 =>
 J_19 H_43)))
 (CallsH Try.prog 24 #[x26] H_16 fun x138 H_44 =>
 CallsH Try.prog 25 #[x138] H_44 fun x141 H_45 =>
 pExtract 0 x141 fun x142 =>
 pExtract 1 x141 fun x143 =>
 pBits .and cut1 (.int .i64 511) fun x145 =>
 pLenS x138 fun x147 =>
 pRem x145 x147 fun x148 =>
 pSlStr x138 none (some x148) fun x152 =>
 CallsH Try.prog 25 #[x152] H_45 fun x153 H_46 =>
 pExtract 0 x153 fun x154 =>
 pExtract 1 x153 fun x155 =>
 CallsH Try.prog 11 #[x26] H_46 fun x157 H_47 =>
 pEq 0 x143 (.int .i64 0) fun x159 =>
 pAnd x159 (fun J_48 =>
 CallsH Try.prog 24 #[x142] H_47 fun x162 H_50 =>
 pEq 1 x162 x138 fun x164 =>
 J_48 x164 H_50) H_47 fun x165 H_49 => ∀ _ : Env,
 pAnd x165 (fun J_51 =>
 CallsH Try.prog 18 #[x142] H_49 fun x168 H_53 =>
 J_51 x168 H_53) H_49 fun x169 H_52 => ∀ _ : Env,
 pAnd x169 (fun J_54 =>
 pEq 0 x155 (.int .i64 0) fun x172 =>
 pGt x148 (.int .i64 0) fun x174 =>
 pAnd x174 (fun J_56 =>
 pRem x148 (.int .i64 64) fun x177 =>
 pEq 0 x177 (.int .i64 0) fun x178 =>
 J_56 x178 H_52) H_52 fun x179 H_57 => ∀ _ : Env,
 pEq 2 x172 x179 fun x180 =>
 J_54 x180 H_57) H_52 fun x181 H_55 => ∀ _ : Env,
 pAnd x181 (fun J_58 =>
 pFieldAddr 1 w7 fun x183 =>
 pLoad H_55 x183 fun x184 =>
 pLen x184 fun x185 =>
 pGt x185 (.int .i64 0) fun x186 =>
 pOr x186 (fun J_60 =>
 CallsH Try.prog 16 #[x142, x26] H_55 fun x190 H_62 =>
 J_60 x190 H_62) H_55 fun x191 H_61 => ∀ _ : Env,
 J_58 x191 H_61) H_55 fun x192 H_59 => ∀ _ : Env,
 pAnd x192 (fun J_63 =>
 CallsH Try.prog 23 #[(.pointer none)] H_59 fun x195 H_65 =>
 pLen x195 fun x196 =>
 pEq 0 x196 (.int .i64 0) fun x197 =>
 J_63 x197 H_65) H_59 fun x198 H_64 => ∀ _ : Env,
 pAnd x198 (fun J_66 =>
 CallsH Try.prog 24 #[(.pointer none)] H_64 fun x201 H_68 =>
 pEq 1 x201 (str []) fun x202 =>
 J_66 x202 H_68) H_64 fun x203 H_67 => ∀ _ : Env,
 R x203 H_67)))
set_option maxRecDepth 100000 in
theorem lighterlaw17_DiskImages.vc (l0 : Value) (cut1 : Value) (H0 : Heap) (R : Value → Heap → Prop) (h : lighterlaw17_DiskImages.res l0 cut1 H0 R) : CallsH Try.prog 6 #[l0, cut1] H0 R := by
  have e : vcFn Try.prog Try.C Try.f6 lighterlaw17_DiskImages.an [l0, cut1] H0 R = lighterlaw17_DiskImages.res l0 cut1 H0 R := by kernel_rfl
  exact vcFn_sound Try.callable Try.mixed Try.func6 (by kernel_rfl) (e.mpr h)

def lighterlaw17_speaks.an : Ann := (.seq (.reg (.op 0 [] .nil)) (.seq (.reg (.op 0 [] (.op 1 [] (.op 2 [] (.op 3 [] (.op 4 [] (.op 5 [] .nil))))))) (.seq (.seq (.reg (.op 0 [] (.op 1 [] (.op 2 [] (.grp 2 (.op 3 [] (.op 4 [] (.op 5 [] (.op 6 [] .nil)))) 7 .nil))))) (.cond (.seq (.reg (.op 0 [] .nil)) .leaf) .leaf)) (.seq (.reg (.op 0 [] (.op 1 [] (.op 2 [] .nil)))) (.seq (.reg (.op 0 [] (.op 1 [] (.op 2 [] (.op 3 [] .nil))))) (.seq (.reg (.op 0 [] (.op 1 [] .nil))) (.seq (.reg (.op 0 [] (.op 1 [] (.op 2 [] (.op 3 [] (.op 4 [] (.op 5 [] (.op 6 [] .nil)))))))) (.seq (.reg (.op 0 [] (.op 1 [] (.grp 1 (.op 2 [] (.op 3 [] .nil)) 4 (.op 5 [] (.grp 5 (.op 6 [] (.op 7 [] (.op 8 [] .nil))) 9 (.op 10 [] (.grp 10 (.op 11 [] (.op 12 [] (.op 13 [] .nil))) 14 (.op 15 [] .nil))))))))) .leaf))))))))
/-- lighter/lighterlaw17.speaks -/
def lighterlaw17_speaks.res (H0 : Heap) (R : Value → Heap → Prop) : Prop :=
 CallsH Try.prog 8 #[(.int .i64 2)] H0 fun x7 H_1 =>
 pExtract 0 x7 fun x8 =>
 pExtract 1 x7 fun x9 =>
 pNe 0 x9 (.int .i64 0) fun x11 =>
 pOr x11 (fun J_2 =>
 CallsH Try.prog 10 #[(.int .u8 7)] H_1 fun x14 H_4 =>
 CallsH Try.prog 9 #[x8, (.int .i64 0), x14] H_4 fun x15 H_5 =>
 pNe 0 x15 (.int .i64 0) fun x16 =>
 J_2 x16 H_5) H_1 fun x17 H_3 => ∀ _ : Env,
 pCond x17
 (R (.bool false) H_3)
 (pBuildSl H_3 3 1 [(.int .i64 0)] [(0, 1, (.int .i64 1))] fun x19 H_6 =>
 CallsH Try.prog 13 #[x8, x19] H_6 fun x20 H_7 =>
 CallsH Try.prog 18 #[x8] H_7 fun x22 H_8 =>
 pNot x22 fun x23 =>
 CallsH Try.prog 14 #[x8] H_8 fun x25 H_9 =>
 CallsH Try.prog 15 #[x8, (.int .i64 0)] H_9 fun x28 H_10 =>
 pExtract 0 x28 fun x29 =>
 pExtract 1 x28 fun x30 =>
 pAnd x23 (fun J_11 =>
 pEq 0 x30 (.int .i64 0) fun x34 =>
 J_11 x34 H_10) H_10 fun x35 H_12 => ∀ _ : Env,
 pAnd x35 (fun J_13 =>
 CallsH Try.prog 10 #[(.int .u8 7)] H_12 fun x38 H_15 =>
 pEq 1 x29 x38 fun x39 =>
 J_13 x39 H_15) H_12 fun x40 H_14 => ∀ _ : Env,
 pAnd x40 (fun J_16 =>
 CallsH Try.prog 19 #[x8] H_14 fun x43 H_18 =>
 pEq 0 x43 (.int .i64 2) fun x44 =>
 J_16 x44 H_18) H_14 fun x45 H_17 => ∀ _ : Env,
 R x45 H_17)
set_option maxRecDepth 100000 in
theorem lighterlaw17_speaks.vc (H0 : Heap) (R : Value → Heap → Prop) (h : lighterlaw17_speaks.res H0 R) : CallsH Try.prog 7 #[] H0 R := by
  have e : vcFn Try.prog Try.C Try.f7 lighterlaw17_speaks.an [] H0 R = lighterlaw17_speaks.res H0 R := by kernel_rfl
  exact vcFn_sound Try.callable Try.mixed Try.func7 (by kernel_rfl) (e.mpr h)

def lighterlaw17_sector.an : Ann := (.seq (.reg (.op 0 [] .nil)) (.seq (.reg (.op 0 [] (.op 1 [] .nil))) (.seq (.seq (.reg (.op 0 [] .nil)) (.block (.loop [4] [4, 6, 7, 8, 9, 10, 11, 12, 13] (.seq (.seq (.reg (.op 0 [] (.op 1 [] .nil))) (.cond .leaf .leaf)) (.seq (.block (.reg (.op 0 [] (.op 1 [] (.op 2 [] (.op 3 [] (.op 4 [] .nil))))))) (.reg (.op 0 [] (.op 1 [] (.op 2 [] .nil))))))))) (.seq (.reg (.op 0 [] (.op 1 [] (.op 2 [] .nil)))) .leaf))))
/-- lighter/lighterlaw17.sector -/
def lighterlaw17_sector.res (b0 : Value) (H0 : Heap) (R : Value → Heap → Prop) : Prop :=
 pMakeSl H0 5 1 [(.int .u8 0)] (.int .i64 64) (.int .i64 64) fun x5 H_1 =>
 ∃ (I_2 : Value → Heap → Prop) (m_3 : Value → Heap → Nat), I_2 (.int .i64 0) H_1 ∧
 ∀ _ : Env, ∀ i4 : Value, ∀ H_4 : Heap, I_2 i4 H_4 →
 pLt i4 (.int .i64 64) fun x7 =>
 pCond x7
 (pIdxSl 1 x5 i4 fun x13 =>
 pStore H_4 x13 b0 fun _ H_5 =>
 pAdd i4 (.int .i64 1) fun x9 =>
 I_2 x9 H_5 ∧ m_3 x9 H_5 < m_3 i4 H_4)
 (pStrOf H_4 x5 fun x15 =>
 R x15 H_4)
set_option maxRecDepth 100000 in
theorem lighterlaw17_sector.vc (b0 : Value) (H0 : Heap) (R : Value → Heap → Prop) (h : lighterlaw17_sector.res b0 H0 R) : CallsH Try.prog 10 #[b0] H0 R := by
  have e : vcFn Try.prog Try.C Try.f10 lighterlaw17_sector.an [b0] H0 R = lighterlaw17_sector.res b0 H0 R := by kernel_rfl
  exact vcFn_sound Try.callable Try.mixed Try.func10 (by kernel_rfl) (e.mpr h)

end Go.Proofs.Ythadmceioakgnaa
