/- The residuals of package lighterlaw06's functions, printed by resid.py. -/
import Derived.Test.YtecmldekdgjpnaaVcSeat
namespace Go.Proofs.Ytecmldekdgjpnaa
open Go Go.Vc Go.Proofs
set_option linter.unusedVariables false
set_option maxHeartbeats 4000000
def lighterlaw06_WindowCopies.an : Ann := (.seq (.reg (.op 0 [] .nil)) (.seq (.seq (.reg (.op 0 [] (.op 1 [] .nil))) (.cond (.seq (.reg (.op 0 [] .nil)) .leaf) .leaf)) (.seq (.reg (.op 0 [] (.op 1 [] (.op 2 [] (.op 3 [] (.op 4 [] (.op 5 [] (.op 6 [] .nil)))))))) (.seq (.drw [0, 1, 3, 0, 0, 16, 56, 0, 128, 504, 0, 1024, 4088, 8184, 7, 32767] (.op 0 [] (.op 1 [] (.op 2 [] (.op 3 [] (.op 4 [] (.op 5 [] (.op 6 [] (.op 7 [] (.op 8 [] (.op 9 [] (.op 10 [] (.op 11 [] (.op 12 [] (.op 13 [] (.op 14 [] (.op 15 [] .nil))))))))))))))))) (.seq (.reg (.op 0 [] .nil)) (.seq (.reg (.op 0 [] (.op 1 [] .nil))) (.seq (.reg (.op 0 [] (.op 1 [] (.op 2 [] (.op 3 [] (.op 4 [] (.op 5 [] (.op 6 [] (.op 7 [] .nil))))))))) (.seq (.reg (.op 0 [] (.op 1 [] (.op 2 [] (.op 3 [] (.op 4 [] (.op 5 [] (.op 6 [] (.op 7 [] .nil))))))))) (.seq (.reg (.op 0 [] (.op 1 [] (.grp 1 (.op 2 [] .nil) 3 (.op 4 [] (.grp 4 (.op 5 [] (.op 6 [] (.op 7 [] .nil))) 8 (.op 9 [] (.grp 9 (.op 10 [] (.op 11 [] (.op 12 [] (.op 13 [] .nil)))) 14 (.op 15 [] (.grp 15 (.op 16 [] (.op 17 [] (.op 18 [] (.op 19 [] (.op 20 [] (.op 21 [] (.op 22 [] .nil))))))) 23 (.op 24 [] .nil))))))))))) .leaf)))))))))
/-- lighter/lighterlaw06.WindowCopies -/
def lighterlaw06_WindowCopies.res (text0 : Value) (n1 : Value) (dist2 : Value) (H0 : Heap) (R : Value → Heap → Prop) : Prop :=
 CallsH Try.prog 9 #[] H0 fun x12 H_1 =>
 pNot x12 fun x13 =>
 pCond x13
 (R (.bool false) H_1)
 (pLenS text0 fun x16 =>
 pMin x16 (.int .i64 300) fun x17 =>
 pSlStr text0 none (some x17) fun x18 =>
 pAdd x18 (str [120, 121, 122]) fun x19 =>
 pBits .and n1 (.int .i64 127) fun x21 =>
 pAdd (.int .i64 1) x21 fun x22 =>
 pLenS x19 fun x25 =>
 pRem dist2 x25 fun x26 =>
 pLenS x19 fun x28 =>
 pAdd x26 x28 fun x29 =>
 pLenS x19 fun x31 =>
 pRem x29 x31 fun x32 =>
 pAdd (.int .i64 1) x32 fun x33 =>
 pBox H_1 25 (.agg #[(.slice none 0 0), (.int .i64 0)]) fun w7 H_2 =>
 CallsH Try.prog 10 #[w7, x19] H_2 fun x35 H_3 =>
 CallsH Try.prog 11 #[w7, x22, x33] H_3 fun x39 H_4 =>
 pExtract 0 x39 fun x40 =>
 pExtract 1 x39 fun x41 =>
 CallsH Try.prog 11 #[w7, x22, x22] H_4 fun x45 H_5 =>
 pExtract 0 x45 fun x46 =>
 pExtract 1 x45 fun x47 =>
 pAnd x41 (fun J_6 =>
 J_6 x47 H_5) H_5 fun x51 H_7 => ∀ _ : Env,
 pAnd x51 (fun J_8 =>
 pEq 1 x40 x46 fun x55 =>
 J_8 x55 H_7) H_7 fun x56 H_9 => ∀ _ : Env,
 pAnd x56 (fun J_10 =>
 pLenS x40 fun x59 =>
 pEq 0 x59 x22 fun x61 =>
 J_10 x61 H_9) H_9 fun x62 H_11 => ∀ _ : Env,
 pAnd x62 (fun J_12 =>
 CallsH Try.prog 12 #[w7] H_11 fun x64 H_14 =>
 pAdd x19 x40 fun x67 =>
 pAdd x67 x46 fun x69 =>
 pEq 1 x64 x69 fun x70 =>
 J_12 x70 H_14) H_11 fun x71 H_13 => ∀ _ : Env,
 R x71 H_13)
set_option maxRecDepth 100000 in
theorem lighterlaw06_WindowCopies.vc (text0 : Value) (n1 : Value) (dist2 : Value) (H0 : Heap) (R : Value → Heap → Prop) (h : lighterlaw06_WindowCopies.res text0 n1 dist2 H0 R) : CallsH Try.prog 3 #[text0, n1, dist2] H0 R := by
  have e : vcFn Try.prog Try.C Try.f3 lighterlaw06_WindowCopies.an [text0, n1, dist2] H0 R = lighterlaw06_WindowCopies.res text0 n1 dist2 H0 R := by kernel_rfl
  exact vcFn_sound Try.callable Try.mixed Try.func3 (by kernel_rfl) (e.mpr h)

def lighterlaw06_WindowPlays.an : Ann := (.seq (.reg (.op 0 [] .nil)) (.seq (.seq (.reg (.op 0 [] (.op 1 [] .nil))) (.cond (.seq (.reg (.op 0 [] .nil)) .leaf) .leaf)) (.seq (.reg (.op 0 [] .nil)) (.seq (.reg (.op 0 [] .nil)) (.cut [6] [6, 20, 21, 22, 23, 24, 25, 26, 27, 28, 29, 30] (.seq (.reg (.op 0 [] (.op 1 [] (.op 2 [] .nil)))) (.cond (.seq (.reg (.op 0 [] (.op 1 [] (.op 2 [] (.op 3 [] (.op 4 [] (.op 5 [] (.op 6 [] .nil)))))))) (.reg (.op 0 [] (.op 1 [] .nil)))) .leaf)) (.seq (.seq (.reg (.op 0 [] .nil)) (.block (.loop [6, 7] [4, 6, 7, 8, 9, 10, 11, 12, 13, 14, 15, 16, 17, 31, 32, 33, 34, 35, 36, 37, 38, 39, 40, 41, 42, 43, 44, 45, 46, 47, 48, 49, 50, 51, 52, 53, 54, 55, 56, 57, 58, 59, 60, 61, 62, 63, 64, 65, 66, 67, 68, 69, 70, 71, 72, 73, 74, 75, 76, 77, 78, 79, 80, 81, 82, 83, 84, 85, 86, 87, 88, 89, 90, 91, 92, 93, 94, 95, 96, 97, 98, 99, 100, 101, 102, 103, 104, 105, 106, 107, 108, 109, 110, 111, 112, 113, 114, 115, 116, 117, 118, 119, 120, 121, 122, 123, 124, 125, 126, 127, 128, 129, 130, 131, 132, 133, 134, 135, 136, 137, 138, 139, 140, 141, 142, 143, 144, 145, 146, 147, 148, 149, 150, 151, 152, 153, 154, 155, 156, 157, 158] (.seq (.seq (.reg (.op 0 [] (.op 1 [] (.op 2 [] (.op 3 [] (.op 4 [] (.grp 4 (.op 5 [] (.op 6 [] .nil)) 7 .nil))))))) (.cond .leaf .leaf)) (.seq (.block (.seq (.reg (.op 0 [] (.op 1 [] (.op 2 [] (.op 3 [] (.op 4 [] (.op 5 [] .nil))))))) (.seq (.reg (.op 0 [] (.op 1 [] (.op 2 [] (.op 3 [] (.op 4 [] (.op 5 [] (.op 6 [] (.op 7 [] .nil))))))))) (.cut [6] [4, 6, 10, 11, 12, 13, 14, 15, 16, 17, 52, 53, 54, 55, 56, 57, 58, 59, 60, 61, 62, 63, 64, 65, 66, 67, 68, 69, 70, 71, 72, 73, 74, 75, 76, 77, 78, 79, 80, 81, 82, 83, 84, 85, 86, 87, 88, 89, 90, 91, 92, 93, 94, 95, 96, 97, 98, 99, 100, 101, 102, 103, 104, 105, 106, 107, 108, 109, 110, 111, 112, 113, 114, 115, 116, 117, 118, 119, 120, 121, 122, 123, 124, 125, 126, 127, 128, 129, 130, 131, 132, 133, 134, 135, 136, 137, 138, 139, 140, 141, 142, 143, 144, 145, 146, 147] (.seq (.reg (.op 0 [] (.op 1 [] (.op 2 [] (.op 3 [] (.op 4 [] .nil)))))) (.block (.seq (.reg (.op 0 [] (.op 1 [] .nil))) (.cond (.seq (.reg (.op 0 [] (.op 1 [] .nil))) (.reg (.op 0 [] (.op 1 [] (.op 2 [] (.op 3 [] .nil)))))) (.seq (.reg (.op 0 [] (.op 1 [] .nil))) (.cond (.seq (.reg (.op 0 [] (.op 1 [] .nil))) (.cond (.seq (.reg (.op 0 [] (.op 1 [] (.op 2 [] .nil)))) (.reg (.op 0 [] (.op 1 [] (.op 2 [] (.op 3 [] (.op 4 [] .nil))))))) .leaf)) (.seq (.reg (.op 0 [] (.op 1 [] .nil))) (.cond (.seq (.reg (.op 0 [] (.op 1 [] (.op 2 [] (.op 3 [] (.op 4 [] (.op 5 [] (.op 6 [] (.op 7 [] (.op 8 [] (.op 9 [] .nil))))))))))) (.seq (.reg (.op 0 [] (.op 1 [] (.op 2 [] (.op 3 [] (.op 4 [] (.op 5 [] (.op 6 [] (.op 7 [] (.op 8 [] (.op 9 [] (.op 10 [] .nil)))))))))))) (.seq (.seq (.reg (.op 0 [] (.op 1 [] (.op 2 [] (.op 3 [] (.grp 3 (.op 4 [] (.op 5 [] (.op 6 [] .nil))) 7 .nil)))))) (.cond (.seq (.reg (.op 0 [] .nil)) .leaf) .leaf)) (.reg (.op 0 [] (.op 1 [] (.op 2 [] (.op 3 [] .nil)))))))) (.seq (.reg (.op 0 [] (.op 1 [] (.op 2 [] (.op 3 [] (.op 4 [] (.op 5 [] (.op 6 [] (.op 7 [] .nil))))))))) (.seq (.reg (.op 0 [] (.op 1 [] (.op 2 [] .nil)))) (.seq (.reg (.op 0 [] (.op 1 [] (.op 2 [] (.op 3 [] (.grp 3 (.op 4 [] (.op 5 [] (.op 6 [] (.op 7 [] (.op 8 [] .nil))))) 9 (.op 10 [] .nil))))))) (.seq (.reg (.op 0 [] (.op 1 [] (.op 2 [] (.op 3 [] (.grp 3 (.op 4 [] (.op 5 [] (.grp 5 (.op 6 [] (.op 7 [] (.op 8 [] (.op 9 [] (.op 10 [] (.op 11 [] (.op 12 [] (.op 13 [] (.op 14 [] .nil))))))))) 15 .nil))) 16 (.op 17 [] (.grp 17 (.op 18 [] (.op 19 [] (.op 20 [] (.grp 20 (.op 21 [] (.op 22 [] .nil)) 23 .nil)))) 24 .nil)))))))) (.cond (.seq (.reg (.op 0 [] .nil)) .leaf) .leaf))))))))))))) (.seq (.reg (.op 0 [] (.op 1 [] (.op 2 [] (.op 3 [] (.op 4 [] (.op 5 [] (.grp 5 (.op 6 [] (.op 7 [] (.op 8 [] (.op 9 [] .nil)))) 10 .nil)))))))) (.cond (.seq (.reg (.op 0 [] .nil)) .leaf) .leaf)))))) (.reg (.op 0 [] (.op 1 [] (.op 2 [] .nil))))))))) (.seq (.reg (.op 0 [] (.op 1 [] (.op 2 [] (.op 3 [] (.op 4 [] .nil)))))) .leaf)))))))
/-- lighter/lighterlaw06.WindowPlays -/
def lighterlaw06_WindowPlays.res (fill0 : Value) (l1 : Value) (H0 : Heap) (R : Value → Heap → Prop) : Prop :=
 CallsH Try.prog 9 #[] H0 fun x18 H_1 =>
 pNot x18 fun x19 =>
 pCond x19
 (R (.bool false) H_1)
 (pBox H_1 25 (.agg #[(.slice none 0 0), (.int .i64 0)]) fun w5 H_2 =>
 ∃ J_3 : Value → Heap → Prop, (∀ _ : Env, ∀ all6 : Value, ∀ H_4 : Heap, J_3 all6 H_4 →
 ∃ (I_5 : Value → Value → Heap → Prop) (m_6 : Value → Value → Heap → Nat), I_5 all6 (.int .i64 0) H_4 ∧
 ∀ _ : Env, ∀ all6' : Value, ∀ i7 : Value, ∀ H_7 : Heap, I_5 all6' i7 H_7 →
 pLen l1 fun x33 =>
 pLt i7 x33 fun x34 =>
 pAnd x34 (fun J_8 =>
 pLt i7 (.int .i64 30) fun x37 =>
 J_8 x37 H_7) H_7 fun x38 H_9 => ∀ _ : Env,
 pCond x38
 (pIdxSl 4 l1 i7 fun x43 =>
 pLoadN H_9 4 x43 fun x44 =>
 pBox H_9 34 (.agg #[(.int .i64 0), (str []), (.int .i64 0), (.int .i64 0)]) fun x8 H_10 =>
 pStoreN H_10 4 x8 x44 fun _ H_11 =>
 pFieldAddr 1 x8 fun x45 =>
 pLoad H_11 x45 fun x46 =>
 pFieldAddr 1 x8 fun x47 =>
 pLoad H_11 x47 fun x48 =>
 pLenS x48 fun x49 =>
 pMin x49 (.int .i64 40) fun x50 =>
 pSlStr x46 none (some x50) fun x51 =>
 ∃ J_12 : Value → Heap → Prop, (∀ _ : Env, ∀ all6'' : Value, ∀ H_13 : Heap, J_12 all6'' H_13 →
 CallsH Try.prog 17 #[w5] H_13 fun x148 H_14 =>
 pLenS all6'' fun x150 =>
 pMin x150 (.int .i64 32768) fun x151 =>
 pNe 0 x148 x151 fun x152 =>
 pOr x152 (fun J_15 =>
 CallsH Try.prog 18 #[w5] H_14 fun x154 H_17 =>
 pLenS all6'' fun x156 =>
 pNe 0 x154 x156 fun x157 =>
 J_15 x157 H_17) H_14 fun x158 H_16 => ∀ _ : Env,
 pCond x158
 (R (.bool false) H_16)
 (pAdd i7 (.int .i64 1) fun x40 =>
 I_5 all6'' x40 H_16 ∧ m_6 all6'' x40 H_16 < m_6 all6' i7 H_7)) ∧
 pFieldAddr 0 x8 fun x52 =>
 pLoad H_11 x52 fun x53 =>
 pRem x53 (.int .i64 4) fun x54 =>
 pAdd x54 (.int .i64 4) fun x55 =>
 pRem x55 (.int .i64 4) fun x56 =>
 pEq 0 x56 (.int .i64 0) fun x101 =>
 pCond x101
 (CallsH Try.prog 10 #[w5, x51] H_11 fun x103 H_18 =>
 pAdd all6' x51 fun x106 =>
 J_12 x106 H_18)
 (pEq 0 x56 (.int .i64 1) fun x108 =>
 pCond x108
 (pNe 1 x51 (str []) fun x110 =>
 pCond x110
 (pIdxStr x51 (.int .i64 0) fun x112 =>
 CallsH Try.prog 13 #[w5, x112] H_11 fun x113 H_19 =>
 pSlStr x51 none (some (.int .i64 1)) fun x116 =>
 pAdd all6' x116 fun x117 =>
 J_12 x117 H_19)
 (J_12 all6' H_11))
 (pEq 0 x56 (.int .i64 2) fun x119 =>
 pCond x119
 (pFieldAddr 2 x8 fun x121 =>
 pLoad H_11 x121 fun x122 =>
 pFieldAddr 3 x8 fun x123 =>
 pLoad H_11 x123 fun x124 =>
 CallsH Try.prog 11 #[w5, x122, x124] H_11 fun x125 H_20 =>
 pExtract 0 x125 fun x126 =>
 pExtract 1 x125 fun x127 =>
 pFieldAddr 2 x8 fun x130 =>
 pLoad H_20 x130 fun x131 =>
 pFieldAddr 3 x8 fun x132 =>
 pLoad H_20 x132 fun x133 =>
 CallsH Try.prog 14 #[all6', x131, x133] H_20 fun x134 H_21 =>
 pExtract 0 x134 fun x135 =>
 pExtract 1 x134 fun x136 =>
 pNe 1 x126 x135 fun x139 =>
 pOr x139 (fun J_22 =>
 pNe 2 x127 x136 fun x143 =>
 J_22 x143 H_21) H_21 fun x144 H_23 => ∀ _ : Env,
 pCond x144
 (R (.bool false) H_23)
 (pAdd all6' x135 fun x147 =>
 J_12 x147 H_23))
 (pFieldAddr 3 x8 fun x58 =>
 pLoad H_11 x58 fun x59 =>
 CallsH Try.prog 15 #[w5, x59] H_11 fun x60 H_24 =>
 pExtract 0 x60 fun x61 =>
 pExtract 1 x60 fun x62 =>
 CallsH Try.prog 16 #[all6', (.int .i64 32768)] H_24 fun x64 H_25 =>
 pFieldAddr 3 x8 fun x65 =>
 pLoad H_25 x65 fun x66 =>
 pGe x66 (.int .i64 1) fun x67 =>
 pAnd x67 (fun J_26 =>
 pFieldAddr 3 x8 fun x69 =>
 pLoad H_25 x69 fun x70 =>
 pLenS x64 fun x72 =>
 pLe x70 x72 fun x73 =>
 J_26 x73 H_25) H_25 fun x74 H_27 => ∀ _ : Env,
 pNe 2 x62 x74 fun x77 =>
 pOr x77 (fun J_28 =>
 pAnd x74 (fun J_30 =>
 pLenS x64 fun x84 =>
 pFieldAddr 3 x8 fun x85 =>
 pLoad H_27 x85 fun x86 =>
 pSub x84 x86 fun x87 =>
 pIdxStr x64 x87 fun x88 =>
 pNe 0 x61 x88 fun x89 =>
 J_30 x89 H_27) H_27 fun x90 H_31 => ∀ _ : Env,
 J_28 x90 H_31) H_27 fun x91 H_29 => ∀ _ : Env,
 pOr x91 (fun J_32 =>
 pNot x74 fun x94 =>
 pAnd x94 (fun J_34 =>
 pNe 0 x61 (.int .u8 0) fun x97 =>
 J_34 x97 H_29) H_29 fun x98 H_35 => ∀ _ : Env,
 J_32 x98 H_35) H_29 fun x99 H_33 => ∀ _ : Env,
 pCond x99
 (R (.bool false) H_33)
 (J_12 all6' H_33)))))
 (CallsH Try.prog 12 #[w5] H_9 fun x159 H_36 =>
 CallsH Try.prog 16 #[all6', (.int .i64 32768)] H_36 fun x161 H_37 =>
 pEq 1 x159 x161 fun x162 =>
 R x162 H_37)) ∧
 pBits .and fill0 (.int .i64 1) fun x21 =>
 pEq 0 x21 (.int .i64 1) fun x22 =>
 pCond x22
 (pShr fill0 (.int .u64 1) fun x24 =>
 pBits .and x24 (.int .i64 63) fun x25 =>
 pSub (.int .i64 32768) x25 fun x26 =>
 pMakeSl H_2 5 1 [(.int .u8 0)] x26 x26 fun x27 H_38 =>
 pStrOf H_38 x27 fun x28 =>
 CallsH Try.prog 10 #[w5, x28] H_38 fun x30 H_39 =>
 J_3 x28 H_39)
 (J_3 (str []) H_2))
set_option maxRecDepth 100000 in
theorem lighterlaw06_WindowPlays.vc (fill0 : Value) (l1 : Value) (H0 : Heap) (R : Value → Heap → Prop) (h : lighterlaw06_WindowPlays.res fill0 l1 H0 R) : CallsH Try.prog 4 #[fill0, l1] H0 R := by
  have e : vcFn Try.prog Try.C Try.f4 lighterlaw06_WindowPlays.an [fill0, l1] H0 R = lighterlaw06_WindowPlays.res fill0 l1 H0 R := by kernel_rfl
  exact vcFn_sound Try.callable Try.mixed Try.func4 (by kernel_rfl) (e.mpr h)

def lighterlaw06_WindowNone.an : Ann := (.seq (.reg (.op 0 [] .nil)) (.seq (.seq (.reg (.op 0 [] (.op 1 [] .nil))) (.cond (.seq (.reg (.op 0 [] .nil)) .leaf) .leaf)) (.seq (.reg (.op 0 [] .nil)) (.seq (.reg (.op 0 [] (.op 1 [] .nil))) (.seq (.reg (.op 0 [] (.op 1 [] .nil))) (.seq (.reg (.op 0 [] (.op 1 [] (.op 2 [] (.op 3 [] (.op 4 [] (.op 5 [] (.op 6 [] (.op 7 [] .nil))))))))) (.seq (.reg (.op 0 [] (.op 1 [] (.op 2 [] (.op 3 [] (.op 4 [] (.op 5 [] (.op 6 [] (.op 7 [] (.op 8 [] .nil)))))))))) (.seq (.reg (.op 0 [] .nil)) (.seq (.reg (.op 0 [] (.op 1 [] (.op 2 [] (.op 3 [] (.op 4 [] (.op 5 [] (.op 6 [] .nil)))))))) (.seq (.reg (.op 0 [] (.op 1 [] (.op 2 [] (.op 3 [] (.op 4 [] (.op 5 [] (.op 6 [] (.op 7 [] .nil))))))))) (.seq (.reg (.op 0 [] (.op 1 [] (.op 2 [] (.op 3 [] (.grp 3 (.op 4 [] (.op 5 [] (.op 6 [] .nil))) 7 (.op 8 [] (.grp 8 (.op 9 [] (.op 10 [] (.op 11 [] .nil))) 12 (.op 13 [] (.grp 13 (.op 14 [] (.op 15 [] .nil)) 16 (.op 17 [] (.grp 17 (.op 18 [] (.op 19 [] .nil)) 20 (.op 21 [] (.grp 21 (.op 22 [] (.op 23 [] .nil)) 24 (.op 25 [] (.grp 25 (.op 26 [] (.op 27 [] .nil)) 28 (.op 29 [] (.grp 29 (.op 30 [] (.op 31 [] .nil)) 32 (.op 33 [] (.grp 33 (.op 34 [] (.op 35 [] .nil)) 36 (.op 37 [] .nil))))))))))))))))))))) .leaf)))))))))))
/-- lighter/lighterlaw06.WindowNone -/
def lighterlaw06_WindowNone.res (n0 : Value) (dist1 : Value) (H0 : Heap) (R : Value → Heap → Prop) : Prop :=
 CallsH Try.prog 9 #[] H0 fun x15 H_1 =>
 pNot x15 fun x16 =>
 pCond x16
 (R (.bool false) H_1)
 (CallsH Try.prog 13 #[(.pointer none), (.int .u8 1)] H_1 fun x18 H_2 =>
 CallsH Try.prog 10 #[(.pointer none), (str [120])] H_2 fun x20 H_3 =>
 CallsH Try.prog 15 #[(.pointer none), dist1] H_3 fun x24 H_4 =>
 pExtract 0 x24 fun x25 =>
 pExtract 1 x24 fun x26 =>
 CallsH Try.prog 11 #[(.pointer none), n0, dist1] H_4 fun x31 H_5 =>
 pExtract 0 x31 fun x32 =>
 pExtract 1 x31 fun x33 =>
 pBox H_5 25 (.agg #[(.slice none 0 0), (.int .i64 0)]) fun v10 H_6 =>
 CallsH Try.prog 15 #[v10, dist1] H_6 fun x36 H_7 =>
 pExtract 0 x36 fun x37 =>
 pExtract 1 x36 fun x38 =>
 CallsH Try.prog 11 #[v10, n0, dist1] H_7 fun x42 H_8 =>
 pExtract 0 x42 fun x43 =>
 pExtract 1 x42 fun x44 =>
 CallsH Try.prog 17 #[(.pointer none)] H_8 fun x46 H_9 =>
 pEq 0 x46 (.int .i64 0) fun x47 =>
 pAnd x47 (fun J_10 =>
 CallsH Try.prog 18 #[(.pointer none)] H_9 fun x50 H_12 =>
 pEq 0 x50 (.int .i64 0) fun x51 =>
 J_10 x51 H_12) H_9 fun x52 H_11 => ∀ _ : Env,
 pAnd x52 (fun J_13 =>
 CallsH Try.prog 12 #[(.pointer none)] H_11 fun x55 H_15 =>
 pEq 1 x55 (str []) fun x56 =>
 J_13 x56 H_15) H_11 fun x57 H_14 => ∀ _ : Env,
 pAnd x57 (fun J_16 =>
 pNot x26 fun x60 =>
 J_16 x60 H_14) H_14 fun x61 H_17 => ∀ _ : Env,
 pAnd x61 (fun J_18 =>
 pNot x33 fun x64 =>
 J_18 x64 H_17) H_17 fun x65 H_19 => ∀ _ : Env,
 pAnd x65 (fun J_20 =>
 pNot x38 fun x68 =>
 J_20 x68 H_19) H_19 fun x69 H_21 => ∀ _ : Env,
 pAnd x69 (fun J_22 =>
 pNot x44 fun x72 =>
 J_22 x72 H_21) H_21 fun x73 H_23 => ∀ _ : Env,
 pAnd x73 (fun J_24 =>
 pEq 1 x43 (str []) fun x76 =>
 J_24 x76 H_23) H_23 fun x77 H_25 => ∀ _ : Env,
 pAnd x77 (fun J_26 =>
 CallsH Try.prog 17 #[v10] H_25 fun x79 H_28 =>
 pEq 0 x79 (.int .i64 0) fun x80 =>
 J_26 x80 H_28) H_25 fun x81 H_27 => ∀ _ : Env,
 R x81 H_27)
set_option maxRecDepth 100000 in
theorem lighterlaw06_WindowNone.vc (n0 : Value) (dist1 : Value) (H0 : Heap) (R : Value → Heap → Prop) (h : lighterlaw06_WindowNone.res n0 dist1 H0 R) : CallsH Try.prog 5 #[n0, dist1] H0 R := by
  have e : vcFn Try.prog Try.C Try.f5 lighterlaw06_WindowNone.an [n0, dist1] H0 R = lighterlaw06_WindowNone.res n0 dist1 H0 R := by kernel_rfl
  exact vcFn_sound Try.callable Try.mixed Try.func5 (by kernel_rfl) (e.mpr h)

def lighterlaw06_WindowMatches.an : Ann := (.seq (.reg (.op 0 [] .nil)) (.seq (.seq (.reg (.op 0 [] (.op 1 [] .nil))) (.cond (.seq (.reg (.op 0 [] .nil)) .leaf) .leaf)) (.seq (.drw [0, 0, 2, 6, 15, 0, 0, 64, 192, 480, 31, 2047] (.op 0 [] (.op 1 [] (.op 2 [] (.op 3 [] (.op 4 [] (.op 5 [] (.op 6 [] (.op 7 [] (.op 8 [] (.op 9 [] (.op 10 [] (.op 11 [] .nil))))))))))))) (.seq (.reg (.op 0 [] .nil)) (.seq (.reg (.op 0 [] (.op 1 [] .nil))) (.seq (.reg (.op 0 [] (.op 1 [] (.op 2 [] (.op 3 [] .nil))))) (.seq (.reg (.op 0 [] (.op 1 [] .nil))) (.seq (.reg (.op 0 [] (.op 1 [] (.op 2 [] (.op 3 [] (.op 4 [] (.op 5 [] (.op 6 [] (.op 7 [] (.op 8 [] (.op 9 [] (.op 10 [] .nil)))))))))))) (.seq (.reg (.op 0 [] .nil)) (.seq (.seq (.reg (.op 0 [] (.op 1 [] (.op 2 [] (.op 3 [] (.grp 3 (.op 4 [] (.op 5 [] (.op 6 [] (.op 7 [] (.op 8 [] .nil))))) 9 (.op 10 [] (.grp 10 (.op 11 [] (.op 12 [] (.op 13 [] .nil))) 14 .nil)))))))) (.cond (.seq (.reg (.op 0 [] .nil)) .leaf) .leaf)) (.seq (.seq (.reg (.op 0 [] (.op 1 [] .nil))) (.cond (.seq (.reg (.op 0 [] (.op 1 [] (.op 2 [] (.grp 2 (.op 3 [] (.op 4 [] (.op 5 [] (.grp 5 (.op 6 [] (.op 7 [] (.op 8 [] (.op 9 [] .nil)))) 10 .nil)))) 11 (.op 12 [] .nil)))))) .leaf) .leaf)) (.seq (.drw [0, 0, 2, 7, 15, 31, 63, 127, 255, 511, 511, 2047, 511, 511, 12799, 32767, 65535, 131071, 262143, 262143, 786431, 2097151, 4194303, 8388607, 16777215, 33554431, 67108863, 134217727, 134217727, 536870911, 134217727, 134217727, 3355443199, 8589934591, 17179869183, 34359738367, 68719476735] (.op 0 [] (.op 1 [] (.op 2 [] (.op 3 [] (.op 4 [] (.grp 4 (.op 5 [] (.op 6 [] .nil)) 7 (.op 8 [] (.grp 8 (.op 9 [] (.op 10 [] (.op 11 [] (.op 12 [] (.op 13 [] (.op 14 [] (.op 15 [] .nil))))))) 16 (.op 17 [] (.grp 17 (.op 18 [] (.op 19 [] (.op 20 [] (.op 21 [] (.op 22 [] (.grp 22 (.op 23 [] (.op 24 [] .nil)) 25 (.op 26 [] (.grp 26 (.op 27 [] (.op 28 [] (.op 29 [] (.op 30 [] (.op 31 [] (.op 32 [] (.op 33 [] .nil))))))) 34 .nil)))))))) 35 (.op 36 [] .nil)))))))))))) .leaf))))))))))))
/-- lighter/lighterlaw06.WindowMatches -/
def lighterlaw06_WindowMatches.res (text0 : Value) (s1 : Value) (dist2 : Value) (H0 : Heap) (R : Value → Heap → Prop) : Prop :=
 CallsH Try.prog 9 #[] H0 fun x13 H_1 =>
 pNot x13 fun x14 =>
 pCond x14
 (R (.bool false) H_1)
 (pLenS text0 fun x17 =>
 pMin x17 (.int .i64 300) fun x18 =>
 pSlStr text0 none (some x18) fun x19 =>
 pLenS s1 fun x22 =>
 pMin x22 (.int .i64 300) fun x23 =>
 pSlStr s1 none (some x23) fun x24 =>
 pBox H_1 25 (.agg #[(.slice none 0 0), (.int .i64 0)]) fun w7 H_2 =>
 CallsH Try.prog 10 #[w7, x19] H_2 fun x26 H_3 =>
 CallsH Try.prog 24 #[w7, dist2, x24] H_3 fun x29 H_4 =>
 CallsH Try.prog 25 #[w7] H_4 fun x30 H_5 =>
 pAdd x29 (.int .i64 1) fun x34 =>
 pMin x34 (.int .i64 258) fun x35 =>
 CallsH Try.prog 11 #[x30, x35, dist2] H_5 fun x37 H_6 =>
 pExtract 0 x37 fun x38 =>
 pExtract 1 x37 fun x39 =>
 CallsH Try.prog 25 #[(.pointer none)] H_6 fun x41 H_7 =>
 pNe 3 x41 (.pointer none) fun x42 =>
 pOr x42 (fun J_8 =>
 CallsH Try.prog 24 #[(.pointer none), dist2, x24] H_7 fun x47 H_10 =>
 pNe 0 x47 (.int .i64 0) fun x48 =>
 J_8 x48 H_10) H_7 fun x49 H_9 => ∀ _ : Env,
 pOr x49 (fun J_11 =>
 CallsH Try.prog 12 #[w7] H_9 fun x51 H_13 =>
 pNe 1 x51 x19 fun x53 =>
 J_11 x53 H_13) H_9 fun x54 H_12 => ∀ _ : Env,
 pCond x54
 (R (.bool false) H_12)
 (pNot x39 fun x56 =>
 pCond x56
 (pEq 0 x29 (.int .i64 0) fun x58 =>
 pAnd x58 (fun J_14 =>
 pLt dist2 (.int .i64 1) fun x61 =>
 pOr x61 (fun J_16 =>
 pLenS x19 fun x65 =>
 pGt dist2 x65 fun x66 =>
 J_16 x66 H_12) H_12 fun x67 H_17 => ∀ _ : Env,
 J_14 x67 H_17) H_12 fun x68 H_15 => ∀ _ : Env,
 R x68 H_15)
 (pLenS x24 fun x71 =>
 pLe x29 x71 fun x72 =>
 pAnd x72 (fun J_18 =>
 pLe x29 (.int .i64 258) fun x75 =>
 J_18 x75 H_12) H_12 fun x76 H_19 => ∀ _ : Env,
 pAnd x76 (fun J_20 =>
 pSlStr x38 none (some x29) fun x80 =>
 pSlStr x24 none (some x29) fun x83 =>
 pEq 1 x80 x83 fun x84 =>
 J_20 x84 H_19) H_19 fun x85 H_21 => ∀ _ : Env,
 pAnd x85 (fun J_22 =>
 pLenS x24 fun x89 =>
 pEq 0 x29 x89 fun x90 =>
 pOr x90 (fun J_24 =>
 pEq 0 x29 (.int .i64 258) fun x93 =>
 J_24 x93 H_21) H_21 fun x94 H_25 => ∀ _ : Env,
 pOr x94 (fun J_26 =>
 pIdxStr x38 x29 fun x98 =>
 pIdxStr x24 x29 fun x101 =>
 pNe 0 x98 x101 fun x102 =>
 J_26 x102 H_25) H_25 fun x103 H_27 => ∀ _ : Env,
 J_22 x103 H_27) H_21 fun x104 H_23 => ∀ _ : Env,
 R x104 H_23)))
set_option maxRecDepth 100000 in
theorem lighterlaw06_WindowMatches.vc (text0 : Value) (s1 : Value) (dist2 : Value) (H0 : Heap) (R : Value → Heap → Prop) (h : lighterlaw06_WindowMatches.res text0 s1 dist2 H0 R) : CallsH Try.prog 7 #[text0, s1, dist2] H0 R := by
  have e : vcFn Try.prog Try.C Try.f7 lighterlaw06_WindowMatches.an [text0, s1, dist2] H0 R = lighterlaw06_WindowMatches.res text0 s1 dist2 H0 R := by kernel_rfl
  exact vcFn_sound Try.callable Try.mixed Try.func7 (by kernel_rfl) (e.mpr h)

def lighterlaw06_speaks.an : Ann := (.seq (.reg (.op 0 [] .nil)) (.seq (.reg (.op 0 [] .nil)) (.seq (.reg (.op 0 [] .nil)) (.seq (.reg (.op 0 [] (.op 1 [] (.op 2 [] (.op 3 [] (.op 4 [] (.op 5 [] .nil))))))) (.seq (.reg (.op 0 [] (.op 1 [] (.op 2 [] (.op 3 [] (.op 4 [] (.op 5 [] .nil))))))) (.seq (.reg (.op 0 [] (.op 1 [] (.grp 1 (.op 2 [] (.op 3 [] .nil)) 4 (.op 5 [] (.grp 5 (.op 6 [] (.op 7 [] .nil)) 8 (.op 9 [] (.grp 9 (.op 10 [] (.op 11 [] .nil)) 12 (.op 13 [] (.grp 13 (.op 14 [] .nil) 15 (.op 16 [] (.grp 16 (.op 17 [] (.op 18 [] .nil)) 19 (.op 20 [] .nil))))))))))))) .leaf))))))
/-- lighter/lighterlaw06.speaks -/
def lighterlaw06_speaks.res (H0 : Heap) (R : Value → Heap → Prop) : Prop :=
 pBox H0 25 (.agg #[(.slice none 0 0), (.int .i64 0)]) fun w1 H_1 =>
 CallsH Try.prog 10 #[w1, (str [97, 98, 99])] H_1 fun x6 H_2 =>
 CallsH Try.prog 11 #[w1, (.int .i64 4), (.int .i64 2)] H_2 fun x8 H_3 =>
 pExtract 0 x8 fun x9 =>
 pExtract 1 x8 fun x10 =>
 CallsH Try.prog 15 #[w1, (.int .i64 1)] H_3 fun x12 H_4 =>
 pExtract 0 x12 fun x13 =>
 pExtract 1 x12 fun x14 =>
 pAnd x10 (fun J_5 =>
 pEq 1 x9 (str [98, 99, 98, 99]) fun x18 =>
 J_5 x18 H_4) H_4 fun x19 H_6 => ∀ _ : Env,
 pAnd x19 (fun J_7 =>
 CallsH Try.prog 17 #[w1] H_6 fun x21 H_9 =>
 pEq 0 x21 (.int .i64 7) fun x22 =>
 J_7 x22 H_9) H_6 fun x23 H_8 => ∀ _ : Env,
 pAnd x23 (fun J_10 =>
 CallsH Try.prog 12 #[w1] H_8 fun x25 H_12 =>
 pEq 1 x25 (str [97, 98, 99, 98, 99, 98, 99]) fun x26 =>
 J_10 x26 H_12) H_8 fun x27 H_11 => ∀ _ : Env,
 pAnd x27 (fun J_13 =>
 J_13 x14 H_11) H_11 fun x30 H_14 => ∀ _ : Env,
 pAnd x30 (fun J_15 =>
 pEq 0 x13 (.int .u8 99) fun x33 =>
 J_15 x33 H_14) H_14 fun x34 H_16 => ∀ _ : Env,
 R x34 H_16
set_option maxRecDepth 100000 in
theorem lighterlaw06_speaks.vc (H0 : Heap) (R : Value → Heap → Prop) (h : lighterlaw06_speaks.res H0 R) : CallsH Try.prog 9 #[] H0 R := by
  have e : vcFn Try.prog Try.C Try.f9 lighterlaw06_speaks.an [] H0 R = lighterlaw06_speaks.res H0 R := by kernel_rfl
  exact vcFn_sound Try.callable Try.mixed Try.func9 (by kernel_rfl) (e.mpr h)

end Go.Proofs.Ytecmldekdgjpnaa
