/- The residuals of package lighterlaw03's functions, printed by resid.py. -/
import Derived.Test.YtcbaklebiohedaaVcSeat
namespace Go.Proofs.Ytcbaklebiohedaa
open Go Go.Vc Go.Proofs
set_option linter.unusedVariables false
set_option maxHeartbeats 4000000
def lighterlaw03_CanonApart.an : Ann := (.seq (.reg (.op 0 [] .nil)) (.seq (.seq (.reg (.op 0 [] (.op 1 [] .nil))) (.cond (.seq (.reg (.op 0 [] .nil)) .leaf) .leaf)) (.seq (.reg (.op 0 [] (.op 1 [] (.op 2 [] (.op 3 [] (.op 4 [] (.op 5 [] (.op 6 [] .nil)))))))) (.seq (.seq (.reg (.op 0 [] (.op 1 [] .nil))) (.cond (.seq (.reg (.op 0 [] .nil)) .leaf) .leaf)) (.seq (.seq (.reg (.op 0 [] .nil)) (.block (.loop [5] [2, 5, 6, 7, 8, 9, 10, 20, 21, 22, 23, 24, 25, 26, 27, 28, 29, 30, 31, 32, 33, 34, 35, 36, 37, 38, 39, 40, 41, 42, 43, 44, 45, 46, 47, 48, 49, 50, 51, 52, 53, 54, 55, 56, 57, 58, 59, 60, 61, 62, 63, 64] (.seq (.seq (.reg (.op 0 [] (.op 1 [] (.op 2 [] (.op 3 [] .nil))))) (.cond .leaf .leaf)) (.seq (.block (.seq (.reg (.op 0 [] .nil)) (.block (.loop [6] [2, 6, 7, 8, 9, 10, 26, 27, 28, 29, 30, 31, 32, 33, 34, 35, 36, 37, 38, 39, 40, 41, 42, 43, 44, 45, 46, 47, 48, 49, 50, 51, 52, 53, 54, 55, 56, 57, 58, 59, 60, 61, 62, 63, 64] (.seq (.seq (.reg (.op 0 [] (.op 1 [] (.op 2 [] (.op 3 [] .nil))))) (.cond .leaf .leaf)) (.seq (.block (.seq (.reg (.op 0 [] (.op 1 [] (.op 2 [] (.op 3 [] (.op 4 [] (.op 5 [] (.op 6 [] (.op 7 [] .nil))))))))) (.seq (.reg (.op 0 [] (.op 1 [] (.op 2 [] (.op 3 [] (.op 4 [] (.op 5 [] (.op 6 [] (.op 7 [] .nil))))))))) (.seq (.reg (.op 0 [] (.op 1 [] (.op 2 [] (.op 3 [] (.grp 3 (.op 4 [] (.op 5 [] .nil)) 6 (.op 7 [] (.grp 7 (.op 8 [] (.op 9 [] (.op 10 [] .nil))) 11 (.op 12 [] (.grp 12 (.op 13 [] (.op 14 [] (.op 15 [] (.op 16 [] (.op 17 [] (.op 18 [] (.op 19 [] .nil))))))) 20 .nil)))))))))) (.cond (.seq (.reg (.op 0 [] .nil)) .leaf) .leaf))))) (.reg (.op 0 [] (.op 1 [] (.op 2 [] .nil)))))))))) (.reg (.op 0 [] (.op 1 [] (.op 2 [] .nil))))))))) (.seq (.reg (.op 0 [] .nil)) .leaf))))))
/-- lighter/lighterlaw03.CanonApart -/
def lighterlaw03_CanonApart.res (l0 : Value) (H0 : Heap) (R : Value → Heap → Prop) : Prop :=
 CallsH Try.prog 8 #[] H0 fun x11 H_1 =>
 pNot x11 fun x12 =>
 pCond x12
 (R (.bool false) H_1)
 (CallsH Try.prog 9 #[l0, (.bool true)] H_1 fun x15 H_2 =>
 pExtract 0 x15 fun x16 =>
 pExtract 1 x15 fun x17 =>
 pNe 0 x17 (.int .i64 0) fun x19 =>
 pCond x19
 (R (.bool true) H_2)
 (∃ (I_3 : Value → Heap → Prop) (m_4 : Value → Heap → Nat), I_3 (.int .i64 0) H_2 ∧
 ∀ _ : Env, ∀ i5 : Value, ∀ H_5 : Heap, I_3 i5 H_5 →
 pLen l0 fun x22 =>
 pLt i5 x22 fun x23 =>
 pCond x23
 (∃ (I_6 : Value → Heap → Prop) (m_7 : Value → Heap → Nat), I_6 (.int .i64 0) H_5 ∧
 ∀ _ : Env, ∀ k6 : Value, ∀ H_8 : Heap, I_6 k6 H_8 →
 pLen l0 fun x28 =>
 pLt k6 x28 fun x29 =>
 pCond x29
 (CallsH Try.prog 10 #[x16, i5] H_8 fun x35 H_9 =>
 pExtract 0 x35 fun x36 =>
 pExtract 1 x35 fun x37 =>
 CallsH Try.prog 10 #[x16, k6] H_9 fun x41 H_10 =>
 pExtract 0 x41 fun x42 =>
 pExtract 1 x41 fun x43 =>
 pNe 0 i5 k6 fun x46 =>
 pAnd x46 (fun J_11 =>
 pGt x37 (.int .i64 0) fun x49 =>
 J_11 x49 H_10) H_10 fun x50 H_12 => ∀ _ : Env,
 pAnd x50 (fun J_13 =>
 pGe x43 x37 fun x54 =>
 J_13 x54 H_12) H_12 fun x55 H_14 => ∀ _ : Env,
 pAnd x55 (fun J_15 =>
 pShl (.int .u64 1) x37 fun x60 =>
 pSub x60 (.int .u64 1) fun x61 =>
 pBits .and x42 x61 fun x62 =>
 pEq 0 x36 x62 fun x63 =>
 J_15 x63 H_14) H_14 fun x64 H_16 => ∀ _ : Env,
 pCond x64
 (R (.bool false) H_16)
 (pAdd k6 (.int .i64 1) fun x31 =>
 I_6 x31 H_16 ∧ m_7 x31 H_16 < m_7 k6 H_8))
 (pAdd i5 (.int .i64 1) fun x25 =>
 I_3 x25 H_8 ∧ m_4 x25 H_8 < m_4 i5 H_5))
 (R (.bool true) H_5)))
set_option maxRecDepth 100000 in
theorem lighterlaw03_CanonApart.vc (l0 : Value) (H0 : Heap) (R : Value → Heap → Prop) (h : lighterlaw03_CanonApart.res l0 H0 R) : CallsH Try.prog 3 #[l0] H0 R := by
  have e : vcFn Try.prog Try.C Try.f3 lighterlaw03_CanonApart.an [l0] H0 R = lighterlaw03_CanonApart.res l0 H0 R := by kernel_rfl
  exact vcFn_sound Try.callable Try.mixed Try.func3 (by kernel_rfl) (e.mpr h)

def lighterlaw03_CanonWords.an : Ann := (.seq (.reg (.op 0 [] .nil)) (.seq (.seq (.reg (.op 0 [] (.op 1 [] .nil))) (.cond (.seq (.reg (.op 0 [] .nil)) .leaf) .leaf)) (.seq (.reg (.op 0 [] (.op 1 [] (.op 2 [] (.op 3 [] (.op 4 [] (.op 5 [] (.op 6 [] (.op 7 [] .nil))))))))) (.seq (.seq (.reg (.op 0 [] (.op 1 [] (.op 2 [] (.op 3 [] (.op 4 [] (.op 5 [] (.grp 5 (.op 6 [] (.op 7 [] (.op 8 [] (.op 9 [] (.op 10 [] .nil))))) 11 .nil)))))))) (.cond (.seq (.reg (.op 0 [] .nil)) .leaf) .leaf)) (.seq (.reg (.op 0 [] (.op 1 [] (.op 2 [] (.op 3 [] (.op 4 [] (.op 5 [] (.op 6 [] (.op 7 [] .nil))))))))) (.seq (.seq (.reg (.op 0 [] (.op 1 [] .nil))) (.cond (.seq (.reg (.op 0 [] (.op 1 [] (.op 2 [] (.grp 2 (.op 3 [] (.op 4 [] .nil)) 5 (.op 6 [] (.grp 6 (.op 7 [] (.op 8 [] (.op 9 [] (.op 10 [] .nil)))) 11 (.op 12 [] .nil)))))))) .leaf) .leaf)) (.seq (.reg (.op 0 [] (.op 1 [] (.op 2 [] .nil)))) (.seq (.reg (.op 0 [] (.op 1 [] (.op 2 [] .nil)))) (.seq (.seq (.reg (.op 0 [] .nil)) (.block (.loop [13] [6, 13, 14, 15, 60, 61, 62, 63, 64, 65, 66, 67, 68, 69, 70, 71, 72, 73, 74, 75, 76, 77, 78, 79, 80, 81, 82, 83, 84, 85, 86, 87, 88, 89, 90] (.seq (.seq (.reg (.op 0 [] (.op 1 [] (.op 2 [] (.op 3 [] .nil))))) (.cond .leaf .leaf)) (.seq (.block (.seq (.reg (.op 0 [] (.op 1 [] (.op 2 [] (.op 3 [] (.op 4 [] (.op 5 [] (.op 6 [] (.op 7 [] .nil))))))))) (.seq (.drw [0, 0, 3, 0, 0, 24, 56, 127, 255, 511, 511, 2047, 4095, 511, 511, 25087, 57855, 131071, 262143] (.op 0 [] (.op 1 [] (.op 3 [] (.op 4 [] (.op 5 [] (.op 6 [] (.op 2 [6] (.op 7 [] (.op 8 [] (.grp 8 (.op 9 [] (.op 10 [] (.op 11 [] (.op 12 [] (.op 13 [] (.op 14 [] (.op 15 [] (.op 16 [] (.op 17 [] .nil))))))))) 18 .nil))))))))))) (.cond (.seq (.reg (.op 0 [] .nil)) .leaf) .leaf)))) (.reg (.op 0 [] (.op 1 [] (.op 2 [] .nil))))))))) (.seq (.seq (.reg (.op 0 [] (.op 1 [] (.op 2 [] (.grp 2 (.op 3 [] (.op 4 [] (.op 5 [] (.op 6 [] .nil)))) 7 .nil))))) (.cond (.seq (.reg (.op 0 [] (.op 1 [] (.op 2 [] (.grp 2 (.op 3 [] (.op 4 [] .nil)) 5 (.op 6 [] .nil)))))) .leaf) .leaf)) (.seq (.reg (.op 0 [] (.op 1 [] (.op 2 [] (.op 3 [] (.op 4 [] (.op 5 [] .nil))))))) .leaf)))))))))))
/-- lighter/lighterlaw03.CanonWords -/
def lighterlaw03_CanonWords.res (l0 : Value) (loose1 : Value) (ask2 : Value) (H0 : Heap) (R : Value → Heap → Prop) : Prop :=
 CallsH Try.prog 8 #[] H0 fun x16 H_1 =>
 pNot x16 fun x17 =>
 pCond x17
 (R (.bool false) H_1)
 (CallsH Try.prog 9 #[l0, loose1] H_1 fun x21 H_2 =>
 pExtract 0 x21 fun x22 =>
 pExtract 1 x21 fun x23 =>
 CallsH Try.prog 11 #[l0, loose1] H_2 fun x27 H_3 =>
 pNe 0 x23 x27 fun x28 =>
 pOr x28 (fun J_4 =>
 pEq 0 x23 (.int .i64 0) fun x31 =>
 pNe 3 x22 (.pointer none) fun x33 =>
 pNe 2 x31 x33 fun x34 =>
 J_4 x34 H_3) H_3 fun x35 H_5 => ∀ _ : Env,
 pCond x35
 (R (.bool false) H_5)
 (CallsH Try.prog 10 #[x22, ask2] H_5 fun x39 H_6 =>
 pExtract 0 x39 fun x40 =>
 pExtract 1 x39 fun x41 =>
 pNe 0 x23 (.int .i64 0) fun x43 =>
 pCond x43
 (pEq 0 x40 (.int .u64 0) fun x45 =>
 pAnd x45 (fun J_7 =>
 pEq 0 x41 (.int .i64 0) fun x48 =>
 J_7 x48 H_6) H_6 fun x49 H_8 => ∀ _ : Env,
 pAnd x49 (fun J_9 =>
 CallsH Try.prog 12 #[x22] H_8 fun x52 H_11 =>
 pLen x52 fun x53 =>
 pEq 0 x53 (.int .i64 0) fun x54 =>
 J_9 x54 H_11) H_8 fun x55 H_10 => ∀ _ : Env,
 R x55 H_10)
 (CallsH Try.prog 13 #[l0] H_6 fun x57 H_12 =>
 CallsH Try.prog 12 #[x22] H_12 fun x59 H_13 =>
 ∃ (I_14 : Value → Heap → Prop) (m_15 : Value → Heap → Nat), I_14 (.int .i64 0) H_13 ∧
 ∀ _ : Env, ∀ s13 : Value, ∀ H_16 : Heap, I_14 s13 H_16 →
 pLen l0 fun x62 =>
 pLt s13 x62 fun x63 =>
 pCond x63
 (CallsH Try.prog 10 #[x22, s13] H_16 fun x69 H_17 =>
 pExtract 0 x69 fun x70 =>
 pExtract 1 x69 fun x71 =>
 pIdxSl 1 x57 s13 fun x77 =>
 pLoad H_17 x77 fun x78 =>
 CallsH Try.prog 14 #[x70, x71] H_17 fun x74 H_18 =>
 (pLoad H_18 x77 fun r_ =>
 r_ = x78) ∧
 pNe 1 x74 x78 fun x79 =>
 pOr x79 (fun J_19 =>
 pIdxSl 1 x59 s13 fun x83 =>
 pLoad H_18 x83 fun x84 =>
 pIdxSl 1 l0 s13 fun x87 =>
 pLoad H_18 x87 fun x88 =>
 pNe 0 x84 x88 fun x89 =>
 J_19 x89 H_18) H_18 fun x90 H_20 => ∀ _ : Env,
 pCond x90
 (R (.bool false) H_20)
 (pAdd s13 (.int .i64 1) fun x65 =>
 I_14 x65 H_20 ∧ m_15 x65 H_20 < m_15 s13 H_16))
 (pLt ask2 (.int .i64 0) fun x92 =>
 pOr x92 (fun J_21 =>
 pLen l0 fun x96 =>
 pGe ask2 x96 fun x97 =>
 J_21 x97 H_16) H_16 fun x98 H_22 => ∀ _ : Env,
 pCond x98
 (pEq 0 x40 (.int .u64 0) fun x100 =>
 pAnd x100 (fun J_23 =>
 pEq 0 x41 (.int .i64 0) fun x103 =>
 J_23 x103 H_22) H_22 fun x104 H_24 => ∀ _ : Env,
 R x104 H_24)
 (pLen x59 fun x106 =>
 pLen l0 fun x108 =>
 pEq 0 x106 x108 fun x109 =>
 R x109 H_22)))))
set_option maxRecDepth 100000 in
theorem lighterlaw03_CanonWords.vc (l0 : Value) (loose1 : Value) (ask2 : Value) (H0 : Heap) (R : Value → Heap → Prop) (h : lighterlaw03_CanonWords.res l0 loose1 ask2 H0 R) : CallsH Try.prog 4 #[l0, loose1, ask2] H0 R := by
  have e : vcFn Try.prog Try.C Try.f4 lighterlaw03_CanonWords.an [l0, loose1, ask2] H0 R = lighterlaw03_CanonWords.res l0 loose1 ask2 H0 R := by kernel_rfl
  exact vcFn_sound Try.callable Try.mixed Try.func4 (by kernel_rfl) (e.mpr h)

def lighterlaw03_CanonShares.an : Ann := (.seq (.reg (.op 0 [] .nil)) (.seq (.seq (.reg (.op 0 [] (.op 1 [] .nil))) (.cond (.seq (.reg (.op 0 [] .nil)) .leaf) .leaf)) (.seq (.reg (.op 0 [] (.op 1 [] (.op 2 [] (.op 3 [] (.op 4 [] (.op 5 [] .nil))))))) (.seq (.reg (.op 0 [] (.op 1 [] (.op 2 [] .nil)))) (.seq (.reg (.op 0 [] (.op 1 [] (.op 2 [] (.op 3 [] (.op 4 [] (.op 5 [] .nil))))))) (.seq (.seq (.reg (.op 0 [] (.op 1 [] .nil))) (.cond (.seq (.reg (.op 0 [] (.op 1 [] (.op 2 [] (.grp 2 (.op 3 [] (.op 4 [] (.op 5 [] .nil))) 6 (.op 7 [] .nil)))))) .leaf) .leaf)) (.seq (.reg (.op 0 [] .nil)) (.seq (.seq (.reg (.op 0 [] .nil)) (.block (.loop [6, 7] [6, 7, 8, 9, 34, 35, 36, 37, 38, 39, 40, 41, 42, 43, 44, 45, 46, 47, 48, 49, 50, 51, 52, 53, 54, 55, 56, 57] (.seq (.seq (.reg (.op 0 [] (.op 1 [] (.op 2 [] (.op 3 [] .nil))))) (.cond .leaf .leaf)) (.cut [6] [6, 8, 9, 40, 41, 42, 43, 44, 45, 46, 47, 48, 49, 50, 51, 52, 53, 54, 55, 56, 57] (.block (.seq (.reg (.op 0 [] (.op 1 [] (.op 2 [] (.op 3 [] (.op 4 [] .nil)))))) (.cond (.seq (.reg (.op 0 [] .nil)) (.seq (.seq (.reg (.op 0 [] .nil)) (.block (.loop [8, 9] [8, 9, 45, 46, 47, 48, 49, 50, 51, 52, 53, 54] (.seq (.seq (.reg (.op 0 [] (.op 1 [] (.op 2 [] (.op 3 [] (.op 4 [] (.op 5 [] .nil))))))) (.cond .leaf .leaf)) (.seq (.block (.reg (.op 0 [] (.op 1 [] (.op 2 [] .nil))))) (.reg (.op 0 [] (.op 1 [] (.op 2 [] .nil))))))))) (.reg (.op 0 [] (.op 1 [] (.op 2 [] (.op 3 [] .nil))))))) .leaf))) (.reg (.op 0 [] (.op 1 [] (.op 2 [] .nil))))))))) (.seq (.seq (.reg (.op 0 [] (.op 1 [] (.op 2 [] (.op 3 [] (.grp 3 (.op 4 [] (.op 5 [] (.op 6 [] (.op 7 [] (.op 8 [] .nil))))) 9 .nil)))))) (.cond (.seq (.reg (.op 0 [] .nil)) .leaf) .leaf)) (.seq (.seq (.reg (.op 0 [] (.op 1 [] .nil))) (.cond (.seq (.reg (.op 0 [] (.op 1 [] (.op 2 [] (.op 3 [] .nil))))) .leaf) .leaf)) (.seq (.reg (.op 0 [] (.op 1 [] (.op 2 [] (.op 3 [] .nil))))) (.seq (.seq (.reg (.op 0 [] .nil)) (.block (.loop [10, 11] [2, 10, 11, 76, 77, 78, 79, 80, 81, 82, 83, 84, 85, 86, 87, 88, 89, 90, 91, 92, 93, 94, 95, 96, 97, 98, 99, 100, 101, 102, 103, 104, 105, 106, 107, 108, 109, 110, 111, 112, 113, 114, 115, 116, 117, 118, 119] (.seq (.seq (.reg (.op 0 [] (.op 1 [] (.op 2 [] (.op 3 [] .nil))))) (.cond .leaf .leaf)) (.cut [10] [2, 10, 82, 83, 84, 85, 86, 87, 88, 89, 90, 91, 92, 93, 94, 95, 96, 97, 98, 99, 100, 101, 102, 103, 104, 105, 106, 107, 108, 109, 110, 111, 112, 113, 114, 115, 116, 117, 118, 119] (.block (.seq (.seq (.reg (.op 0 [] (.op 1 [] (.op 2 [] (.op 3 [] (.op 4 [] (.op 5 [] (.grp 5 (.op 6 [] (.op 7 [] (.op 8 [] (.op 9 [] (.op 10 [] .nil))))) 11 (.op 12 [] (.grp 12 (.op 13 [] (.op 14 [] (.op 15 [] (.grp 15 (.op 16 [] (.op 17 [] (.op 18 [] (.op 19 [] (.op 20 [] (.op 21 [] (.op 22 [] .nil))))))) 23 .nil)))) 24 .nil)))))))))) (.cond (.seq (.reg (.op 0 [] .nil)) .leaf) .leaf)) (.seq (.reg (.op 0 [] (.op 1 [] (.op 2 [] (.grp 2 (.op 3 [] (.op 4 [] (.op 5 [] (.op 6 [] (.op 7 [] .nil))))) 8 .nil))))) (.cond (.reg (.op 0 [] (.op 1 [] (.op 2 [] (.op 3 [] (.op 4 [] .nil)))))) .leaf)))) (.reg (.op 0 [] (.op 1 [] (.op 2 [] .nil))))))))) (.seq (.reg (.op 0 [] (.op 1 [] (.op 2 [] (.op 3 [] (.grp 3 (.op 4 [] (.op 5 [] (.op 6 [] (.grp 6 (.op 7 [] (.op 8 [] (.op 9 [] .nil))) 10 .nil)))) 11 (.op 12 [] .nil))))))) .leaf)))))))))))))
/-- lighter/lighterlaw03.CanonShares -/
def lighterlaw03_CanonShares.res (l0 : Value) (H0 : Heap) (R : Value → Heap → Prop) : Prop :=
 CallsH Try.prog 8 #[] H0 fun x12 H_1 =>
 pNot x12 fun x13 =>
 pCond x13
 (R (.bool false) H_1)
 (pLen l0 fun x16 =>
 pMin x16 (.int .i64 250) fun x17 =>
 pSlSl 1 l0 none (some x17) fun x18 =>
 CallsH Try.prog 11 #[x18, (.bool false)] H_1 fun x20 H_2 =>
 CallsH Try.prog 15 #[x18] H_2 fun x22 H_3 =>
 CallsH Try.prog 16 #[x18] H_3 fun x24 H_4 =>
 pEq 0 x20 (.int .i64 1) fun x26 =>
 pCond x26
 (pEq 0 x22 (.int .i64 (-1)) fun x28 =>
 pAnd x28 (fun J_5 =>
 pLen x24 fun x31 =>
 pEq 0 x31 (.int .i64 0) fun x32 =>
 J_5 x32 H_4) H_4 fun x33 H_6 => ∀ _ : Env,
 R x33 H_6)
 (∃ (I_7 : Value → Value → Heap → Prop) (m_8 : Value → Value → Heap → Nat), I_7 (.int .i64 0) (.int .i64 0) H_4 ∧
 ∀ _ : Env, ∀ sum6 : Value, ∀ i7 : Value, ∀ H_9 : Heap, I_7 sum6 i7 H_9 →
 pLen x18 fun x36 =>
 pLt i7 x36 fun x37 =>
 pCond x37
 (∃ J_10 : Value → Heap → Prop, (∀ _ : Env, ∀ sum6' : Value, ∀ H_11 : Heap, J_10 sum6' H_11 →
 pAdd i7 (.int .i64 1) fun x39 =>
 I_7 sum6' x39 H_11 ∧ m_8 sum6' x39 H_11 < m_8 sum6 i7 H_9) ∧
 pIdxSl 1 x18 i7 fun x42 =>
 pLoad H_9 x42 fun x43 =>
 pGt x43 (.int .i64 0) fun x44 =>
 pCond x44
 (∃ (I_12 : Value → Value → Heap → Prop) (m_13 : Value → Value → Heap → Nat), I_12 (.int .i64 32768) (.int .i64 0) H_9 ∧
 ∀ _ : Env, ∀ p8 : Value, ∀ k9 : Value, ∀ H_14 : Heap, I_12 p8 k9 H_14 →
 pIdxSl 1 x18 i7 fun x48 =>
 pLoad H_14 x48 fun x49 =>
 pLt k9 x49 fun x50 =>
 pCond x50
 (pQuo p8 (.int .i64 2) fun x54 =>
 pAdd k9 (.int .i64 1) fun x52 =>
 I_12 x54 x52 H_14 ∧ m_13 x54 x52 H_14 < m_13 p8 k9 H_14)
 (pAdd sum6 p8 fun x57 =>
 J_10 x57 H_14))
 (J_10 sum6 H_9))
 (pNe 0 x22 sum6 fun x60 =>
 pOr x60 (fun J_15 =>
 pEq 0 x20 (.int .i64 5) fun x63 =>
 pGt sum6 (.int .i64 32768) fun x65 =>
 pNe 2 x63 x65 fun x66 =>
 J_15 x66 H_9) H_9 fun x67 H_16 => ∀ _ : Env,
 pCond x67
 (R (.bool false) H_16)
 (pGt sum6 (.int .i64 32768) fun x69 =>
 pCond x69
 (pLen x24 fun x71 =>
 pEq 0 x71 (.int .i64 0) fun x72 =>
 R x72 H_16)
 (pBuildSl H_16 3 0 [] [] fun x73 H_17 =>
 pAppend H_17 3 1 8 [(.int .i64 0)] x73 x18 fun x75 H_18 =>
 ∃ (I_19 : Value → Value → Heap → Prop) (m_20 : Value → Value → Heap → Nat), I_19 x75 (.int .i64 0) H_18 ∧
 ∀ _ : Env, ∀ whole10 : Value, ∀ n11 : Value, ∀ H_21 : Heap, I_19 whole10 n11 H_21 →
 pLen x24 fun x78 =>
 pLt n11 x78 fun x79 =>
 pCond x79
 (∃ J_22 : Value → Heap → Prop, (∀ _ : Env, ∀ whole10' : Value, ∀ H_23 : Heap, J_22 whole10' H_23 →
 pAdd n11 (.int .i64 1) fun x81 =>
 I_19 whole10' x81 H_23 ∧ m_20 whole10' x81 H_23 < m_20 whole10 n11 H_21) ∧
 pIdxSl 1 x24 n11 fun x84 =>
 pLoad H_21 x84 fun x85 =>
 pLt x85 (.int .i64 0) fun x86 =>
 pOr x86 (fun J_24 =>
 pIdxSl 1 x24 n11 fun x90 =>
 pLoad H_21 x90 fun x91 =>
 pGt x91 (.int .i64 1) fun x92 =>
 J_24 x92 H_21) H_21 fun x93 H_25 => ∀ _ : Env,
 pOr x93 (fun J_26 =>
 pEq 0 n11 (.int .i64 0) fun x96 =>
 pAnd x96 (fun J_28 =>
 pIdxSl 1 x24 (.int .i64 0) fun x99 =>
 pLoad H_25 x99 fun x100 =>
 pEq 0 x100 (.int .i64 1) fun x101 =>
 pEq 0 sum6 (.int .i64 0) fun x103 =>
 pNe 2 x101 x103 fun x104 =>
 J_28 x104 H_25) H_25 fun x105 H_29 => ∀ _ : Env,
 J_26 x105 H_29) H_25 fun x106 H_27 => ∀ _ : Env,
 pCond x106
 (R (.bool false) H_27)
 (pGt n11 (.int .i64 0) fun x108 =>
 pAnd x108 (fun J_30 =>
 pIdxSl 1 x24 n11 fun x112 =>
 pLoad H_27 x112 fun x113 =>
 pEq 0 x113 (.int .i64 1) fun x114 =>
 J_30 x114 H_27) H_27 fun x115 H_31 => ∀ _ : Env,
 pCond x115
 (pBuildSl H_31 3 1 [(.int .i64 0)] [(0, 1, n11)] fun x118 H_32 =>
 pAppend H_32 3 1 8 [(.int .i64 0)] whole10 x118 fun x119 H_33 =>
 J_22 x119 H_33)
 (J_22 whole10 H_31)))
 (pLen x24 fun x121 =>
 pEq 0 x121 (.int .i64 16) fun x122 =>
 pAnd x122 (fun J_34 =>
 pEq 0 sum6 (.int .i64 0) fun x125 =>
 pOr x125 (fun J_36 =>
 CallsH Try.prog 11 #[whole10, (.bool false)] H_21 fun x128 H_38 =>
 pEq 0 x128 (.int .i64 0) fun x129 =>
 J_36 x129 H_38) H_21 fun x130 H_37 => ∀ _ : Env,
 J_34 x130 H_37) H_21 fun x131 H_35 => ∀ _ : Env,
 R x131 H_35))))))
set_option maxRecDepth 100000 in
theorem lighterlaw03_CanonShares.vc (l0 : Value) (H0 : Heap) (R : Value → Heap → Prop) (h : lighterlaw03_CanonShares.res l0 H0 R) : CallsH Try.prog 5 #[l0] H0 R := by
  have e : vcFn Try.prog Try.C Try.f5 lighterlaw03_CanonShares.an [l0] H0 R = lighterlaw03_CanonShares.res l0 H0 R := by kernel_rfl
  exact vcFn_sound Try.callable Try.mixed Try.func5 (by kernel_rfl) (e.mpr h)

def lighterlaw03_CanonReads.an : Ann := (.seq (.reg (.op 0 [] .nil)) (.seq (.seq (.reg (.op 0 [] (.op 1 [] .nil))) (.cond (.seq (.reg (.op 0 [] .nil)) .leaf) .leaf)) (.seq (.reg (.op 0 [] (.op 1 [] (.op 2 [] (.op 3 [] (.op 4 [] (.op 5 [] (.op 6 [] .nil)))))))) (.seq (.seq (.reg (.op 0 [] (.op 1 [] .nil))) (.cond (.seq (.reg (.op 0 [] .nil)) .leaf) .leaf)) (.seq (.reg (.op 0 [] (.op 1 [] (.op 2 [] .nil)))) (.seq (.reg (.op 0 [] (.op 1 [] (.op 2 [] (.op 3 [] (.op 4 [] (.op 5 [] .nil))))))) (.seq (.reg (.op 0 [] .nil)) (.seq (.reg (.op 0 [] (.op 1 [] .nil))) (.seq (.reg (.op 0 [] (.op 1 [] (.op 2 [] .nil)))) (.seq (.reg (.op 0 [] .nil)) (.seq (.reg (.op 0 [] (.op 1 [] (.op 2 [] .nil)))) (.seq (.seq (.reg (.op 0 [] .nil)) (.block (.loop [11, 13] [11, 13, 41, 42, 43, 44, 45, 46, 47, 48, 49, 50, 51, 52, 53, 54, 55, 56] (.seq (.seq (.reg (.op 0 [] (.op 1 [] (.op 2 [] (.op 3 [] .nil))))) (.cond .leaf .leaf)) (.seq (.block (.reg (.op 0 [] (.op 1 [] (.op 2 [] (.op 3 [] (.op 4 [] (.op 5 [] (.op 6 [] (.op 7 [] (.op 8 [] (.op 9 [] (.op 10 [] .nil))))))))))))) (.reg (.op 0 [] (.op 1 [] (.op 2 [] .nil))))))))) (.seq (.reg (.op 0 [] (.op 1 [] (.op 2 [] (.op 3 [] (.op 4 [] (.op 5 [] (.op 6 [] (.op 7 [] .nil))))))))) (.cut [11] [11, 64, 65, 66] (.seq (.reg (.op 0 [] (.op 1 [] (.op 2 [] .nil)))) (.cond (.reg (.op 0 [] .nil)) .leaf)) (.seq (.seq (.reg (.op 0 [] .nil)) (.block (.loop [11, 14] [6, 11, 14, 15, 16, 17, 67, 68, 69, 70, 71, 72, 73, 74, 75, 76, 77, 78, 79, 80, 81, 82, 83, 84, 85, 86, 87, 88, 89, 90, 91, 92, 93, 94, 95, 96, 97, 98, 99, 100, 101, 102, 103, 104, 105, 106, 107, 108, 109, 110, 111, 112, 113, 114, 115, 116, 117, 118, 119, 120, 121, 122, 123, 124, 125, 126, 127, 128] (.seq (.seq (.reg (.op 0 [] (.op 1 [] .nil))) (.cond .leaf .leaf)) (.seq (.block (.seq (.reg (.op 0 [] (.op 1 [] (.op 2 [] (.op 3 [] (.op 4 [] (.op 5 [] (.op 6 [] .nil)))))))) (.seq (.reg (.op 0 [] (.op 1 [] (.op 2 [] (.op 3 [] (.op 4 [] (.op 5 [] (.op 6 [] (.op 7 [] .nil))))))))) (.seq (.seq (.reg (.op 0 [] (.op 1 [] .nil))) (.cond (.seq (.reg (.op 0 [] (.op 1 [] (.op 2 [] (.grp 2 (.op 3 [] (.op 4 [] .nil)) 5 (.op 6 [] (.grp 6 (.op 7 [] (.op 8 [] (.op 9 [] (.op 10 [] .nil)))) 11 (.op 12 [] .nil)))))))) .leaf) .leaf)) (.seq (.seq (.reg (.op 0 [] (.op 1 [] .nil))) (.cond (.seq (.reg (.op 0 [] (.op 1 [] (.op 2 [] (.grp 2 (.op 3 [] (.op 4 [] .nil)) 5 (.op 6 [] (.grp 6 (.op 7 [] (.op 8 [] (.op 9 [] (.op 10 [] .nil)))) 11 (.op 12 [] .nil)))))))) .leaf) .leaf)) (.seq (.seq (.reg (.op 0 [] (.op 1 [] (.op 2 [] (.grp 2 (.op 3 [] (.op 4 [] (.op 5 [] .nil))) 6 .nil))))) (.cond (.seq (.reg (.op 0 [] .nil)) .leaf) .leaf)) (.seq (.reg (.op 0 [] (.op 1 [] (.op 2 [] (.op 3 [] (.op 4 [] (.op 5 [] (.op 6 [] (.op 7 [] .nil))))))))) (.seq (.reg (.op 0 [] (.op 1 [] (.op 2 [] (.op 3 [] .nil))))) (.cond (.seq (.reg (.op 0 [] .nil)) .leaf) .leaf))))))))) (.reg (.op 0 [] (.op 1 [] (.op 2 [] .nil))))))))) (.seq (.reg (.op 0 [] .nil)) .leaf))))))))))))))))
/-- lighter/lighterlaw03.CanonReads -/
def lighterlaw03_CanonReads.res (l0 : Value) (s1 : Value) (spare2 : Value) (H0 : Heap) (R : Value → Heap → Prop) : Prop :=
 CallsH Try.prog 8 #[] H0 fun x18 H_1 =>
 pNot x18 fun x19 =>
 pCond x19
 (R (.bool false) H_1)
 (CallsH Try.prog 9 #[l0, (.bool true)] H_1 fun x22 H_2 =>
 pExtract 0 x22 fun x23 =>
 pExtract 1 x22 fun x24 =>
 pNe 0 x24 (.int .i64 0) fun x26 =>
 pCond x26
 (R (.bool true) H_2)
 (CallsH Try.prog 13 #[l0] H_2 fun x28 H_3 =>
 pLenS s1 fun x31 =>
 pMin x31 (.int .i64 60) fun x32 =>
 pSlStr s1 none (some x32) fun x33 =>
 pBox H_3 41 (.agg #[(str []), (.int .u64 0), (.int .i64 0)]) fun r10 H_4 =>
 CallsH Try.prog 17 #[r10, x33] H_4 fun x35 H_5 =>
 pBits .and spare2 (.int .i64 7) fun x37 =>
 CallsH Try.prog 18 #[r10, x37] H_5 fun x38 H_6 =>
 CallsH Try.prog 19 #[x33] H_6 fun x40 H_7 =>
 ∃ (I_8 : Value → Value → Heap → Prop) (m_9 : Value → Value → Heap → Nat), I_8 (str []) (.int .i64 0) H_7 ∧
 ∀ _ : Env, ∀ all11 : Value, ∀ i13 : Value, ∀ H_10 : Heap, I_8 all11 i13 H_10 →
 pLen x40 fun x43 =>
 pLt i13 x43 fun x44 =>
 pCond x44
 (pIdxSl 1 x40 i13 fun x50 =>
 pLoad H_10 x50 fun x51 =>
 pAdd (.int .i64 48) x51 fun x52 =>
 pConv .u8 x52 fun x53 =>
 pBuildSl H_10 5 1 [(.int .u8 0)] [(0, 1, x53)] fun x54 H_11 =>
 pStrOf H_11 x54 fun x55 =>
 pAdd all11 x55 fun x56 =>
 pAdd i13 (.int .i64 1) fun x46 =>
 I_8 x56 x46 H_11 ∧ m_9 x56 x46 H_11 < m_9 all11 i13 H_10)
 (pBits .and spare2 (.int .i64 7) fun x59 =>
 pLenS all11 fun x61 =>
 pMin x59 x61 fun x62 =>
 pSlStr all11 (some x62) none fun x63 =>
 ∃ J_12 : Value → Heap → Prop, (∀ _ : Env, ∀ all11' : Value, ∀ H_13 : Heap, J_12 all11' H_13 →
 ∃ (I_14 : Value → Value → Heap → Prop) (m_15 : Value → Value → Heap → Nat), I_14 all11' (.int .i64 0) H_13 ∧
 ∀ _ : Env, ∀ all11'' : Value, ∀ i14 : Value, ∀ H_16 : Heap, I_14 all11'' i14 H_16 →
 pLt i14 (.int .i64 500) fun x68 =>
 pCond x68
 (CallsH Try.prog 20 #[x23, r10] H_16 fun x73 H_17 =>
 pExtract 0 x73 fun x74 =>
 pExtract 1 x73 fun x75 =>
 pLenS all11'' fun x79 =>
 pMin x79 (.int .i64 15) fun x80 =>
 pSlStr all11'' none (some x80) fun x81 =>
 CallsH Try.prog 21 #[x28, x81] H_17 fun x82 H_18 =>
 pEq 0 x82 (.int .i64 (-2)) fun x84 =>
 pCond x84
 (pEq 0 x75 (.int .i64 2) fun x86 =>
 pAnd x86 (fun J_19 =>
 pEq 0 x74 (.int .i64 0) fun x89 =>
 J_19 x89 H_18) H_18 fun x90 H_20 => ∀ _ : Env,
 pAnd x90 (fun J_21 =>
 CallsH Try.prog 22 #[r10] H_20 fun x92 H_23 =>
 pLenS all11'' fun x94 =>
 pEq 0 x92 x94 fun x95 =>
 J_21 x95 H_23) H_20 fun x96 H_22 => ∀ _ : Env,
 R x96 H_22)
 (pEq 0 x82 (.int .i64 (-1)) fun x98 =>
 pCond x98
 (pEq 0 x75 (.int .i64 4) fun x100 =>
 pAnd x100 (fun J_24 =>
 pEq 0 x74 (.int .i64 0) fun x103 =>
 J_24 x103 H_18) H_18 fun x104 H_25 => ∀ _ : Env,
 pAnd x104 (fun J_26 =>
 CallsH Try.prog 22 #[r10] H_25 fun x106 H_28 =>
 pLenS all11'' fun x108 =>
 pEq 0 x106 x108 fun x109 =>
 J_26 x109 H_28) H_25 fun x110 H_27 => ∀ _ : Env,
 R x110 H_27)
 (pNe 0 x75 (.int .i64 0) fun x112 =>
 pOr x112 (fun J_29 =>
 pNe 0 x74 x82 fun x116 =>
 J_29 x116 H_18) H_18 fun x117 H_30 => ∀ _ : Env,
 pCond x117
 (R (.bool false) H_30)
 (pIdxSl 1 x28 x82 fun x121 =>
 pLoad H_30 x121 fun x122 =>
 pLenS x122 fun x123 =>
 pSlStr all11'' (some x123) none fun x124 =>
 CallsH Try.prog 22 #[r10] H_30 fun x125 H_31 =>
 pLenS x124 fun x127 =>
 pNe 0 x125 x127 fun x128 =>
 pCond x128
 (R (.bool false) H_31)
 (pAdd i14 (.int .i64 1) fun x70 =>
 I_14 x124 x70 H_31 ∧ m_15 x124 x70 H_31 < m_15 all11'' i14 H_16)))))
 (R (.bool true) H_16)) ∧
 pLenS x33 fun x65 =>
 pEq 0 x65 (.int .i64 0) fun x66 =>
 pCond x66
 (J_12 (str []) H_10)
 (J_12 x63 H_10))))
set_option maxRecDepth 100000 in
theorem lighterlaw03_CanonReads.vc (l0 : Value) (s1 : Value) (spare2 : Value) (H0 : Heap) (R : Value → Heap → Prop) (h : lighterlaw03_CanonReads.res l0 s1 spare2 H0 R) : CallsH Try.prog 6 #[l0, s1, spare2] H0 R := by
  have e : vcFn Try.prog Try.C Try.f6 lighterlaw03_CanonReads.an [l0, s1, spare2] H0 R = lighterlaw03_CanonReads.res l0 s1 spare2 H0 R := by kernel_rfl
  exact vcFn_sound Try.callable Try.mixed Try.func6 (by kernel_rfl) (e.mpr h)

def lighterlaw03_CanonBack.an : Ann := (.seq (.reg (.op 0 [] .nil)) (.seq (.seq (.reg (.op 0 [] (.op 1 [] .nil))) (.cond (.seq (.reg (.op 0 [] .nil)) .leaf) .leaf)) (.seq (.reg (.op 0 [] (.op 1 [] (.op 2 [] (.op 3 [] (.op 4 [] (.op 5 [] (.op 6 [] .nil)))))))) (.seq (.seq (.reg (.op 0 [] (.op 1 [] .nil))) (.cond (.seq (.reg (.op 0 [] .nil)) .leaf) .leaf)) (.seq (.reg (.op 0 [] .nil)) (.seq (.reg (.op 0 [] .nil)) (.seq (.seq (.reg (.op 0 [] .nil)) (.block (.loop [8, 9] [8, 9, 10, 11, 25, 26, 27, 28, 29, 30, 31, 32, 33, 34, 35, 36, 37, 38, 39, 40, 41, 42, 43, 44, 45, 46, 47, 48, 49, 50, 51, 52, 53, 54, 55, 56, 57, 58] (.seq (.seq (.reg (.op 0 [] (.op 1 [] (.op 2 [] (.op 3 [] (.op 4 [] (.grp 4 (.op 5 [] (.op 6 [] .nil)) 7 .nil))))))) (.cond .leaf .leaf)) (.cut [8] [8, 10, 11, 35, 36, 37, 38, 39, 40, 41, 42, 43, 44, 45, 46, 47, 48, 49, 50, 51, 52, 53, 54, 55, 56, 57, 58] (.block (.seq (.reg (.op 0 [] (.op 1 [] (.op 2 [] (.op 3 [] (.op 4 [] (.op 5 [] (.op 6 [] (.op 7 [] (.op 8 [] (.op 9 [] (.op 10 [] .nil)))))))))))) (.seq (.reg (.op 0 [] (.op 1 [] .nil))) (.cond (.seq (.reg (.op 0 [] (.op 1 [] (.op 2 [] (.op 3 [] (.op 4 [] (.op 5 [] .nil))))))) (.reg (.op 0 [] (.op 1 [] (.op 2 [] (.op 3 [] (.op 4 [] (.op 5 [] (.op 6 [] (.op 7 [] .nil)))))))))) .leaf)))) (.reg (.op 0 [] (.op 1 [] (.op 2 [] .nil))))))))) (.seq (.reg (.op 0 [] .nil)) (.seq (.reg (.op 0 [] .nil)) (.seq (.reg (.op 0 [] .nil)) (.seq (.reg (.op 0 [] (.op 1 [] .nil))) (.seq (.seq (.reg (.op 0 [] .nil)) (.block (.loop [13] [4, 13, 14, 15, 63, 64, 65, 66, 67, 68, 69, 70, 71, 72, 73, 74, 75, 76, 77, 78, 79, 80, 81, 82, 83] (.seq (.seq (.reg (.op 0 [] (.op 1 [] (.op 2 [] (.op 3 [] .nil))))) (.cond .leaf .leaf)) (.seq (.block (.seq (.reg (.op 0 [] (.op 1 [] (.op 2 [] (.op 3 [] (.op 4 [] (.op 5 [] (.op 6 [] .nil)))))))) (.seq (.reg (.op 0 [] (.op 1 [] (.op 2 [] (.grp 2 (.op 3 [] (.op 4 [] (.op 5 [] (.op 6 [] (.op 7 [] (.op 8 [] .nil)))))) 9 .nil))))) (.cond (.seq (.reg (.op 0 [] .nil)) .leaf) .leaf)))) (.reg (.op 0 [] (.op 1 [] (.op 2 [] .nil))))))))) (.seq (.reg (.op 0 [] .nil)) .leaf)))))))))))))
/-- lighter/lighterlaw03.CanonBack -/
def lighterlaw03_CanonBack.res (l0 : Value) (some1 : Value) (H0 : Heap) (R : Value → Heap → Prop) : Prop :=
 CallsH Try.prog 8 #[] H0 fun x16 H_1 =>
 pNot x16 fun x17 =>
 pCond x17
 (R (.bool false) H_1)
 (CallsH Try.prog 9 #[l0, (.bool true)] H_1 fun x20 H_2 =>
 pExtract 0 x20 fun x21 =>
 pExtract 1 x20 fun x22 =>
 pNe 0 x22 (.int .i64 0) fun x24 =>
 pCond x24
 (R (.bool true) H_2)
 (pBox H_2 54 (.agg #[(.slice none 0 0), (.int .u64 0), (.int .i64 0)]) fun w7 H_3 =>
 ∃ (I_4 : Value → Value → Heap → Prop) (m_5 : Value → Value → Heap → Nat), I_4 (.slice none 0 0) (.int .i64 0) H_3 ∧
 ∀ _ : Env, ∀ want8 : Value, ∀ i9 : Value, ∀ H_6 : Heap, I_4 want8 i9 H_6 →
 pLen some1 fun x27 =>
 pLt i9 x27 fun x28 =>
 pAnd x28 (fun J_7 =>
 pLt i9 (.int .i64 60) fun x31 =>
 J_7 x31 H_6) H_6 fun x32 H_8 => ∀ _ : Env,
 pCond x32
 (∃ J_9 : Value → Heap → Prop, (∀ _ : Env, ∀ want8' : Value, ∀ H_10 : Heap, J_9 want8' H_10 →
 pAdd i9 (.int .i64 1) fun x34 =>
 I_4 want8' x34 H_10 ∧ m_5 want8' x34 H_10 < m_5 want8 i9 H_6) ∧
 pIdxSl 1 some1 i9 fun x39 =>
 pLoad H_8 x39 fun x40 =>
 CallsH Try.prog 10 #[x21, x40] H_8 fun x41 H_11 =>
 pExtract 0 x41 fun x42 =>
 pExtract 1 x41 fun x43 =>
 pGt x43 (.int .i64 0) fun x45 =>
 pCond x45
 (pIdxSl 1 some1 i9 fun x49 =>
 pLoad H_11 x49 fun x50 =>
 CallsH Try.prog 23 #[x21, w7, x50] H_11 fun x51 H_12 =>
 pIdxSl 1 some1 i9 fun x55 =>
 pLoad H_12 x55 fun x56 =>
 pBuildSl H_12 3 1 [(.int .i64 0)] [(0, 1, x56)] fun x57 H_13 =>
 pAppend H_13 3 1 8 [(.int .i64 0)] want8 x57 fun x58 H_14 =>
 J_9 x58 H_14)
 (J_9 want8 H_11))
 (CallsH Try.prog 24 #[w7, (.int .u64 0), (.int .i64 7)] H_8 fun x59 H_15 =>
 CallsH Try.prog 25 #[w7] H_15 fun x60 H_16 =>
 pBox H_16 41 (.agg #[(str []), (.int .u64 0), (.int .i64 0)]) fun r12 H_17 =>
 CallsH Try.prog 26 #[w7] H_17 fun x61 H_18 =>
 CallsH Try.prog 17 #[r12, x61] H_18 fun x62 H_19 =>
 ∃ (I_20 : Value → Heap → Prop) (m_21 : Value → Heap → Nat), I_20 (.int .i64 0) H_19 ∧
 ∀ _ : Env, ∀ i13 : Value, ∀ H_22 : Heap, I_20 i13 H_22 →
 pLen want8 fun x65 =>
 pLt i13 x65 fun x66 =>
 pCond x66
 (CallsH Try.prog 20 #[x21, r12] H_22 fun x71 H_23 =>
 pExtract 0 x71 fun x72 =>
 pExtract 1 x71 fun x73 =>
 pNe 0 x73 (.int .i64 0) fun x75 =>
 pOr x75 (fun J_24 =>
 pIdxSl 1 want8 i13 fun x80 =>
 pLoad H_23 x80 fun x81 =>
 pNe 0 x72 x81 fun x82 =>
 J_24 x82 H_23) H_23 fun x83 H_25 => ∀ _ : Env,
 pCond x83
 (R (.bool false) H_25)
 (pAdd i13 (.int .i64 1) fun x68 =>
 I_20 x68 H_25 ∧ m_21 x68 H_25 < m_21 i13 H_22))
 (R (.bool true) H_22))))
set_option maxRecDepth 100000 in
theorem lighterlaw03_CanonBack.vc (l0 : Value) (some1 : Value) (H0 : Heap) (R : Value → Heap → Prop) (h : lighterlaw03_CanonBack.res l0 some1 H0 R) : CallsH Try.prog 7 #[l0, some1] H0 R := by
  have e : vcFn Try.prog Try.C Try.f7 lighterlaw03_CanonBack.an [l0, some1] H0 R = lighterlaw03_CanonBack.res l0 some1 H0 R := by kernel_rfl
  exact vcFn_sound Try.callable Try.mixed Try.func7 (by kernel_rfl) (e.mpr h)

def lighterlaw03_speaks.an : Ann := (.seq (.reg (.op 0 [] .nil)) (.seq (.reg (.op 0 [] (.op 1 [] (.op 2 [] (.op 3 [] (.op 4 [] (.op 5 [] (.op 6 [] .nil)))))))) (.seq (.reg (.op 0 [] (.op 1 [] (.op 2 [] (.op 3 [] (.op 4 [] (.op 5 [] (.op 6 [] .nil)))))))) (.seq (.reg (.op 0 [] (.op 1 [] (.op 2 [] (.grp 2 (.op 3 [] (.op 4 [] .nil)) 5 (.op 6 [] (.grp 6 (.op 7 [] (.op 8 [] .nil)) 9 (.op 10 [] .nil)))))))) .leaf))))
/-- lighter/lighterlaw03.speaks -/
def lighterlaw03_speaks.res (H0 : Heap) (R : Value → Heap → Prop) : Prop :=
 pBuildSl H0 3 4 [(.int .i64 0), (.int .i64 0), (.int .i64 0), (.int .i64 0)] [(0, 1, (.int .i64 2)), (1, 1, (.int .i64 1)), (2, 1, (.int .i64 3)), (3, 1, (.int .i64 3))] fun x6 H_1 =>
 CallsH Try.prog 9 #[x6, (.bool false)] H_1 fun x7 H_2 =>
 pExtract 0 x7 fun x8 =>
 pExtract 1 x7 fun x9 =>
 CallsH Try.prog 10 #[x8, (.int .i64 2)] H_2 fun x12 H_3 =>
 pExtract 0 x12 fun x13 =>
 pExtract 1 x12 fun x14 =>
 pEq 0 x9 (.int .i64 0) fun x16 =>
 pAnd x16 (fun J_4 =>
 pEq 0 x14 (.int .i64 3) fun x19 =>
 J_4 x19 H_3) H_3 fun x20 H_5 => ∀ _ : Env,
 pAnd x20 (fun J_6 =>
 pEq 0 x13 (.int .u64 3) fun x23 =>
 J_6 x23 H_5) H_5 fun x24 H_7 => ∀ _ : Env,
 R x24 H_7
set_option maxRecDepth 100000 in
theorem lighterlaw03_speaks.vc (H0 : Heap) (R : Value → Heap → Prop) (h : lighterlaw03_speaks.res H0 R) : CallsH Try.prog 8 #[] H0 R := by
  have e : vcFn Try.prog Try.C Try.f8 lighterlaw03_speaks.an [] H0 R = lighterlaw03_speaks.res H0 R := by kernel_rfl
  exact vcFn_sound Try.callable Try.mixed Try.func8 (by kernel_rfl) (e.mpr h)

def lighterlaw03_text.an : Ann := (.seq (.reg (.op 0 [] .nil)) (.seq (.reg (.op 0 [] .nil)) (.seq (.seq (.reg (.op 0 [] .nil)) (.block (.loop [0, 5, 6] [0, 5, 6, 7, 8, 9, 10, 11, 12, 13, 14, 15, 16, 17, 18, 19, 20, 21] (.seq (.seq (.reg (.op 0 [] (.op 1 [] (.op 2 [] .nil)))) (.cond .leaf .leaf)) (.seq (.block (.seq (.reg (.op 0 [] (.op 1 [] (.op 2 [] (.op 3 [] (.op 4 [] (.op 5 [] (.op 6 [] (.op 7 [] (.op 8 [] .nil)))))))))) (.reg (.op 0 [] (.op 1 [] (.op 2 [] .nil)))))) (.reg (.op 0 [] (.op 1 [] (.op 2 [] .nil))))))))) (.seq (.reg (.op 0 [] (.op 1 [] .nil))) .leaf))))
/-- lighter/lighterlaw03.text -/
def lighterlaw03_text.res (v0 : Value) (n1 : Value) (H0 : Heap) (R : Value → Heap → Prop) : Prop :=
 ∃ (I_1 : Value → Value → Value → Heap → Prop) (m_2 : Value → Value → Value → Heap → Nat), I_1 v0 (str []) (.int .i64 0) H0 ∧
 ∀ _ : Env, ∀ v0' : Value, ∀ s5 : Value, ∀ i6 : Value, ∀ H_3 : Heap, I_1 v0' s5 i6 H_3 →
 pLt i6 n1 fun x9 =>
 pCond x9
 (pRem v0' (.int .u64 2) fun x14 =>
 pAdd (.int .u64 48) x14 fun x15 =>
 pConv .u8 x15 fun x16 =>
 pBuildSl H_3 5 1 [(.int .u8 0)] [(0, 1, x16)] fun x17 H_4 =>
 pStrOf H_4 x17 fun x18 =>
 pAdd s5 x18 fun x19 =>
 pQuo v0' (.int .u64 2) fun x21 =>
 pAdd i6 (.int .i64 1) fun x11 =>
 I_1 x21 x19 x11 H_4 ∧ m_2 x21 x19 x11 H_4 < m_2 v0' s5 i6 H_3)
 (R s5 H_3)
set_option maxRecDepth 100000 in
theorem lighterlaw03_text.vc (v0 : Value) (n1 : Value) (H0 : Heap) (R : Value → Heap → Prop) (h : lighterlaw03_text.res v0 n1 H0 R) : CallsH Try.prog 14 #[v0, n1] H0 R := by
  have e : vcFn Try.prog Try.C Try.f14 lighterlaw03_text.an [v0, n1] H0 R = lighterlaw03_text.res v0 n1 H0 R := by kernel_rfl
  exact vcFn_sound Try.callable Try.mixed Try.func14 (by kernel_rfl) (e.mpr h)

end Go.Proofs.Ytcbaklebiohedaa
