/- The residuals of package lighterlaw02's functions, printed by resid.py. -/
import Derived.Test.YtppaiehkjdidiaaVcSeat
namespace Go.Proofs.Ytppaiehkjdidiaa
open Go Go.Vc Go.Proofs
set_option linter.unusedVariables false
set_option maxHeartbeats 4000000
def lighterlaw02_CrcSums.an : Ann := (.seq (.reg (.op 0 [] .nil)) (.seq (.seq (.reg (.op 0 [] (.op 1 [] .nil))) (.cond (.seq (.reg (.op 0 [] .nil)) .leaf) .leaf)) (.seq (.reg (.op 0 [] (.op 1 [] (.op 2 [] (.op 3 [] (.op 4 [] (.op 5 [] .nil))))))) (.seq (.reg (.op 0 [] (.op 1 [] (.op 2 [] (.op 3 [] (.op 4 [] (.op 5 [] (.op 6 [] (.op 7 [] (.op 8 [] (.op 9 [] (.op 10 [] (.op 11 [] (.op 12 [] (.op 13 [] .nil))))))))))))))) (.seq (.reg (.op 0 [] (.op 1 [] .nil))) (.seq (.drw [0, 0, 3, 0, 15, 31, 63, 127, 127, 127, 127, 1663, 3967, 127, 127, 24703, 65535, 127, 127, 524287, 1048575, 2097151, 4194303, 8388607, 8388607, 16777215, 67108863, 134217727, 8388607, 276824063, 813694975, 2147483647, 4294967295, 8589934591] (.op 0 [] (.op 1 [] (.op 3 [] (.op 2 [] (.op 4 [] (.op 5 [] (.op 6 [] (.grp 6 (.op 7 [] (.op 8 [] (.op 9 [] (.op 10 [] (.op 11 [] (.op 13 [] (.op 14 [] (.op 15 [] (.op 17 [] (.op 18 [] (.op 12 [] (.op 16 [] (.op 19 [] (.op 20 [] .nil)))))))))))))) 21 (.op 22 [] (.grp 22 (.op 23 [] (.op 24 [] (.op 25 [] (.op 26 [] (.op 27 [] (.op 28 [] (.op 29 [] (.op 30 [27] (.op 31 [] .nil))))))))) 32 (.op 33 [] .nil)))))))))))) .leaf))))))
/-- lighter/lighterlaw02.CrcSums -/
def lighterlaw02_CrcSums.res (s0 : Value) (cut1 : Value) (b2 : Value) (H0 : Heap) (R : Value → Heap → Prop) : Prop :=
 CallsH Try.prog 10 #[] H0 fun x9 H_1 =>
 pNot x9 fun x10 =>
 pCond x10
 (R (.bool false) H_1)
 (pLenS s0 fun x13 =>
 pMin x13 (.int .i64 2000) fun x14 =>
 pSlStr s0 none (some x14) fun x15 =>
 pLenS x15 fun x18 =>
 pAdd x18 (.int .i64 1) fun x19 =>
 pRem cut1 x19 fun x20 =>
 pLenS x15 fun x22 =>
 pAdd x20 x22 fun x23 =>
 pAdd x23 (.int .i64 1) fun x24 =>
 pLenS x15 fun x26 =>
 pAdd x26 (.int .i64 1) fun x27 =>
 pRem x24 x27 fun x28 =>
 CallsH Try.prog 11 #[] H_1 fun x29 H_2 =>
 CallsH Try.prog 12 #[x29, x15] H_2 fun x32 H_3 =>
 CallsH Try.prog 13 #[(.int .u32 0), x15] H_3 fun x34 H_4 =>
 pEq 0 x32 x34 fun x35 =>
 pAnd x35 (fun J_5 =>
 pSlStr x15 none (some x28) fun x41 =>
 pSlStr x15 (some x28) none fun x45 =>
 CallsH Try.prog 12 #[x29, x41] H_4 fun x42 H_7 =>
 CallsH Try.prog 14 #[x29, x42, x45] H_7 fun x46 H_8 =>
 CallsH Try.prog 12 #[x29, x15] H_8 fun x49 H_9 =>
 pEq 0 x46 x49 fun x50 =>
 J_5 x50 H_9) H_4 fun x51 H_6 => ∀ _ : Env,
 pAnd x51 (fun J_10 =>
 pNil x29 fun x55 =>
 pIdxArr 256 1 x55 b2 fun x56 =>
 pLoad H_6 x56 fun x57 =>
 pConv .u32 b2 fun x59 =>
 CallsH Try.prog 15 #[x59] H_6 fun x60 H_12 =>
 (pLoad H_12 x56 fun r_ =>
 r_ = x57) ∧
 pEq 0 x57 x60 fun x61 =>
 J_10 x61 H_12) H_6 fun x62 H_11 => ∀ _ : Env,
 R x62 H_11)
set_option maxRecDepth 100000 in
theorem lighterlaw02_CrcSums.vc (s0 : Value) (cut1 : Value) (b2 : Value) (H0 : Heap) (R : Value → Heap → Prop) (h : lighterlaw02_CrcSums.res s0 cut1 b2 H0 R) : CallsH Try.prog 3 #[s0, cut1, b2] H0 R := by
  have e : vcFn Try.prog Try.C Try.f3 lighterlaw02_CrcSums.an [s0, cut1, b2] H0 R = lighterlaw02_CrcSums.res s0 cut1 b2 H0 R := by kernel_rfl
  exact vcFn_sound Try.callable Try.mixed Try.func3 (by kernel_rfl) (e.mpr h)

def lighterlaw02_CrcBursts.an : Ann := (.seq (.reg (.op 0 [] .nil)) (.seq (.seq (.reg (.op 0 [] (.op 1 [] (.op 2 [] (.grp 2 (.op 3 [] (.op 4 [] .nil)) 5 .nil))))) (.cond (.seq (.reg (.op 0 [] (.op 1 [] .nil))) .leaf) .leaf)) (.seq (.reg (.op 0 [] (.op 1 [] (.op 2 [] (.op 3 [] (.op 4 [] (.op 5 [] (.op 6 [] .nil)))))))) (.seq (.reg (.op 0 [] (.op 1 [] (.op 2 [] .nil)))) (.seq (.reg (.op 0 [] (.op 1 [] (.op 2 [] (.op 3 [] (.op 4 [] (.op 5 [] (.op 6 [] (.op 7 [] (.op 8 [] (.op 9 [] (.op 10 [] (.op 11 [] (.op 12 [] (.op 13 [] (.op 14 [] (.op 15 [] (.op 16 [] .nil)))))))))))))))))) (.seq (.seq (.reg (.op 0 [] .nil)) (.block (.loop [9] [9, 42, 43, 44, 45, 46, 47, 48, 49, 50, 51, 52, 53, 54, 55, 56, 57, 58, 59, 60, 61, 62, 63, 64] (.seq (.seq (.reg (.op 0 [] (.op 1 [] .nil))) (.cond .leaf .leaf)) (.cut [] [46, 47, 48, 49, 50, 51, 52, 53, 54, 55, 56, 57, 58, 59, 60, 61, 62, 63, 64] (.block (.seq (.reg (.op 0 [] (.op 1 [] (.op 2 [] (.op 3 [] (.op 4 [] .nil)))))) (.cond (.drw [0, 0, 0, 6, 14, 31, 63, 0, 0, 384, 896, 1920, 4095, 8191, 16383] (.op 0 [] (.op 1 [] (.op 2 [] (.op 3 [] (.op 4 [] (.op 5 [] (.op 6 [] (.op 7 [] (.op 8 [] (.op 9 [] (.op 10 [] (.op 11 [] (.op 12 [] (.op 13 [] (.op 14 [] .nil)))))))))))))))) .leaf))) (.reg (.op 0 [] (.op 1 [] (.op 2 [] .nil))))))))) (.seq (.reg (.op 0 [] (.op 1 [] .nil))) (.seq (.reg (.op 0 [] (.op 1 [] (.op 2 [] (.op 3 [] (.op 4 [] (.op 5 [] (.op 6 [] (.op 7 [] (.op 8 [] .nil)))))))))) .leaf))))))))
/-- lighter/lighterlaw02.CrcBursts -/
def lighterlaw02_CrcBursts.res (s0 : Value) (at1 : Value) (burst2 : Value) (H0 : Heap) (R : Value → Heap → Prop) : Prop :=
 CallsH Try.prog 10 #[] H0 fun x11 H_1 =>
 pNot x11 fun x12 =>
 pOr x12 (fun J_2 =>
 pEq 0 burst2 (.int .u32 0) fun x15 =>
 J_2 x15 H_1) H_1 fun x16 H_3 => ∀ _ : Env,
 pCond x16
 (CallsH Try.prog 10 #[] H_3 fun x17 H_4 =>
 R x17 H_4)
 (pLenS s0 fun x20 =>
 pMin x20 (.int .i64 500) fun x21 =>
 pSlStr s0 none (some x21) fun x22 =>
 pAdd x22 (str [49, 50, 51, 52, 53]) fun x23 =>
 pBytes H_3 5 x23 fun x25 H_5 =>
 pLen x25 fun x28 =>
 pMul (.int .i64 8) x28 fun x29 =>
 pSub x29 (.int .i64 32) fun x30 =>
 pRem at1 x30 fun x31 =>
 pLen x25 fun x33 =>
 pMul (.int .i64 8) x33 fun x34 =>
 pAdd x31 x34 fun x35 =>
 pSub x35 (.int .i64 32) fun x36 =>
 pLen x25 fun x38 =>
 pMul (.int .i64 8) x38 fun x39 =>
 pSub x39 (.int .i64 32) fun x40 =>
 pRem x36 x40 fun x41 =>
 ∃ (I_6 : Value → Heap → Prop) (m_7 : Value → Heap → Nat), I_6 (.int .i64 0) H_5 ∧
 ∀ _ : Env, ∀ i9 : Value, ∀ H_8 : Heap, I_6 i9 H_8 →
 pLt i9 (.int .i64 32) fun x43 =>
 pCond x43
 (∃ J_9 : Heap → Prop, (∀ _ : Env, ∀ H_10 : Heap, J_9 H_10 →
 pAdd i9 (.int .i64 1) fun x45 =>
 I_6 x45 H_10 ∧ m_7 x45 H_10 < m_7 i9 H_8) ∧
 pShr burst2 i9 fun x48 =>
 pBits .and x48 (.int .u32 1) fun x49 =>
 pEq 0 x49 (.int .u32 1) fun x50 =>
 pCond x50
 (pAdd x41 i9 fun x54 =>
 pQuo x54 (.int .i64 8) fun x55 =>
 pIdxSl 1 x25 x55 fun x56 =>
 pLoad H_8 x56 fun x57 =>
 pAdd x41 i9 fun x60 =>
 pRem x60 (.int .i64 8) fun x61 =>
 pShl (.int .u8 1) x61 fun x62 =>
 pBits .xor x57 x62 fun x63 =>
 pIdxSl 1 x25 x55 fun x64 =>
 pStore H_8 x64 x63 fun _ H_11 =>
 J_9 H_11)
 (J_9 H_8))
 (CallsH Try.prog 11 #[] H_8 fun x65 H_12 =>
 pStrOf H_12 x25 fun x68 =>
 CallsH Try.prog 12 #[x65, x68] H_12 fun x69 H_13 =>
 CallsH Try.prog 12 #[x65, x23] H_13 fun x72 H_14 =>
 pNe 0 x69 x72 fun x73 =>
 R x73 H_14))
set_option maxRecDepth 100000 in
theorem lighterlaw02_CrcBursts.vc (s0 : Value) (at1 : Value) (burst2 : Value) (H0 : Heap) (R : Value → Heap → Prop) (h : lighterlaw02_CrcBursts.res s0 at1 burst2 H0 R) : CallsH Try.prog 4 #[s0, at1, burst2] H0 R := by
  have e : vcFn Try.prog Try.C Try.f4 lighterlaw02_CrcBursts.an [s0, at1, burst2] H0 R = lighterlaw02_CrcBursts.res s0 at1 burst2 H0 R := by kernel_rfl
  exact vcFn_sound Try.callable Try.mixed Try.func4 (by kernel_rfl) (e.mpr h)

def lighterlaw02_CrcJoins.an : Ann := (.seq (.reg (.op 0 [] .nil)) (.seq (.seq (.reg (.op 0 [] (.op 1 [] .nil))) (.cond (.seq (.reg (.op 0 [] .nil)) .leaf) .leaf)) (.seq (.drw [0, 0, 2, 6, 15, 0, 0, 64, 192, 480, 31, 2047] (.op 0 [] (.op 1 [] (.op 2 [] (.op 3 [] (.op 4 [] (.op 5 [] (.op 6 [] (.op 7 [] (.op 8 [] (.op 9 [] (.op 10 [] (.op 11 [] .nil))))))))))))) (.seq (.reg (.op 0 [] (.op 1 [] (.op 2 [] (.op 3 [] (.op 4 [] (.op 5 [] .nil))))))) (.seq (.seq (.reg (.op 0 [] (.op 1 [] (.op 2 [] (.op 3 [] (.op 4 [] (.op 5 [] (.op 6 [] (.op 7 [] (.op 8 [] .nil)))))))))) (.cond (.seq (.reg (.op 0 [] .nil)) .leaf) .leaf)) (.seq (.drw [0, 0, 2, 7, 0, 0, 32, 96, 224, 511, 1023, 2047] (.op 0 [] (.op 1 [] (.op 2 [] (.op 4 [] (.op 5 [] (.op 6 [] (.fork (.op 3 [] (.op 7 [] (.op 8 [] (.op 9 [] (.op 10 [] (.op 11 [] .nil)))))) (.op 7 [] (.op 8 [] (.op 3 [8] (.op 9 [] (.op 10 [] (.op 11 [] .nil)))))))))))))) .leaf))))))
/-- lighter/lighterlaw02.CrcJoins -/
def lighterlaw02_CrcJoins.res (a0 : Value) (b1 : Value) (sum2 : Value) (H0 : Heap) (R : Value → Heap → Prop) : Prop :=
 CallsH Try.prog 10 #[] H0 fun x9 H_1 =>
 pNot x9 fun x10 =>
 pCond x10
 (R (.bool false) H_1)
 (pLenS a0 fun x13 =>
 pMin x13 (.int .i64 1000) fun x14 =>
 pSlStr a0 none (some x14) fun x15 =>
 pLenS b1 fun x18 =>
 pMin x18 (.int .i64 1000) fun x19 =>
 pSlStr b1 none (some x19) fun x20 =>
 CallsH Try.prog 13 #[(.int .u32 0), x15] H_1 fun x22 H_2 =>
 CallsH Try.prog 13 #[(.int .u32 0), x20] H_2 fun x24 H_3 =>
 pLenS x20 fun x28 =>
 CallsH Try.prog 16 #[x22, x24, x28] H_3 fun x29 H_4 =>
 CallsH Try.prog 13 #[x22, x20] H_4 fun x32 H_5 =>
 pNe 0 x29 x32 fun x33 =>
 pCond x33
 (R (.bool false) H_5)
 (pLenS x20 fun x36 =>
 pLenS x20 fun x40 =>
 (CallsH Try.prog 17 #[sum2, x36] H_5 fun x37 H_6 =>
 pMakeSl H_6 5 1 [(.int .u8 0)] x40 x40 fun x41 H_7 =>
 pStrOf H_7 x41 fun x42 =>
 CallsH Try.prog 13 #[sum2, x42] H_7 fun x43 H_8 =>
 pEq 0 x37 x43 fun x44 =>
 R x44 H_8) ∧
 (pMakeSl H_5 5 1 [(.int .u8 0)] x40 x40 fun x41 H_9 =>
 pStrOf H_9 x41 fun x42 =>
 CallsH Try.prog 17 #[sum2, x36] H_9 fun x37 H_10 =>
 (pStrOf H_10 x41 fun r_ =>
 r_ = x42) ∧
 CallsH Try.prog 13 #[sum2, x42] H_10 fun x43 H_11 =>
 pEq 0 x37 x43 fun x44 =>
 R x44 H_11)))
set_option maxRecDepth 100000 in
theorem lighterlaw02_CrcJoins.vc (a0 : Value) (b1 : Value) (sum2 : Value) (H0 : Heap) (R : Value → Heap → Prop) (h : lighterlaw02_CrcJoins.res a0 b1 sum2 H0 R) : CallsH Try.prog 5 #[a0, b1, sum2] H0 R := by
  have e : vcFn Try.prog Try.C Try.f5 lighterlaw02_CrcJoins.an [a0, b1, sum2] H0 R = lighterlaw02_CrcJoins.res a0 b1 sum2 H0 R := by kernel_rfl
  exact vcFn_sound Try.callable Try.mixed Try.func5 (by kernel_rfl) (e.mpr h)

def lighterlaw02_speaks.an : Ann := (.seq (.reg (.op 0 [] .nil)) (.seq (.reg (.op 0 [] (.op 1 [] .nil))) (.seq (.reg (.op 0 [] (.op 1 [] (.op 2 [] (.grp 2 (.op 3 [] (.op 4 [] (.op 5 [] .nil))) 6 (.op 7 [] (.grp 7 (.op 8 [] (.op 9 [] (.op 10 [] (.op 11 [] (.op 12 [] (.op 13 [] .nil)))))) 14 (.op 15 [] .nil)))))))) .leaf)))
/-- lighter/lighterlaw02.speaks -/
def lighterlaw02_speaks.res (H0 : Heap) (R : Value → Heap → Prop) : Prop :=
 CallsH Try.prog 11 #[] H0 fun x2 H_1 =>
 pNe 3 x2 (.pointer none) fun x4 =>
 pAnd x4 (fun J_2 =>
 CallsH Try.prog 12 #[x2, (str [49, 50, 51, 52, 53, 54, 55, 56, 57])] H_1 fun x7 H_4 =>
 pEq 0 x7 (.int .u32 3421780262) fun x8 =>
 J_2 x8 H_4) H_1 fun x9 H_3 => ∀ _ : Env,
 pAnd x9 (fun J_5 =>
 CallsH Try.prog 12 #[x2, (str [49, 50, 51, 52])] H_3 fun x12 H_7 =>
 CallsH Try.prog 12 #[x2, (str [53, 54, 55, 56, 57])] H_7 fun x14 H_8 =>
 CallsH Try.prog 16 #[x12, x14, (.int .i64 5)] H_8 fun x15 H_9 =>
 pEq 0 x15 (.int .u32 3421780262) fun x16 =>
 J_5 x16 H_9) H_3 fun x17 H_6 => ∀ _ : Env,
 R x17 H_6
set_option maxRecDepth 100000 in
theorem lighterlaw02_speaks.vc (H0 : Heap) (R : Value → Heap → Prop) (h : lighterlaw02_speaks.res H0 R) : CallsH Try.prog 10 #[] H0 R := by
  have e : vcFn Try.prog Try.C Try.f10 lighterlaw02_speaks.an [] H0 R = lighterlaw02_speaks.res H0 R := by kernel_rfl
  exact vcFn_sound Try.callable Try.mixed Try.func10 (by kernel_rfl) (e.mpr h)

end Go.Proofs.Ytppaiehkjdidiaa
