/- The residuals of package lighterlaw22's functions, printed by resid.py. -/
import Derived.Test.YtacfmbookcgjoaaVcSeat
namespace Go.Proofs.Ytacfmbookcgjoaa
open Go Go.Vc Go.Proofs
set_option linter.unusedVariables false
set_option maxHeartbeats 4000000
def lighterlaw22_DgramCodes.an : Ann := (.seq (.reg (.op 0 [] (.op 1 [] .nil))) (.seq (.seq (.reg (.op 0 [] (.op 1 [] .nil))) (.cond (.seq (.reg (.op 0 [] .nil)) .leaf) .leaf)) (.seq (.reg (.op 0 [] (.op 1 [] (.op 2 [] (.op 3 [] (.op 4 [] (.op 5 [] (.op 6 [] (.op 7 [] (.op 8 [] .nil)))))))))) (.seq (.reg (.op 0 [] (.op 1 [] (.op 2 [] .nil)))) (.seq (.reg (.op 0 [] (.op 1 [] (.op 2 [] (.op 3 [] (.op 4 [] (.op 5 [] (.op 6 [] .nil)))))))) (.seq (.seq (.reg (.op 0 [] (.op 1 [] (.op 2 [] (.op 3 [] (.op 4 [] (.grp 4 (.op 5 [] (.op 6 [] (.op 7 [] (.op 8 [] .nil)))) 9 .nil))))))) (.cond (.seq (.reg (.op 0 [] .nil)) .leaf) .leaf)) (.seq (.seq (.reg (.op 0 [] (.op 1 [] .nil))) (.cond (.seq (.reg (.op 0 [] (.op 1 [] (.op 2 [] .nil)))) .leaf) .leaf)) (.seq (.reg (.op 0 [] (.op 1 [] (.op 2 [] (.op 3 [] (.op 4 [] (.op 5 [] (.op 6 [] (.op 7 [] .nil))))))))) (.seq (.reg (.op 0 [] (.op 1 [] (.op 2 [] (.grp 2 (.op 3 [] (.op 4 [] .nil)) 5 (.op 6 [] (.grp 6 (.op 7 [] (.op 8 [] (.op 9 [] .nil))) 10 (.op 11 [] .nil)))))))) .leaf)))))))))
/-- lighter/lighterlaw22.DgramCodes -/
def lighterlaw22_DgramCodes.res (x0 : Value) (H0 : Heap) (R : Value → Heap → Prop) : Prop :=
 pBox H0 25 x0 fun x1 H_1 =>
 CallsH Try.prog 8 #[] H_1 fun x8 H_2 =>
 pNot x8 fun x9 =>
 pCond x9
 (R (.bool false) H_2)
 (pFieldAddr 8 x1 fun x10 =>
 pLoad H_2 x10 fun x11 =>
 pFieldAddr 8 x1 fun x12 =>
 pLoad H_2 x12 fun x13 =>
 pLenS x13 fun x14 =>
 pMin x14 (.int .i64 300) fun x15 =>
 pSlStr x11 none (some x15) fun x16 =>
 pFieldAddr 8 x1 fun x17 =>
 pStore H_2 x17 x16 fun _ H_3 =>
 pLoadN H_3 9 x1 fun x18 =>
 CallsH Try.prog 9 #[x18] H_3 fun x19 H_4 =>
 pLoadN H_4 9 x1 fun x21 =>
 CallsH Try.prog 10 #[x21] H_4 fun x22 H_5 =>
 pExtract 0 x22 fun x23 =>
 pExtract 1 x22 fun x24 =>
 pLoadN H_5 9 x1 fun x25 =>
 CallsH Try.prog 11 #[x25] H_5 fun x26 H_6 =>
 pNe 2 x26 x19 fun x28 =>
 pOr x28 (fun J_7 =>
 pLoadN H_6 9 x1 fun x31 =>
 CallsH Try.prog 12 #[x31] H_6 fun x32 H_9 =>
 pNe 1 x23 x32 fun x33 =>
 J_7 x33 H_9) H_6 fun x34 H_8 => ∀ _ : Env,
 pCond x34
 (R (.bool false) H_8)
 (pNot x19 fun x36 =>
 pCond x36
 (pEq 0 x24 (.int .i64 1) fun x38 =>
 R x38 H_8)
 (CallsH Try.prog 13 #[x23] H_8 fun x41 H_10 =>
 pExtract 0 x41 fun x42 =>
 pExtract 1 x41 fun x43 =>
 pBox H_10 32 (.agg #[(.int .i64 0), (.int .u32 0), (.int .u32 0), (.int .u32 0), (.int .u64 0), (.int .u32 0), (.int .u32 0), (.bool false), (str [])]) fun d6 H_11 =>
 pStoreN H_11 9 d6 x42 fun _ H_12 =>
 pEq 0 x24 (.int .i64 0) fun x45 =>
 pAnd x45 (fun J_13 =>
 pEq 0 x43 (.int .i64 0) fun x48 =>
 J_13 x48 H_12) H_12 fun x49 H_14 => ∀ _ : Env,
 pAnd x49 (fun J_15 =>
 pLoadN H_14 9 d6 fun x51 =>
 pLoadN H_14 9 x1 fun x52 =>
 pEqA [0, 0, 0, 0, 0, 0, 0, 2, 1] x51 x52 fun x53 =>
 J_15 x53 H_14) H_14 fun x54 H_16 => ∀ _ : Env,
 R x54 H_16)))
set_option maxRecDepth 100000 in
theorem lighterlaw22_DgramCodes.vc (x0 : Value) (H0 : Heap) (R : Value → Heap → Prop) (h : lighterlaw22_DgramCodes.res x0 H0 R) : CallsH Try.prog 3 #[x0] H0 R := by
  have e : vcFn Try.prog Try.C Try.f3 lighterlaw22_DgramCodes.an [x0] H0 R = lighterlaw22_DgramCodes.res x0 H0 R := by kernel_rfl
  exact vcFn_sound Try.callable Try.mixed Try.func3 (by kernel_rfl) (e.mpr h)

def lighterlaw22_DgramAny.an : Ann := (.seq (.reg (.op 0 [] (.op 1 [] (.op 2 [] .nil)))) (.seq (.seq (.reg (.op 0 [] (.op 1 [] .nil))) (.cond (.seq (.reg (.op 0 [] .nil)) .leaf) .leaf)) (.seq (.reg (.op 0 [] (.op 1 [] (.op 2 [] (.op 3 [] (.op 4 [] (.op 5 [] (.op 6 [] (.op 7 [] (.op 8 [] .nil)))))))))) (.seq (.reg (.op 0 [] (.op 1 [] (.op 2 [] .nil)))) (.cut [7] [7, 25, 26, 27, 28, 29, 30] (.seq (.reg (.op 0 [] (.op 1 [] .nil))) (.cond (.reg (.op 0 [] (.op 1 [] (.op 2 [] (.op 3 [] (.op 4 [] .nil)))))) .leaf)) (.seq (.reg (.op 0 [] (.op 1 [] (.op 2 [] .nil)))) (.seq (.drw [0, 0, 2, 0, 8, 30, 0, 64, 254, 0, 512, 2046, 0, 4096, 12288, 32767, 65535] (.op 0 [] (.op 1 [] (.op 2 [] (.op 3 [] (.op 4 [] (.op 5 [] (.op 6 [] (.op 7 [] (.op 8 [] (.op 9 [] (.op 10 [] (.op 11 [] (.op 12 [] (.op 13 [] (.op 14 [] (.op 15 [] (.op 16 [] .nil)))))))))))))))))) (.seq (.reg (.op 0 [] (.op 1 [] (.op 2 [] .nil)))) (.cut [9] [9, 51, 52, 53, 54, 55, 56, 57, 58, 59, 60, 61, 62] (.seq (.reg (.op 0 [] .nil)) (.cond (.seq (.reg (.op 0 [] (.op 1 [] (.op 2 [] (.op 3 [] (.op 4 [] (.op 5 [] .nil))))))) (.reg (.op 0 [] (.op 1 [] (.op 2 [] (.op 3 [] (.op 4 [] (.op 5 [] (.op 6 [] .nil))))))))) .leaf)) (.seq (.reg (.op 0 [] (.op 1 [] (.op 2 [] (.op 3 [] (.op 4 [] (.op 5 [] (.op 6 [] (.op 7 [] .nil))))))))) (.seq (.reg (.op 0 [] (.op 1 [] (.op 2 [] (.op 3 [] .nil))))) (.seq (.seq (.drw [0, 0, 3, 7, 15, 31, 0, 0, 192, 511] (.op 0 [] (.op 1 [] (.op 2 [] (.op 6 [] (.op 7 [] (.op 8 [] (.op 3 [] (.op 4 [] (.op 5 [] (.op 9 [] .nil))))))))))) (.cond (.seq (.reg (.op 0 [] (.op 1 [] (.op 2 [] (.grp 2 (.op 3 [] (.op 4 [] (.op 5 [] .nil))) 6 (.op 7 [] .nil)))))) .leaf) .leaf)) (.seq (.seq (.reg (.op 0 [] (.op 1 [] .nil))) (.cond (.seq (.reg (.op 0 [] (.op 1 [] (.op 2 [] (.grp 2 (.op 3 [] (.op 4 [] (.op 5 [] .nil))) 6 (.op 7 [] .nil)))))) .leaf) .leaf)) (.seq (.reg (.op 0 [] (.op 1 [] (.op 2 [] (.op 3 [] (.op 4 [] .nil)))))) .leaf))))))))))))))
/-- lighter/lighterlaw22.DgramAny -/
def lighterlaw22_DgramAny.res (x0 : Value) (spoil1 : Value) (sum2 : Value) (H0 : Heap) (R : Value → Heap → Prop) : Prop :=
 pBox H0 25 x0 fun x3 H_1 =>
 pBox H_1 37 spoil1 fun spoil4 H_2 =>
 CallsH Try.prog 8 #[] H_2 fun x13 H_3 =>
 pNot x13 fun x14 =>
 pCond x14
 (R (.bool false) H_3)
 (pFieldAddr 8 x3 fun x15 =>
 pLoad H_3 x15 fun x16 =>
 pFieldAddr 8 x3 fun x17 =>
 pLoad H_3 x17 fun x18 =>
 pLenS x18 fun x19 =>
 pMin x19 (.int .i64 256) fun x20 =>
 pSlStr x16 none (some x20) fun x21 =>
 pFieldAddr 8 x3 fun x22 =>
 pStore H_3 x22 x21 fun _ H_4 =>
 pLoadN H_4 9 x3 fun x23 =>
 CallsH Try.prog 12 #[x23] H_4 fun x24 H_5 =>
 ∃ J_6 : Value → Heap → Prop, (∀ _ : Env, ∀ s7 : Value, ∀ H_7 : Heap, J_6 s7 H_7 →
 pBytes H_7 5 s7 fun x32 H_8 =>
 pIdxArr 2 1 spoil4 (.int .i64 0) fun x34 =>
 pLoad H_8 x34 fun x35 =>
 pLen x32 fun x37 =>
 pRem x35 x37 fun x38 =>
 pLen x32 fun x40 =>
 pAdd x38 x40 fun x41 =>
 pLen x32 fun x43 =>
 pRem x41 x43 fun x44 =>
 pIdxArr 2 1 spoil4 (.int .i64 1) fun x45 =>
 pLoad H_8 x45 fun x46 =>
 pConv .u8 x46 fun x47 =>
 pIdxSl 1 x32 x44 fun x48 =>
 pStore H_8 x48 x47 fun _ H_9 =>
 pStrOf H_9 x32 fun x50 =>
 ∃ J_10 : Value → Heap → Prop, (∀ _ : Env, ∀ t9 : Value, ∀ H_11 : Heap, J_10 t9 H_11 →
 CallsH Try.prog 13 #[t9] H_11 fun x65 H_12 =>
 pExtract 0 x65 fun x66 =>
 pExtract 1 x65 fun x67 =>
 pBox H_12 32 (.agg #[(.int .i64 0), (.int .u32 0), (.int .u32 0), (.int .u32 0), (.int .u64 0), (.int .u32 0), (.int .u32 0), (.bool false), (str [])]) fun d10 H_13 =>
 pStoreN H_13 9 d10 x66 fun _ H_14 =>
 pLenS t9 fun x69 =>
 pSub x69 (.int .i64 4) fun x70 =>
 pSlStr t9 none (some x70) fun x73 =>
 pSlStr t9 (some x70) none fun x79 =>
 CallsH Try.prog 15 #[(.int .u32 0), x73] H_14 fun x74 H_15 =>
 pConv .u64 x74 fun x75 =>
 CallsH Try.prog 14 #[x75, (.int .i64 4)] H_15 fun x76 H_16 =>
 pNe 1 x76 x79 fun x80 =>
 pCond x80
 (pEq 0 x67 (.int .i64 7) fun x82 =>
 pAnd x82 (fun J_17 =>
 pLoadN H_16 9 d10 fun x84 =>
 pBuild [(.int .i64 0), (.int .u32 0), (.int .u32 0), (.int .u32 0), (.int .u64 0), (.int .u32 0), (.int .u32 0), (.bool false), (str [])] [] fun x85 =>
 pEqA [0, 0, 0, 0, 0, 0, 0, 2, 1] x84 x85 fun x86 =>
 J_17 x86 H_16) H_16 fun x87 H_18 => ∀ _ : Env,
 R x87 H_18)
 (pNe 0 x67 (.int .i64 0) fun x89 =>
 pCond x89
 (pEq 0 x67 (.int .i64 3) fun x91 =>
 pAnd x91 (fun J_19 =>
 pLoadN H_16 9 d10 fun x93 =>
 pBuild [(.int .i64 0), (.int .u32 0), (.int .u32 0), (.int .u32 0), (.int .u64 0), (.int .u32 0), (.int .u32 0), (.bool false), (str [])] [] fun x94 =>
 pEqA [0, 0, 0, 0, 0, 0, 0, 2, 1] x93 x94 fun x95 =>
 J_19 x95 H_16) H_16 fun x96 H_20 => ∀ _ : Env,
 R x96 H_20)
 (pLoadN H_16 9 d10 fun x97 =>
 CallsH Try.prog 12 #[x97] H_16 fun x98 H_21 =>
 pEq 1 x98 t9 fun x100 =>
 R x100 H_21))) ∧
 pCond sum2
 (pLenS x50 fun x54 =>
 pSub x54 (.int .i64 4) fun x55 =>
 pSlStr x50 none (some x55) fun x56 =>
 CallsH Try.prog 15 #[(.int .u32 0), x56] H_9 fun x59 H_22 =>
 pConv .u64 x59 fun x60 =>
 CallsH Try.prog 14 #[x60, (.int .i64 4)] H_22 fun x61 H_23 =>
 pAdd x56 x61 fun x62 =>
 J_10 x62 H_23)
 (J_10 x50 H_9)) ∧
 pEq 1 x24 (str []) fun x26 =>
 pCond x26
 (pFieldAddr 8 x3 fun x27 =>
 pLoad H_5 x27 fun x28 =>
 pAdd (str [76, 71]) x28 fun x29 =>
 pAdd x29 (str [49, 50, 51, 52]) fun x30 =>
 J_6 x30 H_5)
 (J_6 x24 H_5))
set_option maxRecDepth 100000 in
theorem lighterlaw22_DgramAny.vc (x0 : Value) (spoil1 : Value) (sum2 : Value) (H0 : Heap) (R : Value → Heap → Prop) (h : lighterlaw22_DgramAny.res x0 spoil1 sum2 H0 R) : CallsH Try.prog 4 #[x0, spoil1, sum2] H0 R := by
  have e : vcFn Try.prog Try.C Try.f4 lighterlaw22_DgramAny.an [x0, spoil1, sum2] H0 R = lighterlaw22_DgramAny.res x0 spoil1 sum2 H0 R := by kernel_rfl
  exact vcFn_sound Try.callable Try.mixed Try.func4 (by kernel_rfl) (e.mpr h)

def lighterlaw22_DgramBursts.an : Ann := (.seq (.reg (.op 0 [] (.op 1 [] .nil))) (.seq (.seq (.reg (.op 0 [] (.op 1 [] (.op 2 [] (.grp 2 (.op 3 [] (.op 4 [] .nil)) 5 .nil))))) (.cond (.seq (.reg (.op 0 [] (.op 1 [] .nil))) .leaf) .leaf)) (.seq (.reg (.op 0 [] (.op 1 [] (.op 2 [] (.op 3 [] (.op 4 [] (.op 5 [] (.op 6 [] (.op 7 [] (.op 8 [] .nil)))))))))) (.seq (.reg (.op 0 [] (.op 1 [] (.op 2 [] (.op 3 [] (.op 4 [] (.op 5 [] (.op 6 [] .nil)))))))) (.seq (.seq (.reg (.op 0 [] (.op 1 [] .nil))) (.cond (.seq (.reg (.op 0 [] .nil)) .leaf) .leaf)) (.seq (.reg (.op 0 [] (.op 1 [] (.op 2 [] .nil)))) (.seq (.reg (.op 0 [] (.op 1 [] (.op 2 [] (.op 3 [] (.op 4 [] .nil)))))) (.seq (.reg (.op 0 [] (.op 1 [] (.op 2 [] (.op 3 [] (.op 4 [] (.op 5 [] (.op 6 [] (.op 7 [] .nil))))))))) (.seq (.seq (.reg (.op 0 [] .nil)) (.block (.loop [12] [12, 50, 51, 52, 53, 54, 55, 56, 57, 58, 59, 60, 61, 62, 63, 64, 65, 66, 67, 68, 69, 70, 71, 72] (.seq (.seq (.reg (.op 0 [] (.op 1 [] .nil))) (.cond .leaf .leaf)) (.cut [] [54, 55, 56, 57, 58, 59, 60, 61, 62, 63, 64, 65, 66, 67, 68, 69, 70, 71, 72] (.block (.seq (.reg (.op 0 [] (.op 1 [] (.op 2 [] (.op 3 [] (.op 4 [] .nil)))))) (.cond (.drw [0, 0, 0, 6, 14, 31, 63, 0, 0, 384, 896, 1920, 4095, 8191, 16383] (.op 0 [] (.op 1 [] (.op 2 [] (.op 3 [] (.op 4 [] (.op 5 [] (.op 6 [] (.op 7 [] (.op 8 [] (.op 9 [] (.op 10 [] (.op 11 [] (.op 12 [] (.op 13 [] (.op 14 [] .nil)))))))))))))))) .leaf))) (.reg (.op 0 [] (.op 1 [] (.op 2 [] .nil))))))))) (.seq (.reg (.op 0 [] (.op 1 [] (.op 2 [] (.op 3 [] (.op 4 [] (.op 5 [] (.op 6 [] (.op 7 [] (.op 8 [] .nil)))))))))) (.seq (.reg (.op 0 [] (.op 1 [] (.op 2 [] .nil)))) .leaf)))))))))))
/-- lighter/lighterlaw22.DgramBursts -/
def lighterlaw22_DgramBursts.res (x0 : Value) (at1 : Value) (burst2 : Value) (H0 : Heap) (R : Value → Heap → Prop) : Prop :=
 pBox H0 25 x0 fun x3 H_1 =>
 CallsH Try.prog 8 #[] H_1 fun x15 H_2 =>
 pNot x15 fun x16 =>
 pOr x16 (fun J_3 =>
 pEq 0 burst2 (.int .u32 0) fun x19 =>
 J_3 x19 H_2) H_2 fun x20 H_4 => ∀ _ : Env,
 pCond x20
 (CallsH Try.prog 8 #[] H_4 fun x21 H_5 =>
 R x21 H_5)
 (pFieldAddr 8 x3 fun x22 =>
 pLoad H_4 x22 fun x23 =>
 pFieldAddr 8 x3 fun x24 =>
 pLoad H_4 x24 fun x25 =>
 pLenS x25 fun x26 =>
 pMin x26 (.int .i64 256) fun x27 =>
 pSlStr x23 none (some x27) fun x28 =>
 pFieldAddr 8 x3 fun x29 =>
 pStore H_4 x29 x28 fun _ H_6 =>
 pLoadN H_6 9 x3 fun x31 =>
 CallsH Try.prog 10 #[x31] H_6 fun x32 H_7 =>
 pExtract 0 x32 fun x33 =>
 pExtract 1 x32 fun x34 =>
 pNe 0 x34 (.int .i64 0) fun x36 =>
 pCond x36
 (R (.bool true) H_7)
 (pBytes H_7 5 x33 fun x38 H_8 =>
 pLen x38 fun x40 =>
 pMul (.int .i64 8) x40 fun x41 =>
 pSub x41 (.int .i64 31) fun x42 =>
 pRem at1 x42 fun x45 =>
 pAdd x45 x42 fun x47 =>
 pRem x47 x42 fun x49 =>
 ∃ (I_9 : Value → Heap → Prop) (m_10 : Value → Heap → Nat), I_9 (.int .i64 0) H_8 ∧
 ∀ _ : Env, ∀ i12 : Value, ∀ H_11 : Heap, I_9 i12 H_11 →
 pLt i12 (.int .i64 32) fun x51 =>
 pCond x51
 (∃ J_12 : Heap → Prop, (∀ _ : Env, ∀ H_13 : Heap, J_12 H_13 →
 pAdd i12 (.int .i64 1) fun x53 =>
 I_9 x53 H_13 ∧ m_10 x53 H_13 < m_10 i12 H_11) ∧
 pShr burst2 i12 fun x56 =>
 pBits .and x56 (.int .u32 1) fun x57 =>
 pEq 0 x57 (.int .u32 1) fun x58 =>
 pCond x58
 (pAdd x49 i12 fun x62 =>
 pQuo x62 (.int .i64 8) fun x63 =>
 pIdxSl 1 x38 x63 fun x64 =>
 pLoad H_11 x64 fun x65 =>
 pAdd x49 i12 fun x68 =>
 pRem x68 (.int .i64 8) fun x69 =>
 pShl (.int .u8 1) x69 fun x70 =>
 pBits .xor x65 x70 fun x71 =>
 pIdxSl 1 x38 x63 fun x72 =>
 pStore H_11 x72 x71 fun _ H_14 =>
 J_12 H_14)
 (J_12 H_11))
 (pStrOf H_11 x38 fun x75 =>
 CallsH Try.prog 13 #[x75] H_11 fun x76 H_15 =>
 pExtract 0 x76 fun x77 =>
 pExtract 1 x76 fun x78 =>
 pBox H_15 32 (.agg #[(.int .i64 0), (.int .u32 0), (.int .u32 0), (.int .u32 0), (.int .u64 0), (.int .u32 0), (.int .u32 0), (.bool false), (str [])]) fun x13 H_16 =>
 pStoreN H_16 9 x13 x77 fun _ H_17 =>
 pEq 0 x78 (.int .i64 7) fun x80 =>
 R x80 H_17)))
set_option maxRecDepth 100000 in
theorem lighterlaw22_DgramBursts.vc (x0 : Value) (at1 : Value) (burst2 : Value) (H0 : Heap) (R : Value → Heap → Prop) (h : lighterlaw22_DgramBursts.res x0 at1 burst2 H0 R) : CallsH Try.prog 5 #[x0, at1, burst2] H0 R := by
  have e : vcFn Try.prog Try.C Try.f5 lighterlaw22_DgramBursts.an [x0, at1, burst2] H0 R = lighterlaw22_DgramBursts.res x0 at1 burst2 H0 R := by kernel_rfl
  exact vcFn_sound Try.callable Try.mixed Try.func5 (by kernel_rfl) (e.mpr h)

def lighterlaw22_DgramShort.an : Ann := (.seq (.reg (.op 0 [] .nil)) (.seq (.seq (.reg (.op 0 [] (.op 1 [] .nil))) (.cond (.seq (.reg (.op 0 [] .nil)) .leaf) .leaf)) (.seq (.reg (.op 0 [] (.op 1 [] (.op 2 [] (.op 3 [] (.op 4 [] (.op 5 [] .nil))))))) (.seq (.reg (.op 0 [] (.op 1 [] (.op 2 [] (.op 3 [] (.op 4 [] (.op 5 [] (.op 6 [] (.op 7 [] (.op 8 [] (.op 9 [] (.op 10 [] (.op 11 [] (.op 12 [] .nil)))))))))))))) (.seq (.reg (.op 0 [] (.op 1 [] (.op 2 [] (.op 3 [] (.op 4 [] (.op 5 [] (.op 6 [] (.op 7 [] (.op 8 [] (.op 9 [] (.op 10 [] (.op 11 [] .nil))))))))))))) (.seq (.reg (.op 0 [] (.op 1 [] (.op 2 [] (.grp 2 (.op 3 [] (.op 4 [] .nil)) 5 (.op 6 [] (.grp 6 (.op 7 [] (.op 8 [] (.op 9 [] .nil))) 10 (.op 11 [] .nil)))))))) .leaf))))))
/-- lighter/lighterlaw22.DgramShort -/
def lighterlaw22_DgramShort.res (s0 : Value) (H0 : Heap) (R : Value → Heap → Prop) : Prop :=
 CallsH Try.prog 8 #[] H0 fun x7 H_1 =>
 pNot x7 fun x8 =>
 pCond x8
 (R (.bool false) H_1)
 (pLenS s0 fun x11 =>
 pMin x11 (.int .i64 30) fun x12 =>
 pSlStr s0 none (some x12) fun x13 =>
 CallsH Try.prog 15 #[(.int .u32 0), x13] H_1 fun x17 H_2 =>
 pConv .u64 x17 fun x18 =>
 CallsH Try.prog 14 #[x18, (.int .i64 4)] H_2 fun x19 H_3 =>
 pAdd x13 x19 fun x20 =>
 CallsH Try.prog 13 #[x20] H_3 fun x21 H_4 =>
 pExtract 0 x21 fun x22 =>
 pExtract 1 x21 fun x23 =>
 pBox H_4 32 (.agg #[(.int .i64 0), (.int .u32 0), (.int .u32 0), (.int .u32 0), (.int .u64 0), (.int .u32 0), (.int .u32 0), (.bool false), (str [])]) fun d3 H_5 =>
 pStoreN H_5 9 d3 x22 fun _ H_6 =>
 pLenS x13 fun x27 =>
 pMin x27 (.int .i64 3) fun x28 =>
 pSlStr x13 none (some x28) fun x29 =>
 CallsH Try.prog 13 #[x29] H_6 fun x30 H_7 =>
 pExtract 0 x30 fun x31 =>
 pExtract 1 x30 fun x32 =>
 pBox H_7 32 (.agg #[(.int .i64 0), (.int .u32 0), (.int .u32 0), (.int .u32 0), (.int .u64 0), (.int .u32 0), (.int .u32 0), (.bool false), (str [])]) fun x5 H_8 =>
 pStoreN H_8 9 x5 x31 fun _ H_9 =>
 pEq 0 x23 (.int .i64 3) fun x34 =>
 pAnd x34 (fun J_10 =>
 pEq 0 x32 (.int .i64 7) fun x37 =>
 J_10 x37 H_9) H_9 fun x38 H_11 => ∀ _ : Env,
 pAnd x38 (fun J_12 =>
 pLoadN H_11 9 d3 fun x40 =>
 pBuild [(.int .i64 0), (.int .u32 0), (.int .u32 0), (.int .u32 0), (.int .u64 0), (.int .u32 0), (.int .u32 0), (.bool false), (str [])] [] fun x41 =>
 pEqA [0, 0, 0, 0, 0, 0, 0, 2, 1] x40 x41 fun x42 =>
 J_12 x42 H_11) H_11 fun x43 H_13 => ∀ _ : Env,
 R x43 H_13)
set_option maxRecDepth 100000 in
theorem lighterlaw22_DgramShort.vc (s0 : Value) (H0 : Heap) (R : Value → Heap → Prop) (h : lighterlaw22_DgramShort.res s0 H0 R) : CallsH Try.prog 6 #[s0] H0 R := by
  have e : vcFn Try.prog Try.C Try.f6 lighterlaw22_DgramShort.an [s0] H0 R = lighterlaw22_DgramShort.res s0 H0 R := by kernel_rfl
  exact vcFn_sound Try.callable Try.mixed Try.func6 (by kernel_rfl) (e.mpr h)

def lighterlaw22_DgramJoins.an : Ann := (.seq (.reg (.op 0 [] .nil)) (.seq (.seq (.reg (.op 0 [] (.op 1 [] .nil))) (.cond (.seq (.reg (.op 0 [] .nil)) .leaf) .leaf)) (.seq (.reg (.op 0 [] (.op 1 [] (.op 2 [] (.op 3 [] (.op 4 [] (.op 5 [] .nil))))))) (.seq (.reg (.op 0 [] .nil)) (.seq (.reg (.op 0 [] .nil)) (.seq (.seq (.reg (.op 0 [] .nil)) (.block (.loop [5, 6, 7] [5, 6, 7, 8, 22, 23, 24, 25, 26, 27, 28, 29, 30, 31, 32, 33, 34, 35, 36, 37, 38, 39, 40, 41, 42, 43, 44, 45, 46, 47, 48, 49, 50] (.seq (.seq (.reg (.op 0 [] (.op 1 [] (.op 2 [] (.op 3 [] .nil))))) (.cond .leaf .leaf)) (.seq (.block (.seq (.drw [0, 0, 3, 7, 0, 0, 48, 112, 240, 496, 1023, 2047] (.op 0 [] (.op 1 [] (.op 2 [] (.op 3 [] (.op 4 [] (.op 5 [] (.op 6 [] (.op 7 [] (.op 8 [] (.op 9 [] (.op 10 [] (.op 11 [] .nil))))))))))))) (.seq (.reg (.op 0 [] (.op 1 [] (.op 2 [] (.op 3 [] (.op 4 [] .nil)))))) (.reg (.op 0 [] (.op 1 [] (.op 2 [] (.op 3 [] (.op 4 [] (.op 5 [] (.op 6 [] (.op 7 [] (.op 8 [] .nil))))))))))))) (.reg (.op 0 [] (.op 1 [] (.op 2 [] .nil))))))))) (.seq (.reg (.op 0 [] (.op 1 [] (.op 2 [] .nil)))) (.seq (.reg (.op 0 [] (.op 1 [] (.op 2 [] (.op 3 [] (.op 4 [] (.op 5 [] (.op 6 [] .nil)))))))) (.seq (.seq (.reg (.op 0 [] (.op 1 [] (.op 2 [] (.op 3 [] (.grp 3 (.op 4 [] (.op 5 [] .nil)) 6 (.op 7 [] (.grp 7 (.op 8 [] (.op 9 [] (.op 10 [] (.op 11 [] (.op 12 [] .nil))))) 13 .nil)))))))) (.cond (.seq (.reg (.op 0 [] .nil)) .leaf) .leaf)) (.seq (.seq (.reg (.op 0 [] .nil)) (.block (.loop [12] [4, 12, 72, 73, 74, 75, 76, 77, 78, 79, 80, 81, 82, 83, 84, 85, 86] (.seq (.seq (.reg (.op 0 [] (.op 1 [] (.op 2 [] (.op 3 [] .nil))))) (.cond .leaf .leaf)) (.seq (.block (.seq (.drw [0, 0, 3, 7, 0, 0, 48, 112, 255] (.op 0 [] (.op 1 [] (.op 2 [] (.op 3 [] (.op 4 [] (.op 5 [] (.op 6 [] (.op 7 [] (.op 8 [] .nil)))))))))) (.cond (.seq (.reg (.op 0 [] .nil)) .leaf) .leaf))) (.reg (.op 0 [] (.op 1 [] (.op 2 [] .nil))))))))) (.seq (.reg (.op 0 [] (.op 1 [] (.op 2 [] (.op 3 [] (.op 4 [] (.op 5 [] .nil))))))) (.seq (.reg (.op 0 [] (.op 1 [] (.op 2 [] (.op 3 [] (.op 4 [] (.op 5 [] (.op 6 [] .nil)))))))) (.seq (.reg (.op 0 [] (.op 1 [] (.grp 1 (.op 2 [] (.op 3 [] (.op 4 [] (.op 5 [] .nil)))) 6 (.op 7 [] (.grp 7 (.op 8 [] (.op 9 [] (.op 10 [] (.grp 10 (.op 11 [] (.op 12 [] (.op 13 [] .nil))) 14 .nil)))) 15 (.op 16 [] .nil))))))) .leaf)))))))))))))
/-- lighter/lighterlaw22.DgramJoins -/
def lighterlaw22_DgramJoins.res (l0 : Value) (junk1 : Value) (H0 : Heap) (R : Value → Heap → Prop) : Prop :=
 CallsH Try.prog 8 #[] H0 fun x15 H_1 =>
 pNot x15 fun x16 =>
 pCond x16
 (R (.bool false) H_1)
 (pLen l0 fun x19 =>
 pMin x19 (.int .i64 20) fun x20 =>
 pSlSl 1 l0 none (some x20) fun x21 =>
 ∃ (I_2 : Value → Value → Value → Heap → Prop) (m_3 : Value → Value → Value → Heap → Nat), I_2 (str []) (.slice none 0 0) (.int .i64 0) H_1 ∧
 ∀ _ : Env, ∀ want5 : Value, ∀ all6 : Value, ∀ i7 : Value, ∀ H_4 : Heap, I_2 want5 all6 i7 H_4 →
 pLen x21 fun x24 =>
 pLt i7 x24 fun x25 =>
 pCond x25
 (pIdxSl 1 x21 i7 fun x30 =>
 pLoad H_4 x30 fun x31 =>
 pIdxSl 1 x21 i7 fun x34 =>
 pLoad H_4 x34 fun x35 =>
 pLenS x35 fun x36 =>
 pMin x36 (.int .i64 300) fun x37 =>
 pSlStr x31 none (some x37) fun x38 =>
 pBuildSl H_4 9 1 [(str [])] [(0, 1, x38)] fun x41 H_5 =>
 pAppend H_5 9 1 16 [(str [])] all6 x41 fun x42 H_6 =>
 pLenS x38 fun x45 =>
 pConv .u64 x45 fun x46 =>
 CallsH Try.prog 14 #[x46, (.int .i64 2)] H_6 fun x47 H_7 =>
 pAdd x47 x38 fun x49 =>
 pAdd want5 x49 fun x50 =>
 pAdd i7 (.int .i64 1) fun x27 =>
 I_2 x50 x42 x27 H_7 ∧ m_3 x50 x42 x27 H_7 < m_3 want5 all6 i7 H_4)
 (CallsH Try.prog 16 #[all6] H_4 fun x52 H_8 =>
 CallsH Try.prog 17 #[x52] H_8 fun x55 H_9 =>
 pExtract 0 x55 fun x56 =>
 pExtract 1 x55 fun x57 =>
 pNe 1 x52 want5 fun x60 =>
 pOr x60 (fun J_10 =>
 pNot x57 fun x63 =>
 J_10 x63 H_9) H_9 fun x64 H_11 => ∀ _ : Env,
 pOr x64 (fun J_12 =>
 pLen x56 fun x67 =>
 pLen all6 fun x69 =>
 pNe 0 x67 x69 fun x70 =>
 J_12 x70 H_11) H_11 fun x71 H_13 => ∀ _ : Env,
 pCond x71
 (R (.bool false) H_13)
 (∃ (I_14 : Value → Heap → Prop) (m_15 : Value → Heap → Nat), I_14 (.int .i64 0) H_13 ∧
 ∀ _ : Env, ∀ i12 : Value, ∀ H_16 : Heap, I_14 i12 H_16 →
 pLen all6 fun x74 =>
 pLt i12 x74 fun x75 =>
 pCond x75
 (pIdxSl 1 x56 i12 fun x80 =>
 pLoad H_16 x80 fun x81 =>
 pIdxSl 1 all6 i12 fun x84 =>
 pLoad H_16 x84 fun x85 =>
 pNe 1 x81 x85 fun x86 =>
 pCond x86
 (R (.bool false) H_16)
 (pAdd i12 (.int .i64 1) fun x77 =>
 I_14 x77 H_16 ∧ m_15 x77 H_16 < m_15 i12 H_16))
 (pLenS junk1 fun x89 =>
 pMin x89 (.int .i64 400) fun x90 =>
 pSlStr junk1 none (some x90) fun x91 =>
 CallsH Try.prog 17 #[x91] H_16 fun x94 H_17 =>
 pExtract 0 x94 fun x95 =>
 pExtract 1 x94 fun x96 =>
 pAnd x96 (fun J_18 =>
 CallsH Try.prog 16 #[x95] H_17 fun x100 H_20 =>
 pEq 1 x100 x91 fun x102 =>
 J_18 x102 H_20) H_17 fun x103 H_19 => ∀ _ : Env,
 pOr x103 (fun J_21 =>
 pNot x96 fun x106 =>
 pAnd x106 (fun J_23 =>
 pLen x95 fun x109 =>
 pEq 0 x109 (.int .i64 0) fun x110 =>
 J_23 x110 H_19) H_19 fun x111 H_24 => ∀ _ : Env,
 J_21 x111 H_24) H_19 fun x112 H_22 => ∀ _ : Env,
 R x112 H_22))))
set_option maxRecDepth 100000 in
theorem lighterlaw22_DgramJoins.vc (l0 : Value) (junk1 : Value) (H0 : Heap) (R : Value → Heap → Prop) (h : lighterlaw22_DgramJoins.res l0 junk1 H0 R) : CallsH Try.prog 7 #[l0, junk1] H0 R := by
  have e : vcFn Try.prog Try.C Try.f7 lighterlaw22_DgramJoins.an [l0, junk1] H0 R = lighterlaw22_DgramJoins.res l0 junk1 H0 R := by kernel_rfl
  exact vcFn_sound Try.callable Try.mixed Try.func7 (by kernel_rfl) (e.mpr h)

def lighterlaw22_speaks.an : Ann := (.seq (.reg (.op 0 [] .nil)) (.seq (.reg (.op 0 [] (.op 1 [] (.op 2 [] (.op 3 [] (.op 4 [] (.op 5 [] (.op 6 [] .nil)))))))) (.seq (.reg (.op 0 [] (.op 1 [] (.op 2 [] (.op 3 [] (.op 4 [] (.op 5 [] (.op 6 [] (.op 7 [] .nil))))))))) (.seq (.reg (.op 0 [] (.op 1 [] (.op 2 [] (.grp 2 (.op 3 [] (.op 4 [] .nil)) 5 (.op 6 [] (.grp 6 (.op 7 [] (.op 8 [] (.op 9 [] .nil))) 10 (.op 11 [] (.grp 11 (.op 12 [] (.op 13 [] (.op 14 [] .nil))) 15 (.op 16 [] (.grp 16 (.op 17 [] (.op 18 [] (.op 19 [] .nil))) 20 (.op 21 [] .nil)))))))))))) .leaf))))
/-- lighter/lighterlaw22.speaks -/
def lighterlaw22_speaks.res (H0 : Heap) (R : Value → Heap → Prop) : Prop :=
 pBuild [(.int .i64 0), (.int .u32 0), (.int .u32 0), (.int .u32 0), (.int .u64 0), (.int .u32 0), (.int .u32 0), (.bool false), (str [])] [(0, 1, (.int .i64 1)), (1, 1, (.int .u32 7))] fun x6 =>
 CallsH Try.prog 10 #[x6] H0 fun x7 H_1 =>
 pExtract 0 x7 fun x8 =>
 pExtract 1 x7 fun x9 =>
 CallsH Try.prog 13 #[x8] H_1 fun x12 H_2 =>
 pExtract 0 x12 fun x13 =>
 pExtract 1 x12 fun x14 =>
 pBox H_2 32 (.agg #[(.int .i64 0), (.int .u32 0), (.int .u32 0), (.int .u32 0), (.int .u64 0), (.int .u32 0), (.int .u32 0), (.bool false), (str [])]) fun d3 H_3 =>
 pStoreN H_3 9 d3 x13 fun _ H_4 =>
 pEq 0 x9 (.int .i64 0) fun x16 =>
 pAnd x16 (fun J_5 =>
 pEq 0 x14 (.int .i64 0) fun x19 =>
 J_5 x19 H_4) H_4 fun x20 H_6 => ∀ _ : Env,
 pAnd x20 (fun J_7 =>
 pLenS x8 fun x23 =>
 pEq 0 x23 (.int .i64 38) fun x24 =>
 J_7 x24 H_6) H_6 fun x25 H_8 => ∀ _ : Env,
 pAnd x25 (fun J_9 =>
 pFieldAddr 0 d3 fun x27 =>
 pLoad H_8 x27 fun x28 =>
 pEq 0 x28 (.int .i64 1) fun x29 =>
 J_9 x29 H_8) H_8 fun x30 H_10 => ∀ _ : Env,
 pAnd x30 (fun J_11 =>
 pFieldAddr 1 d3 fun x32 =>
 pLoad H_10 x32 fun x33 =>
 pEq 0 x33 (.int .u32 7) fun x34 =>
 J_11 x34 H_10) H_10 fun x35 H_12 => ∀ _ : Env,
 R x35 H_12
set_option maxRecDepth 100000 in
theorem lighterlaw22_speaks.vc (H0 : Heap) (R : Value → Heap → Prop) (h : lighterlaw22_speaks.res H0 R) : CallsH Try.prog 8 #[] H0 R := by
  have e : vcFn Try.prog Try.C Try.f8 lighterlaw22_speaks.an [] H0 R = lighterlaw22_speaks.res H0 R := by kernel_rfl
  exact vcFn_sound Try.callable Try.mixed Try.func8 (by kernel_rfl) (e.mpr h)

end Go.Proofs.Ytacfmbookcgjoaa
