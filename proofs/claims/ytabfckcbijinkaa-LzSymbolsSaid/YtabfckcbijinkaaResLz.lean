/- The residuals of package lz's functions, printed by resid.py. -/
import Derived.Test.YtabfckcbijinkaaVcSeat
namespace Go.Proofs.Ytabfckcbijinkaa
open Go Go.Vc Go.Proofs
set_option linter.unusedVariables false
set_option maxHeartbeats 4000000
def lz_Length.an : Ann := (.seq (.reg (.op 0 [] .nil)) (.seq (.seq (.reg (.op 0 [] (.op 1 [] (.op 2 [] (.grp 2 (.op 3 [] (.op 4 [] .nil)) 5 .nil))))) (.cond (.seq (.reg (.op 0 [] (.op 1 [] .nil))) .leaf) .leaf)) (.seq (.reg (.op 0 [] (.op 1 [] (.op 2 [] .nil)))) .leaf)))
/-- lighter/lz.Length -/
def lz_Length.res (n0 : Value) (H0 : Heap) (R : Value → Heap → Prop) : Prop :=
 pBox H0 39 (.agg #[(.int .i64 0), (.int .i64 0), (.int .u64 0)]) fun x2 H_1 =>
 pLt n0 (.int .i64 3) fun x4 =>
 pOr x4 (fun J_2 =>
 pGt n0 (.int .i64 258) fun x7 =>
 J_2 x7 H_1) H_1 fun x8 H_3 => ∀ _ : Env,
 pCond x8
 (pBuild [(.int .i64 0), (.int .i64 0), (.int .u64 0)] [] fun x9 =>
 pStoreN H_3 3 x2 x9 fun _ H_4 =>
 pLoadN H_4 3 x2 fun r_5 =>
 R r_5 H_4)
 (CallsH Try.prog 27 #[n0, (.int .i64 257), (.int .i64 285), (.func (.func 21) #[] #[])] H_3 fun x11 H_6 =>
 pStoreN H_6 3 x2 x11 fun _ H_7 =>
 pLoadN H_7 3 x2 fun r_8 =>
 R r_8 H_7)
set_option maxRecDepth 100000 in
theorem lz_Length.vc (n0 : Value) (H0 : Heap) (R : Value → Heap → Prop) (h : lz_Length.res n0 H0 R) : CallsH Try.prog 18 #[n0] H0 R := by
  have e : vcFn Try.prog Try.C Try.f18 lz_Length.an [n0] H0 R = lz_Length.res n0 H0 R := by kernel_rfl
  exact vcFn_sound Try.callable Try.mixed Try.func18 (by kernel_rfl) (e.mpr h)

def lz_Dist.an : Ann := (.seq (.reg (.op 0 [] .nil)) (.seq (.seq (.reg (.op 0 [] (.op 1 [] (.op 2 [] (.grp 2 (.op 3 [] (.op 4 [] .nil)) 5 .nil))))) (.cond (.seq (.reg (.op 0 [] (.op 1 [] .nil))) .leaf) .leaf)) (.seq (.reg (.op 0 [] (.op 1 [] (.op 2 [] .nil)))) .leaf)))
/-- lighter/lz.Dist -/
def lz_Dist.res (n0 : Value) (H0 : Heap) (R : Value → Heap → Prop) : Prop :=
 pBox H0 39 (.agg #[(.int .i64 0), (.int .i64 0), (.int .u64 0)]) fun x2 H_1 =>
 pLt n0 (.int .i64 1) fun x4 =>
 pOr x4 (fun J_2 =>
 pGt n0 (.int .i64 32768) fun x7 =>
 J_2 x7 H_1) H_1 fun x8 H_3 => ∀ _ : Env,
 pCond x8
 (pBuild [(.int .i64 0), (.int .i64 0), (.int .u64 0)] [] fun x9 =>
 pStoreN H_3 3 x2 x9 fun _ H_4 =>
 pLoadN H_4 3 x2 fun r_5 =>
 R r_5 H_4)
 (CallsH Try.prog 27 #[n0, (.int .i64 0), (.int .i64 29), (.func (.func 22) #[] #[])] H_3 fun x11 H_6 =>
 pStoreN H_6 3 x2 x11 fun _ H_7 =>
 pLoadN H_7 3 x2 fun r_8 =>
 R r_8 H_7)
set_option maxRecDepth 100000 in
theorem lz_Dist.vc (n0 : Value) (H0 : Heap) (R : Value → Heap → Prop) (h : lz_Dist.res n0 H0 R) : CallsH Try.prog 19 #[n0] H0 R := by
  have e : vcFn Try.prog Try.C Try.f19 lz_Dist.an [n0] H0 R = lz_Dist.res n0 H0 R := by kernel_rfl
  exact vcFn_sound Try.callable Try.mixed Try.func19 (by kernel_rfl) (e.mpr h)

def lz_LengthOf.an : Ann := (.seq (.reg (.op 0 [] (.op 1 [] (.op 2 [] .nil)))) (.seq (.block (.seq (.reg (.op 0 [] (.op 1 [] (.op 2 [] (.grp 2 (.op 3 [] (.op 4 [] .nil)) 5 (.op 6 [] .nil)))))) (.cond (.seq (.reg (.op 0 [] (.op 1 [] (.op 2 [] .nil)))) .leaf) (.seq (.reg (.op 0 [] (.op 1 [] (.op 2 [] .nil)))) (.cond (.seq (.reg (.op 0 [] (.op 1 [] (.op 2 [] .nil)))) .leaf) .leaf))))) (.seq (.reg (.op 0 [] (.op 1 [] (.op 2 [] (.op 3 [] (.op 4 [] (.op 5 [] (.op 6 [] (.op 7 [] .nil))))))))) (.seq (.reg (.op 0 [] (.op 1 [] (.op 2 [] (.op 3 [] (.op 4 [] .nil)))))) .leaf))))
/-- lighter/lz.LengthOf -/
def lz_LengthOf.res (symbol0 : Value) (H0 : Heap) (R : Value → Heap → Prop) : Prop :=
 pLt symbol0 (.int .i64 257) fun x9 =>
 pOr x9 (fun J_1 =>
 pGt symbol0 (.int .i64 285) fun x12 =>
 J_1 x12 H0) H0 fun x13 H_2 => ∀ _ : Env,
 pCond x13
 (R (.tuple #[(.int .i64 0), (.int .i64 0), (.bool false)]) H_2)
 (pEq 0 symbol0 (.int .i64 285) fun x16 =>
 pCond x16
 (R (.tuple #[(.int .i64 258), (.int .i64 0), (.bool true)]) H_2)
 (pSub symbol0 (.int .i64 257) fun x19 =>
 CallsH Try.prog 28 #[x19, (.int .i64 3), (.int .i64 8), (.int .i64 4)] H_2 fun x20 H_3 =>
 pExtract 0 x20 fun x21 =>
 pExtract 1 x20 fun x22 =>
 R (.tuple #[x21, x22, (.bool true)]) H_3))
set_option maxRecDepth 100000 in
theorem lz_LengthOf.vc (symbol0 : Value) (H0 : Heap) (R : Value → Heap → Prop) (h : lz_LengthOf.res symbol0 H0 R) : CallsH Try.prog 21 #[symbol0] H0 R := by
  have e : vcFn Try.prog Try.C Try.f21 lz_LengthOf.an [symbol0] H0 R = lz_LengthOf.res symbol0 H0 R := by kernel_rfl
  exact vcFn_sound Try.callable Try.mixed Try.func21 (by kernel_rfl) (e.mpr h)

def lz_DistOf.an : Ann := (.seq (.reg (.op 0 [] (.op 1 [] (.op 2 [] .nil)))) (.seq (.seq (.reg (.op 0 [] (.op 1 [] (.op 2 [] (.grp 2 (.op 3 [] (.op 4 [] .nil)) 5 .nil))))) (.cond (.seq (.reg (.op 0 [] (.op 1 [] (.op 2 [] .nil)))) .leaf) .leaf)) (.seq (.reg (.op 0 [] (.op 1 [] (.op 2 [] (.op 3 [] (.op 4 [] (.op 5 [] (.op 6 [] .nil)))))))) (.seq (.reg (.op 0 [] (.op 1 [] (.op 2 [] (.op 3 [] (.op 4 [] .nil)))))) .leaf))))
/-- lighter/lz.DistOf -/
def lz_DistOf.res (symbol0 : Value) (H0 : Heap) (R : Value → Heap → Prop) : Prop :=
 pLt symbol0 (.int .i64 0) fun x8 =>
 pOr x8 (fun J_1 =>
 pGt symbol0 (.int .i64 29) fun x11 =>
 J_1 x11 H0) H0 fun x12 H_2 => ∀ _ : Env,
 pCond x12
 (R (.tuple #[(.int .i64 0), (.int .i64 0), (.bool false)]) H_2)
 (CallsH Try.prog 28 #[symbol0, (.int .i64 1), (.int .i64 4), (.int .i64 2)] H_2 fun x15 H_3 =>
 pExtract 0 x15 fun x16 =>
 pExtract 1 x15 fun x17 =>
 R (.tuple #[x16, x17, (.bool true)]) H_3)
set_option maxRecDepth 100000 in
theorem lz_DistOf.vc (symbol0 : Value) (H0 : Heap) (R : Value → Heap → Prop) (h : lz_DistOf.res symbol0 H0 R) : CallsH Try.prog 22 #[symbol0] H0 R := by
  have e : vcFn Try.prog Try.C Try.f22 lz_DistOf.an [symbol0] H0 R = lz_DistOf.res symbol0 H0 R := by kernel_rfl
  exact vcFn_sound Try.callable Try.mixed Try.func22 (by kernel_rfl) (e.mpr h)

def lz_Expand.an : Ann := (.seq (.reg (.op 0 [] (.op 1 [] .nil))) (.seq (.reg (.op 0 [] (.op 1 [] (.op 2 [] .nil)))) (.seq (.seq (.reg (.op 0 [] (.op 1 [] (.op 2 [] .nil)))) (.block (.loop [6, 13] [4, 5, 6, 8, 13, 14, 15, 16, 17, 18, 19, 20, 21, 22, 23, 24, 25, 26, 27, 28, 29, 30, 31, 32, 33, 34, 35, 36, 37, 38, 39, 40, 41, 42, 43, 44, 45, 46, 47, 48, 49, 50, 51, 52, 53] (.seq (.reg (.op 0 [] .nil)) (.seq (.cond .leaf .leaf) (.seq (.block (.seq (.reg (.op 0 [] (.op 1 [] (.op 2 [] (.op 3 [] .nil))))) (.cut [6] [4, 5, 6, 17, 18, 19, 20, 21, 22, 23, 24, 25, 26, 27, 28, 29, 30, 31, 32, 33, 34, 35, 36] (.block (.seq (.reg (.op 0 [] (.op 1 [] (.op 2 [] (.op 3 [] (.grp 3 (.op 4 [] (.op 5 [] (.op 6 [] (.op 7 [] (.op 8 [] .nil))))) 9 (.op 10 [] .nil))))))) (.cond (.seq (.reg (.op 0 [] (.op 1 [] .nil))) .leaf) (.seq (.reg (.op 0 [] (.op 1 [] (.op 2 [] (.op 3 [] .nil))))) (.cond (.reg (.op 0 [] (.op 1 [] (.op 2 [] (.op 3 [] (.op 4 [] (.op 5 [] .nil))))))) .leaf))))) (.seq (.reg (.op 0 [] (.op 1 [] (.op 2 [] .nil)))) (.block (.loop [6, 39] [6, 39, 40, 41, 42, 43, 44, 45, 46, 47, 48, 49, 50, 51, 52] (.seq (.reg (.op 0 [] .nil)) (.seq (.cond .leaf .leaf) (.seq (.block (.reg (.op 0 [] (.op 1 [] (.op 2 [] (.op 3 [] (.op 4 [] (.op 5 [] (.op 6 [] (.op 7 [] (.op 8 [] (.op 9 [] (.op 10 [] (.op 11 [] .nil)))))))))))))) (.reg (.op 0 [] (.op 1 [] .nil)))))))))))) (.reg (.op 0 [] (.op 1 [] .nil))))))))) (.seq (.reg (.op 0 [] (.op 1 [] (.op 2 [] (.op 3 [] (.op 4 [] (.op 5 [] (.op 6 [] .nil)))))))) .leaf))))
/-- lighter/lz.Expand -/
def lz_Expand.res (ahead0 : Value) (l1 : Value) (H0 : Heap) (R : Value → Heap → Prop) : Prop :=
 pBytes H0 5 ahead0 fun x10 H_1 =>
 pLen l1 fun x12 =>
 ∃ (I_2 : Value → Value → Heap → Prop) (m_3 : Value → Value → Heap → Nat), I_2 x10 (.int .i64 0) H_1 ∧
 ∀ _ : Env, ∀ b6 : Value, ∀ x13 : Value, ∀ H_4 : Heap, I_2 b6 x13 H_4 →
 pLt x13 x12 fun x14 =>
 pCond x14
 (pIdxSl 3 l1 x13 fun x15 =>
 pLoadN H_4 3 x15 fun x16 =>
 pBox H_4 55 (.agg #[(.int .u8 0), (.int .i64 0), (.int .i64 0)]) fun t8 H_5 =>
 pStoreN H_5 3 t8 x16 fun _ H_6 =>
 ∃ J_7 : Value → Heap → Prop, (∀ _ : Env, ∀ b6' : Value, ∀ H_8 : Heap, J_7 b6' H_8 →
 pFieldAddr 1 t8 fun x37 =>
 pLoad H_8 x37 fun x38 =>
 ∃ (I_9 : Value → Value → Heap → Prop) (m_10 : Value → Value → Heap → Nat), I_9 b6' (.int .i64 0) H_8 ∧
 ∀ _ : Env, ∀ b6'' : Value, ∀ x39 : Value, ∀ H_11 : Heap, I_9 b6'' x39 H_11 →
 pLt x39 x38 fun x40 =>
 pCond x40
 (pLen b6'' fun x44 =>
 pFieldAddr 2 t8 fun x45 =>
 pLoad H_11 x45 fun x46 =>
 pSub x44 x46 fun x47 =>
 pIdxSl 1 b6'' x47 fun x48 =>
 pLoad H_11 x48 fun x49 =>
 pBuildSl H_11 5 1 [(.int .u8 0)] [(0, 1, x49)] fun x50 H_12 =>
 pAppend H_12 5 1 1 [(.int .u8 0)] b6'' x50 fun x51 H_13 =>
 pAdd x39 (.int .i64 1) fun x52 =>
 I_9 x51 x52 H_13 ∧ m_10 x51 x52 H_13 < m_10 b6'' x39 H_11)
 (pAdd x13 (.int .i64 1) fun x53 =>
 I_2 b6'' x53 H_11 ∧ m_3 b6'' x53 H_11 < m_3 b6 x13 H_4)) ∧
 pLoadN H_6 3 t8 fun x18 =>
 CallsH Try.prog 30 #[x18] H_6 fun x19 H_14 =>
 pNot x19 fun x20 =>
 pOr x20 (fun J_15 =>
 pFieldAddr 2 t8 fun x22 =>
 pLoad H_14 x22 fun x23 =>
 pLen b6 fun x25 =>
 pGt x23 x25 fun x26 =>
 J_15 x26 H_14) H_14 fun x27 H_16 => ∀ _ : Env,
 pCond x27
 (R (.tuple #[(str []), (.bool false)]) H_16)
 (pFieldAddr 1 t8 fun x29 =>
 pLoad H_16 x29 fun x30 =>
 pEq 0 x30 (.int .i64 0) fun x31 =>
 pCond x31
 (pFieldAddr 0 t8 fun x33 =>
 pLoad H_16 x33 fun x34 =>
 pBuildSl H_16 5 1 [(.int .u8 0)] [(0, 1, x34)] fun x35 H_17 =>
 pAppend H_17 5 1 1 [(.int .u8 0)] b6 x35 fun x36 H_18 =>
 J_7 x36 H_18)
 (J_7 b6 H_16)))
 (pLenS ahead0 fun x56 =>
 pSlSl 1 b6 (some x56) none fun x57 =>
 pStrOf H_4 x57 fun x58 =>
 R (.tuple #[x58, (.bool true)]) H_4)
set_option maxRecDepth 100000 in
theorem lz_Expand.vc (ahead0 : Value) (l1 : Value) (H0 : Heap) (R : Value → Heap → Prop) (h : lz_Expand.res ahead0 l1 H0 R) : CallsH Try.prog 26 #[ahead0, l1] H0 R := by
  have e : vcFn Try.prog Try.C Try.f26 lz_Expand.an [ahead0, l1] H0 R = lz_Expand.res ahead0 l1 H0 R := by kernel_rfl
  exact vcFn_sound Try.callable Try.mixed Try.func26 (by kernel_rfl) (e.mpr h)

def lz_find.an : Ann := (.seq (.reg (.op 0 [] .nil)) (.seq (.seq (.reg (.op 0 [] (.op 1 [] .nil))) (.block (.loop [9] [9, 10, 11, 12, 17, 18, 19, 20, 21, 22, 23, 24, 25, 26, 27, 28, 29, 30, 31, 32, 33, 34, 35, 36, 37, 38] (.seq (.seq (.reg (.op 0 [] (.op 1 [] (.op 2 [] .nil)))) (.cond .leaf .leaf)) (.seq (.block (.seq (.reg (.op 0 [] (.op 1 [] (.op 2 [] (.op 3 [] (.op 4 [] (.op 5 [] (.op 6 [] (.op 7 [] (.op 8 [] (.op 9 [] .nil))))))))))) (.seq (.reg (.op 0 [] (.op 1 [] (.op 2 [] .nil)))) (.cond (.seq (.reg (.op 0 [] (.op 1 [] (.op 2 [] (.op 3 [] (.op 4 [] (.op 5 [] (.op 6 [] (.op 7 [] .nil))))))))) .leaf) .leaf)))) (.reg (.op 0 [] (.op 1 [] (.op 2 [] .nil))))))))) (.seq (.reg (.op 0 [] (.op 1 [] (.op 2 [] (.op 3 [] (.op 4 [] (.op 5 [] (.op 6 [] (.op 7 [] (.op 8 [] (.op 9 [] .nil))))))))))) (.seq (.reg (.op 0 [] (.op 1 [] (.op 2 [] (.op 3 [] (.op 4 [] (.op 5 [] (.op 6 [] (.op 7 [] .nil))))))))) .leaf))))
/-- lighter/lz.find -/
def lz_find.res (n0 : Value) (first1 : Value) (last2 : Value) (of3 : Value) (H0 : Heap) (R : Value → Heap → Prop) : Prop :=
 pBox H0 39 (.agg #[(.int .i64 0), (.int .i64 0), (.int .u64 0)]) fun x8 H_1 =>
 ∃ (I_2 : Value → Heap → Prop) (m_3 : Value → Heap → Nat), I_2 last2 H_1 ∧
 ∀ _ : Env, ∀ s9 : Value, ∀ H_4 : Heap, I_2 s9 H_4 →
 pGt s9 first1 fun x19 =>
 pCond x19
 (callH Try.prog Try.C of3 [s9] H_4 fun x25 H_5 =>
 pExtract 0 x25 fun x26 =>
 pExtract 1 x25 fun x27 =>
 pExtract 2 x25 fun x28 =>
 pLe x26 n0 fun x31 =>
 pCond x31
 (pSub n0 x26 fun x36 =>
 pConv .u64 x36 fun x37 =>
 pBuild [(.int .i64 0), (.int .i64 0), (.int .u64 0)] [(0, 1, s9), (1, 1, x27), (2, 1, x37)] fun x38 =>
 pStoreN H_5 3 x8 x38 fun _ H_6 =>
 pLoadN H_6 3 x8 fun r_7 =>
 R r_7 H_6)
 (pSub s9 (.int .i64 1) fun x21 =>
 I_2 x21 H_5 ∧ m_3 x21 H_5 < m_3 s9 H_4))
 (callH Try.prog Try.C of3 [first1] H_4 fun x42 H_8 =>
 pExtract 0 x42 fun x43 =>
 pExtract 1 x42 fun x44 =>
 pExtract 2 x42 fun x45 =>
 pSub n0 x43 fun x50 =>
 pConv .u64 x50 fun x51 =>
 pBuild [(.int .i64 0), (.int .i64 0), (.int .u64 0)] [(0, 1, first1), (1, 1, x44), (2, 1, x51)] fun x52 =>
 pStoreN H_8 3 x8 x52 fun _ H_9 =>
 pLoadN H_9 3 x8 fun r_10 =>
 R r_10 H_9)
set_option maxRecDepth 100000 in
theorem lz_find.vc (n0 : Value) (first1 : Value) (last2 : Value) (of3 : Value) (H0 : Heap) (R : Value → Heap → Prop) (h : lz_find.res n0 first1 last2 of3 H0 R) : CallsH Try.prog 27 #[n0, first1, last2, of3] H0 R := by
  have e : vcFn Try.prog Try.C Try.f27 lz_find.an [n0, first1, last2, of3] H0 R = lz_find.res n0 first1 last2 of3 H0 R := by kernel_rfl
  exact vcFn_sound Try.callable Try.mixed Try.func27 (by kernel_rfl) (e.mpr h)

def lz_steps.an : Ann := (.seq (.reg (.op 0 [] (.op 1 [] .nil))) (.seq (.seq (.reg (.op 0 [] (.op 1 [] (.op 2 [] .nil)))) (.cond (.seq (.reg (.op 0 [] (.op 1 [] (.op 2 [] (.op 3 [] (.op 4 [] .nil)))))) .leaf) .leaf)) (.seq (.reg (.op 0 [] (.op 1 [] (.op 2 [] (.op 3 [] .nil))))) (.seq (.reg (.op 0 [] .nil)) (.seq (.seq (.reg (.op 0 [] (.op 1 [] (.op 2 [] (.op 3 [] .nil))))) (.block (.loop [0, 10, 11] [0, 10, 11, 24, 25, 26, 27, 28, 29, 30, 31, 32, 33, 34, 35, 36] (.seq (.seq (.reg (.op 0 [] (.op 1 [] (.op 2 [] .nil)))) (.cond .leaf .leaf)) (.seq (.block (.seq (.reg (.op 0 [] (.op 1 [] (.op 2 [] (.op 3 [] (.op 4 [] (.op 5 [] .nil))))))) (.reg (.op 0 [] (.op 1 [] (.op 2 [] .nil)))))) (.reg (.op 0 [] (.op 1 [] (.op 2 [] (.op 3 [] .nil)))))))))) (.seq (.reg (.op 0 [] (.op 1 [] (.op 2 [] (.op 3 [] (.op 4 [] (.op 5 [] (.op 6 [] (.op 7 [] .nil))))))))) .leaf))))))
/-- lighter/lz.steps -/
def lz_steps.res (k0 : Value) (least1 : Value) (free2 : Value) (step3 : Value) (H0 : Heap) (R : Value → Heap → Prop) : Prop :=
 pLt k0 free2 fun x14 =>
 pCond x14
 (pAdd least1 k0 fun x17 =>
 R (.tuple #[x17, (.int .i64 0)]) H0)
 (pAdd least1 free2 fun x20 =>
 pSub k0 free2 fun x23 =>
 ∃ (I_1 : Value → Value → Value → Heap → Prop) (m_2 : Value → Value → Value → Heap → Nat), I_1 x23 x20 (.int .i64 1) H0 ∧
 ∀ _ : Env, ∀ k0' : Value, ∀ at10 : Value, ∀ e11 : Value, ∀ H_3 : Heap, I_1 k0' at10 e11 H_3 →
 pGe k0' step3 fun x26 =>
 pCond x26
 (pShl step3 e11 fun x33 =>
 pAdd at10 x33 fun x34 =>
 pAdd e11 (.int .i64 1) fun x36 =>
 pSub k0' step3 fun x29 =>
 I_1 x29 x34 x36 H_3 ∧ m_2 x29 x34 x36 H_3 < m_2 k0' at10 e11 H_3)
 (pShl k0' e11 fun x40 =>
 pAdd at10 x40 fun x41 =>
 R (.tuple #[x41, e11]) H_3))
set_option maxRecDepth 100000 in
theorem lz_steps.vc (k0 : Value) (least1 : Value) (free2 : Value) (step3 : Value) (H0 : Heap) (R : Value → Heap → Prop) (h : lz_steps.res k0 least1 free2 step3 H0 R) : CallsH Try.prog 28 #[k0, least1, free2, step3] H0 R := by
  have e : vcFn Try.prog Try.C Try.f28 lz_steps.an [k0, least1, free2, step3] H0 R = lz_steps.res k0 least1 free2 step3 H0 R := by kernel_rfl
  exact vcFn_sound Try.callable Try.mixed Try.func28 (by kernel_rfl) (e.mpr h)

def lz_Token_Good.an : Ann := (.seq (.reg (.op 0 [] (.op 1 [] .nil))) (.seq (.seq (.reg (.op 0 [] (.op 1 [] (.op 2 [] .nil)))) (.cond (.seq (.reg (.op 0 [] (.op 1 [] (.op 2 [] (.op 3 [] .nil))))) .leaf) .leaf)) (.seq (.reg (.op 0 [] (.op 1 [] (.op 2 [] (.op 3 [] (.grp 3 (.op 4 [] (.op 5 [] (.op 6 [] .nil))) 7 (.op 8 [] (.grp 8 (.op 9 [] (.op 10 [] (.op 11 [] .nil))) 12 (.op 13 [] (.grp 13 (.op 14 [] (.op 15 [] (.op 16 [] .nil))) 17 (.op 18 [] (.grp 18 (.op 19 [] (.op 20 [] (.op 21 [] .nil))) 22 (.op 23 [] .nil))))))))))))) .leaf)))
/-- (lighter/lz.Token).Good -/
def lz_Token_Good.res (t0 : Value) (H0 : Heap) (R : Value → Heap → Prop) : Prop :=
 pBox H0 55 t0 fun t1 H_1 =>
 pFieldAddr 1 t1 fun x3 =>
 pLoad H_1 x3 fun x4 =>
 pEq 0 x4 (.int .i64 0) fun x5 =>
 pCond x5
 (pFieldAddr 2 t1 fun x6 =>
 pLoad H_1 x6 fun x7 =>
 pEq 0 x7 (.int .i64 0) fun x8 =>
 R x8 H_1)
 (pFieldAddr 0 t1 fun x9 =>
 pLoad H_1 x9 fun x10 =>
 pEq 0 x10 (.int .u8 0) fun x11 =>
 pAnd x11 (fun J_2 =>
 pFieldAddr 1 t1 fun x13 =>
 pLoad H_1 x13 fun x14 =>
 pGe x14 (.int .i64 3) fun x15 =>
 J_2 x15 H_1) H_1 fun x16 H_3 => ∀ _ : Env,
 pAnd x16 (fun J_4 =>
 pFieldAddr 1 t1 fun x18 =>
 pLoad H_3 x18 fun x19 =>
 pLe x19 (.int .i64 258) fun x20 =>
 J_4 x20 H_3) H_3 fun x21 H_5 => ∀ _ : Env,
 pAnd x21 (fun J_6 =>
 pFieldAddr 2 t1 fun x23 =>
 pLoad H_5 x23 fun x24 =>
 pGe x24 (.int .i64 1) fun x25 =>
 J_6 x25 H_5) H_5 fun x26 H_7 => ∀ _ : Env,
 pAnd x26 (fun J_8 =>
 pFieldAddr 2 t1 fun x28 =>
 pLoad H_7 x28 fun x29 =>
 pLe x29 (.int .i64 32768) fun x30 =>
 J_8 x30 H_7) H_7 fun x31 H_9 => ∀ _ : Env,
 R x31 H_9)
set_option maxRecDepth 100000 in
theorem lz_Token_Good.vc (t0 : Value) (H0 : Heap) (R : Value → Heap → Prop) (h : lz_Token_Good.res t0 H0 R) : CallsH Try.prog 30 #[t0] H0 R := by
  have e : vcFn Try.prog Try.C Try.f30 lz_Token_Good.an [t0] H0 R = lz_Token_Good.res t0 H0 R := by kernel_rfl
  exact vcFn_sound Try.callable Try.mixed Try.func30 (by kernel_rfl) (e.mpr h)

end Go.Proofs.Ytabfckcbijinkaa
