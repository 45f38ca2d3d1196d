/- The residuals of package lz's functions, printed by resid.py. -/
import Derived.Test.YtfmbgnchedhneaaDoorVcSeat
namespace Go.Proofs.YtfmbgnchedhneaaDoor
open Go Go.Vc Go.Proofs
set_option linter.unusedVariables false
set_option maxHeartbeats 4000000
def lz_Expand.an : Ann := (.seq (.reg (.op 0 [] (.op 1 [] .nil))) (.seq (.reg (.op 0 [] (.op 1 [] (.op 2 [] .nil)))) (.seq (.seq (.reg (.op 0 [] (.op 1 [] (.op 2 [] .nil)))) (.block (.loop [6, 13] [4, 5, 6, 8, 13, 14, 15, 16, 17, 18, 19, 20, 21, 22, 23, 24, 25, 26, 27, 28, 29, 30, 31, 32, 33, 34, 35, 36, 37, 38, 39, 40, 41, 42, 43, 44, 45, 46, 47, 48, 49, 50, 51, 52, 53] (.seq (.reg (.op 0 [] .nil)) (.seq (.cond .leaf .leaf) (.seq (.block (.seq (.reg (.op 0 [] (.op 1 [] (.op 2 [] (.op 3 [] .nil))))) (.cut [6] [4, 5, 6, 17, 18, 19, 20, 21, 22, 23, 24, 25, 26, 27, 28, 29, 30, 31, 32, 33, 34, 35, 36] (.block (.seq (.reg (.op 0 [] (.op 1 [] (.op 2 [] (.op 3 [] (.grp 3 (.op 4 [] (.op 5 [] (.op 6 [] (.op 7 [] (.op 8 [] .nil))))) 9 (.op 10 [] .nil))))))) (.cond (.seq (.reg (.op 0 [] (.op 1 [] .nil))) .leaf) (.seq (.reg (.op 0 [] (.op 1 [] (.op 2 [] (.op 3 [] .nil))))) (.cond (.reg (.op 0 [] (.op 1 [] (.op 2 [] (.op 3 [] (.op 4 [] (.op 5 [] .nil))))))) .leaf))))) (.seq (.reg (.op 0 [] (.op 1 [] (.op 2 [] .nil)))) (.block (.loop [6, 39] [6, 39, 40, 41, 42, 43, 44, 45, 46, 47, 48, 49, 50, 51, 52] (.seq (.reg (.op 0 [] .nil)) (.seq (.cond .leaf .leaf) (.seq (.block (.reg (.op 0 [] (.op 1 [] (.op 2 [] (.op 3 [] (.op 4 [] (.op 5 [] (.op 6 [] (.op 7 [] (.op 8 [] (.op 9 [] (.op 10 [] (.op 11 [] .nil)))))))))))))) (.reg (.op 0 [] (.op 1 [] .nil)))))))))))) (.reg (.op 0 [] (.op 1 [] .nil))))))))) (.seq (.reg (.op 0 [] (.op 1 [] (.op 2 [] (.op 3 [] (.op 4 [] (.op 5 [] (.op 6 [] .nil)))))))) .leaf))))
/-- lighter/lz.Expand -/
def lz_Expand.res (ahead0 : Value) (l1 : Value) (H0 : Heap) (R : Value → Heap → Prop) : Prop :=
 pBytes H0 5 ahead0 fun x10 H_1 =>
 pLen l1 fun x12 =>
 ∃ (I_2 : Value → Value → Heap → Prop) (m_3 : Value → Value → Heap → Nat), I_2 x10 (.int .i64 0) H_1 ∧
 ∀ _ : Env, ∀ b6 : Value, ∀ x13 : Value, ∀ H_4 : Heap, I_2 b6 x13 H_4 →
 pLt x13 x12 fun x14 =>
 pCond x14
 (pIdxSl 3 l1 x13 fun x15 =>
 pLoadN H_4 3 x15 fun x16 =>
 pBox H_4 47 (.agg #[(.int .u8 0), (.int .i64 0), (.int .i64 0)]) fun t8 H_5 =>
 pStoreN H_5 3 t8 x16 fun _ H_6 =>
 ∃ J_7 : Value → Heap → Prop, (∀ _ : Env, ∀ b6' : Value, ∀ H_8 : Heap, J_7 b6' H_8 →
 pFieldAddr 1 t8 fun x37 =>
 pLoad H_8 x37 fun x38 =>
 ∃ (I_9 : Value → Value → Heap → Prop) (m_10 : Value → Value → Heap → Nat), I_9 b6' (.int .i64 0) H_8 ∧
 ∀ _ : Env, ∀ b6'' : Value, ∀ x39 : Value, ∀ H_11 : Heap, I_9 b6'' x39 H_11 →
 pLt x39 x38 fun x40 =>
 pCond x40
 (pLen b6'' fun x44 =>
 pFieldAddr 2 t8 fun x45 =>
 pLoad H_11 x45 fun x46 =>
 pSub x44 x46 fun x47 =>
 pIdxSl 1 b6'' x47 fun x48 =>
 pLoad H_11 x48 fun x49 =>
 pBuildSl H_11 5 1 [(.int .u8 0)] [(0, 1, x49)] fun x50 H_12 =>
 pAppend H_12 5 1 1 [(.int .u8 0)] b6'' x50 fun x51 H_13 =>
 pAdd x39 (.int .i64 1) fun x52 =>
 I_9 x51 x52 H_13 ∧ m_10 x51 x52 H_13 < m_10 b6'' x39 H_11)
 (pAdd x13 (.int .i64 1) fun x53 =>
 I_2 b6'' x53 H_11 ∧ m_3 b6'' x53 H_11 < m_3 b6 x13 H_4)) ∧
 pLoadN H_6 3 t8 fun x18 =>
 CallsH Tryd.prog 32 #[x18] H_6 fun x19 H_14 =>
 pNot x19 fun x20 =>
 pOr x20 (fun J_15 =>
 pFieldAddr 2 t8 fun x22 =>
 pLoad H_14 x22 fun x23 =>
 pLen b6 fun x25 =>
 pGt x23 x25 fun x26 =>
 J_15 x26 H_14) H_14 fun x27 H_16 => ∀ _ : Env,
 pCond x27
 (R (.tuple #[(str []), (.bool false)]) H_16)
 (pFieldAddr 1 t8 fun x29 =>
 pLoad H_16 x29 fun x30 =>
 pEq 0 x30 (.int .i64 0) fun x31 =>
 pCond x31
 (pFieldAddr 0 t8 fun x33 =>
 pLoad H_16 x33 fun x34 =>
 pBuildSl H_16 5 1 [(.int .u8 0)] [(0, 1, x34)] fun x35 H_17 =>
 pAppend H_17 5 1 1 [(.int .u8 0)] b6 x35 fun x36 H_18 =>
 J_7 x36 H_18)
 (J_7 b6 H_16)))
 (pLenS ahead0 fun x56 =>
 pSlSl 1 b6 (some x56) none fun x57 =>
 pStrOf H_4 x57 fun x58 =>
 R (.tuple #[x58, (.bool true)]) H_4)
set_option maxRecDepth 100000 in
theorem lz_Expand.vc (ahead0 : Value) (l1 : Value) (H0 : Heap) (R : Value → Heap → Prop) (h : lz_Expand.res ahead0 l1 H0 R) : CallsH Tryd.prog 21 #[ahead0, l1] H0 R := by
  have e : vcFn Tryd.prog Tryd.C Tryd.f21 lz_Expand.an [ahead0, l1] H0 R = lz_Expand.res ahead0 l1 H0 R := by kernel_rfl
  exact vcFn_sound Tryd.callable Tryd.mixed Tryd.func21 (by kernel_rfl) (e.mpr h)

def lz_Token_Good.an : Ann := (.seq (.reg (.op 0 [] (.op 1 [] .nil))) (.seq (.seq (.reg (.op 0 [] (.op 1 [] (.op 2 [] .nil)))) (.cond (.seq (.reg (.op 0 [] (.op 1 [] (.op 2 [] (.op 3 [] .nil))))) .leaf) .leaf)) (.seq (.reg (.op 0 [] (.op 1 [] (.op 2 [] (.op 3 [] (.grp 3 (.op 4 [] (.op 5 [] (.op 6 [] .nil))) 7 (.op 8 [] (.grp 8 (.op 9 [] (.op 10 [] (.op 11 [] .nil))) 12 (.op 13 [] (.grp 13 (.op 14 [] (.op 15 [] (.op 16 [] .nil))) 17 (.op 18 [] (.grp 18 (.op 19 [] (.op 20 [] (.op 21 [] .nil))) 22 (.op 23 [] .nil))))))))))))) .leaf)))
/-- (lighter/lz.Token).Good -/
def lz_Token_Good.res (t0 : Value) (H0 : Heap) (R : Value → Heap → Prop) : Prop :=
 pBox H0 47 t0 fun t1 H_1 =>
 pFieldAddr 1 t1 fun x3 =>
 pLoad H_1 x3 fun x4 =>
 pEq 0 x4 (.int .i64 0) fun x5 =>
 pCond x5
 (pFieldAddr 2 t1 fun x6 =>
 pLoad H_1 x6 fun x7 =>
 pEq 0 x7 (.int .i64 0) fun x8 =>
 R x8 H_1)
 (pFieldAddr 0 t1 fun x9 =>
 pLoad H_1 x9 fun x10 =>
 pEq 0 x10 (.int .u8 0) fun x11 =>
 pAnd x11 (fun J_2 =>
 pFieldAddr 1 t1 fun x13 =>
 pLoad H_1 x13 fun x14 =>
 pGe x14 (.int .i64 3) fun x15 =>
 J_2 x15 H_1) H_1 fun x16 H_3 => ∀ _ : Env,
 pAnd x16 (fun J_4 =>
 pFieldAddr 1 t1 fun x18 =>
 pLoad H_3 x18 fun x19 =>
 pLe x19 (.int .i64 258) fun x20 =>
 J_4 x20 H_3) H_3 fun x21 H_5 => ∀ _ : Env,
 pAnd x21 (fun J_6 =>
 pFieldAddr 2 t1 fun x23 =>
 pLoad H_5 x23 fun x24 =>
 pGe x24 (.int .i64 1) fun x25 =>
 J_6 x25 H_5) H_5 fun x26 H_7 => ∀ _ : Env,
 pAnd x26 (fun J_8 =>
 pFieldAddr 2 t1 fun x28 =>
 pLoad H_7 x28 fun x29 =>
 pLe x29 (.int .i64 32768) fun x30 =>
 J_8 x30 H_7) H_7 fun x31 H_9 => ∀ _ : Env,
 R x31 H_9)
set_option maxRecDepth 100000 in
theorem lz_Token_Good.vc (t0 : Value) (H0 : Heap) (R : Value → Heap → Prop) (h : lz_Token_Good.res t0 H0 R) : CallsH Tryd.prog 32 #[t0] H0 R := by
  have e : vcFn Tryd.prog Tryd.C Tryd.f32 lz_Token_Good.an [t0] H0 R = lz_Token_Good.res t0 H0 R := by kernel_rfl
  exact vcFn_sound Tryd.callable Tryd.mixed Tryd.func32 (by kernel_rfl) (e.mpr h)

end Go.Proofs.YtfmbgnchedhneaaDoor
