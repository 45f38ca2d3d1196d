/- The residuals of functions, printed by resid.py. -/
import Derived.Test.YtpnkoniomalcpaaDoorVcSeat
namespace Go.Proofs.YtpnkoniomalcpaaDoor
open Go Go.Vc Go.Proofs
set_option linter.unusedVariables false
set_option maxHeartbeats 4000000
def lighterref05_Good.an : Ann := (.seq (.reg (.op 0 [] (.op 1 [] .nil))) (.seq (.seq (.reg (.op 0 [] (.op 1 [] (.op 2 [] .nil)))) (.cond (.seq (.reg (.op 0 [] (.op 1 [] (.op 2 [] (.op 3 [] .nil))))) .leaf) .leaf)) (.seq (.reg (.op 0 [] (.op 1 [] (.op 2 [] (.op 3 [] (.grp 3 (.op 4 [] (.op 5 [] (.op 6 [] .nil))) 7 (.op 8 [] (.grp 8 (.op 9 [] (.op 10 [] (.op 11 [] .nil))) 12 (.op 13 [] (.grp 13 (.op 14 [] (.op 15 [] (.op 16 [] .nil))) 17 (.op 18 [] (.grp 18 (.op 19 [] (.op 20 [] (.op 21 [] .nil))) 22 (.op 23 [] .nil))))))))))))) .leaf)))
/-- lighter/lighterref05.Good -/
def lighterref05_Good.res (t0 : Value) (H0 : Heap) (R : Value → Heap → Prop) : Prop :=
 pBox H0 44 t0 fun t1 H_1 =>
 pFieldAddr 1 t1 fun x3 =>
 pLoad H_1 x3 fun x4 =>
 pEq 0 x4 (.int .i64 0) fun x5 =>
 pCond x5
 (pFieldAddr 2 t1 fun x6 =>
 pLoad H_1 x6 fun x7 =>
 pEq 0 x7 (.int .i64 0) fun x8 =>
 R x8 H_1)
 (pFieldAddr 0 t1 fun x9 =>
 pLoad H_1 x9 fun x10 =>
 pEq 0 x10 (.int .u8 0) fun x11 =>
 pAnd x11 (fun J_2 =>
 pFieldAddr 1 t1 fun x13 =>
 pLoad H_1 x13 fun x14 =>
 pGe x14 (.int .i64 3) fun x15 =>
 J_2 x15 H_1) H_1 fun x16 H_3 => ∀ _ : Env,
 pAnd x16 (fun J_4 =>
 pFieldAddr 1 t1 fun x18 =>
 pLoad H_3 x18 fun x19 =>
 pLe x19 (.int .i64 258) fun x20 =>
 J_4 x20 H_3) H_3 fun x21 H_5 => ∀ _ : Env,
 pAnd x21 (fun J_6 =>
 pFieldAddr 2 t1 fun x23 =>
 pLoad H_5 x23 fun x24 =>
 pGe x24 (.int .i64 1) fun x25 =>
 J_6 x25 H_5) H_5 fun x26 H_7 => ∀ _ : Env,
 pAnd x26 (fun J_8 =>
 pFieldAddr 2 t1 fun x28 =>
 pLoad H_7 x28 fun x29 =>
 pLe x29 (.int .i64 32768) fun x30 =>
 J_8 x30 H_7) H_7 fun x31 H_9 => ∀ _ : Env,
 R x31 H_9)
set_option maxRecDepth 100000 in
theorem lighterref05_Good.vc (t0 : Value) (H0 : Heap) (R : Value → Heap → Prop) (h : lighterref05_Good.res t0 H0 R) : CallsH Tryd.prog 17 #[t0] H0 R := by
  have e : vcFn Tryd.prog Tryd.C Tryd.f17 lighterref05_Good.an [t0] H0 R = lighterref05_Good.res t0 H0 R := by kernel_rfl
  exact vcFn_sound Tryd.callable Tryd.mixed Tryd.func17 (by kernel_rfl) (e.mpr h)

def lighterref05_Find.an : Ann := (.seq (.reg (.op 0 [] .nil)) (.seq (.reg (.op 0 [] (.op 1 [] (.op 2 [] (.op 3 [] (.op 4 [] .nil)))))) (.seq (.seq (.reg (.op 0 [] .nil)) (.block (.loop [6] [6, 10, 11, 12, 13, 14, 15, 16, 17, 18, 19, 20, 21, 22, 23, 24, 25, 26] (.seq (.seq (.reg (.op 0 [] (.op 1 [] (.op 2 [] (.op 3 [] .nil))))) (.cond .leaf .leaf)) (.cut [] [16, 17, 18, 19, 20, 21, 22, 23, 24, 25, 26] (.block (.seq (.reg (.op 0 [] (.op 1 [] (.op 2 [] (.op 3 [] (.op 4 [] (.op 5 [] (.op 6 [] .nil)))))))) (.cond (.reg (.op 0 [] (.op 1 [] (.op 2 [] (.op 3 [] (.op 4 [] .nil)))))) .leaf))) (.reg (.op 0 [] (.op 1 [] (.op 2 [] .nil))))))))) (.seq (.reg (.op 0 [] (.op 1 [] .nil))) .leaf))))
/-- lighter/lighterref05.Find -/
def lighterref05_Find.res (l0 : Value) (n1 : Value) (H0 : Heap) (R : Value → Heap → Prop) : Prop :=
 pBox H0 50 (.agg #[(.int .i64 0), (.int .i64 0), (.int .i64 0)]) fun x4 H_1 =>
 pIdxSl 3 l0 (.int .i64 0) fun x8 =>
 pLoadN H_1 3 x8 fun x9 =>
 pBox H_1 50 (.agg #[(.int .i64 0), (.int .i64 0), (.int .i64 0)]) fun out5 H_2 =>
 pStoreN H_2 3 out5 x9 fun _ H_3 =>
 ∃ (I_4 : Value → Heap → Prop) (m_5 : Value → Heap → Nat), I_4 (.int .i64 0) H_3 ∧
 ∀ _ : Env, ∀ i6 : Value, ∀ H_6 : Heap, I_4 i6 H_6 →
 pLen l0 fun x12 =>
 pLt i6 x12 fun x13 =>
 pCond x13
 (∃ J_7 : Heap → Prop, (∀ _ : Env, ∀ H_8 : Heap, J_7 H_8 →
 pAdd i6 (.int .i64 1) fun x15 =>
 I_4 x15 H_8 ∧ m_5 x15 H_8 < m_5 i6 H_6) ∧
 pIdxSl 3 l0 i6 fun x18 =>
 pFieldAddr 1 x18 fun x19 =>
 pLoad H_6 x19 fun x20 =>
 pLe x20 n1 fun x22 =>
 pCond x22
 (pIdxSl 3 l0 i6 fun x25 =>
 pLoadN H_6 3 x25 fun x26 =>
 pStoreN H_6 3 out5 x26 fun _ H_9 =>
 J_7 H_9)
 (J_7 H_6))
 (pLoadN H_6 3 out5 fun x27 =>
 pStoreN H_6 3 x4 x27 fun _ H_10 =>
 pLoadN H_10 3 x4 fun r_11 =>
 R r_11 H_10)
set_option maxRecDepth 100000 in
theorem lighterref05_Find.vc (l0 : Value) (n1 : Value) (H0 : Heap) (R : Value → Heap → Prop) (h : lighterref05_Find.res l0 n1 H0 R) : CallsH Tryd.prog 19 #[l0, n1] H0 R := by
  have e : vcFn Tryd.prog Tryd.C Tryd.f19 lighterref05_Find.an [l0, n1] H0 R = lighterref05_Find.res l0 n1 H0 R := by kernel_rfl
  exact vcFn_sound Tryd.callable Tryd.mixed Tryd.func19 (by kernel_rfl) (e.mpr h)

def lighterref05_Lengths.an : Ann := (.seq (.reg (.op 0 [] .nil)) (.seq (.reg (.op 0 [] .nil)) (.seq (.seq (.reg (.op 0 [] .nil)) (.block (.loop [1, 2] [1, 2, 7, 8, 9, 10, 11, 12, 13, 14, 15, 16, 17, 18] (.seq (.seq (.reg (.op 0 [] (.op 1 [] .nil))) (.cond .leaf .leaf)) (.seq (.block (.reg (.op 0 [] (.op 1 [] (.op 2 [] (.op 3 [] (.op 4 [] (.op 5 [] (.op 6 [] (.op 7 [] (.op 8 [] .nil))))))))))) (.reg (.op 0 [] (.op 1 [] (.op 2 [] .nil))))))))) (.seq (.reg (.op 0 [] .nil)) (.seq (.reg (.op 0 [] .nil)) (.seq (.seq (.reg (.op 0 [] .nil)) (.block (.loop [1, 3, 4, 5] [1, 3, 4, 5, 6, 19, 20, 21, 22, 23, 24, 25, 26, 27, 28, 29, 30, 31, 32, 33, 34, 35, 36, 37, 38, 39, 40] (.seq (.seq (.reg (.op 0 [] (.op 1 [] .nil))) (.cond .leaf .leaf)) (.seq (.block (.seq (.seq (.reg (.op 0 [] .nil)) (.block (.loop [1, 3, 6] [1, 3, 6, 23, 24, 25, 26, 27, 28, 29, 30, 31, 32, 33, 34, 35, 36, 37, 38] (.seq (.seq (.reg (.op 0 [] (.op 1 [] .nil))) (.cond .leaf .leaf)) (.seq (.block (.seq (.reg (.op 0 [] (.op 1 [] (.op 2 [] (.op 3 [] (.op 4 [] (.op 5 [] (.op 6 [] (.op 7 [] (.op 8 [] (.op 9 [] .nil))))))))))) (.reg (.op 0 [] (.op 1 [] (.op 2 [] (.op 3 [] .nil))))))) (.reg (.op 0 [] (.op 1 [] (.op 2 [] .nil))))))))) (.reg (.op 0 [] (.op 1 [] (.op 2 [] .nil)))))) (.reg (.op 0 [] (.op 1 [] (.op 2 [] .nil))))))))) (.seq (.reg (.op 0 [] (.op 1 [] (.op 2 [] (.op 3 [] (.op 4 [] .nil)))))) .leaf)))))))
/-- lighter/lighterref05.Lengths -/
def lighterref05_Lengths.res (H0 : Heap) (R : Value → Heap → Prop) : Prop :=
 ∃ (I_1 : Value → Value → Heap → Prop) (m_2 : Value → Value → Heap → Nat), I_1 (.slice none 0 0) (.int .i64 0) H0 ∧
 ∀ _ : Env, ∀ out1 : Value, ∀ i2 : Value, ∀ H_3 : Heap, I_1 out1 i2 H_3 →
 pLt i2 (.int .i64 8) fun x8 =>
 pCond x8
 (pAdd (.int .i64 257) i2 fun x13 =>
 pAdd (.int .i64 3) i2 fun x15 =>
 pBuild [(.int .i64 0), (.int .i64 0), (.int .i64 0)] [(0, 1, x13), (1, 1, x15), (2, 1, (.int .i64 0))] fun x16 =>
 pBuildSl H_3 50 1 [(.int .i64 0), (.int .i64 0), (.int .i64 0)] [(0, 3, x16)] fun x17 H_4 =>
 pAppend H_4 50 3 24 [(.int .i64 0), (.int .i64 0), (.int .i64 0)] out1 x17 fun x18 H_5 =>
 pAdd i2 (.int .i64 1) fun x10 =>
 I_1 x18 x10 H_5 ∧ m_2 x18 x10 H_5 < m_2 out1 i2 H_3)
 (∃ (I_6 : Value → Value → Value → Value → Heap → Prop) (m_7 : Value → Value → Value → Value → Heap → Nat), I_6 out1 (.int .i64 11) (.int .i64 2) (.int .i64 1) H_3 ∧
 ∀ _ : Env, ∀ out1' : Value, ∀ at3 : Value, ∀ size4 : Value, ∀ e5 : Value, ∀ H_8 : Heap, I_6 out1' at3 size4 e5 H_8 →
 pLe e5 (.int .i64 5) fun x20 =>
 pCond x20
 (∃ (I_9 : Value → Value → Value → Heap → Prop) (m_10 : Value → Value → Value → Heap → Nat), I_9 out1' at3 (.int .i64 0) H_8 ∧
 ∀ _ : Env, ∀ out1'' : Value, ∀ at3' : Value, ∀ i6 : Value, ∀ H_11 : Heap, I_9 out1'' at3' i6 H_11 →
 pLt i6 (.int .i64 4) fun x24 =>
 pCond x24
 (pLen out1'' fun x29 =>
 pAdd (.int .i64 257) x29 fun x30 =>
 pBuild [(.int .i64 0), (.int .i64 0), (.int .i64 0)] [(0, 1, x30), (1, 1, at3'), (2, 1, e5)] fun x33 =>
 pBuildSl H_11 50 1 [(.int .i64 0), (.int .i64 0), (.int .i64 0)] [(0, 3, x33)] fun x34 H_12 =>
 pAppend H_12 50 3 24 [(.int .i64 0), (.int .i64 0), (.int .i64 0)] out1'' x34 fun x35 H_13 =>
 pAdd at3' size4 fun x38 =>
 pAdd i6 (.int .i64 1) fun x26 =>
 I_9 x35 x38 x26 H_13 ∧ m_10 x35 x38 x26 H_13 < m_10 out1'' at3' i6 H_11)
 (pMul size4 (.int .i64 2) fun x40 =>
 pAdd e5 (.int .i64 1) fun x22 =>
 I_6 out1'' at3' x40 x22 H_11 ∧ m_7 out1'' at3' x40 x22 H_11 < m_7 out1' at3 size4 e5 H_8))
 (pBuild [(.int .i64 0), (.int .i64 0), (.int .i64 0)] [(0, 1, (.int .i64 285)), (1, 1, (.int .i64 258)), (2, 1, (.int .i64 0))] fun x42 =>
 pBuildSl H_8 50 1 [(.int .i64 0), (.int .i64 0), (.int .i64 0)] [(0, 3, x42)] fun x43 H_14 =>
 pAppend H_14 50 3 24 [(.int .i64 0), (.int .i64 0), (.int .i64 0)] out1' x43 fun x44 H_15 =>
 R x44 H_15))
set_option maxRecDepth 100000 in
theorem lighterref05_Lengths.vc (H0 : Heap) (R : Value → Heap → Prop) (h : lighterref05_Lengths.res H0 R) : CallsH Tryd.prog 20 #[] H0 R := by
  have e : vcFn Tryd.prog Tryd.C Tryd.f20 lighterref05_Lengths.an [] H0 R = lighterref05_Lengths.res H0 R := by kernel_rfl
  exact vcFn_sound Tryd.callable Tryd.mixed Tryd.func20 (by kernel_rfl) (e.mpr h)

def lighterref05_Dists.an : Ann := (.seq (.reg (.op 0 [] .nil)) (.seq (.reg (.op 0 [] (.op 1 [] (.op 2 [] (.op 3 [] (.op 4 [] (.op 5 [] .nil))))))) (.seq (.reg (.op 0 [] .nil)) (.seq (.reg (.op 0 [] .nil)) (.seq (.seq (.reg (.op 0 [] .nil)) (.block (.loop [1, 2, 3, 4] [1, 2, 3, 4, 5, 11, 12, 13, 14, 15, 16, 17, 18, 19, 20, 21, 22, 23, 24, 25, 26, 27, 28, 29, 30, 31] (.seq (.seq (.reg (.op 0 [] (.op 1 [] .nil))) (.cond .leaf .leaf)) (.seq (.block (.seq (.seq (.reg (.op 0 [] .nil)) (.block (.loop [1, 2, 5] [1, 2, 5, 15, 16, 17, 18, 19, 20, 21, 22, 23, 24, 25, 26, 27, 28, 29] (.seq (.seq (.reg (.op 0 [] (.op 1 [] .nil))) (.cond .leaf .leaf)) (.seq (.block (.seq (.reg (.op 0 [] (.op 1 [] (.op 2 [] (.op 3 [] (.op 4 [] (.op 5 [] (.op 6 [] (.op 7 [] (.op 8 [] .nil)))))))))) (.reg (.op 0 [] (.op 1 [] (.op 2 [] (.op 3 [] .nil))))))) (.reg (.op 0 [] (.op 1 [] (.op 2 [] .nil))))))))) (.reg (.op 0 [] (.op 1 [] (.op 2 [] .nil)))))) (.reg (.op 0 [] (.op 1 [] (.op 2 [] .nil))))))))) (.seq (.reg (.op 0 [] (.op 1 [] .nil))) .leaf))))))
/-- lighter/lighterref05.Dists -/
def lighterref05_Dists.res (H0 : Heap) (R : Value → Heap → Prop) : Prop :=
 pBuild [(.int .i64 0), (.int .i64 0), (.int .i64 0)] [(0, 1, (.int .i64 0)), (1, 1, (.int .i64 1)), (2, 1, (.int .i64 0))] fun x6 =>
 pBuild [(.int .i64 0), (.int .i64 0), (.int .i64 0)] [(0, 1, (.int .i64 1)), (1, 1, (.int .i64 2)), (2, 1, (.int .i64 0))] fun x7 =>
 pBuild [(.int .i64 0), (.int .i64 0), (.int .i64 0)] [(0, 1, (.int .i64 2)), (1, 1, (.int .i64 3)), (2, 1, (.int .i64 0))] fun x8 =>
 pBuild [(.int .i64 0), (.int .i64 0), (.int .i64 0)] [(0, 1, (.int .i64 3)), (1, 1, (.int .i64 4)), (2, 1, (.int .i64 0))] fun x9 =>
 pBuildSl H0 50 4 [(.int .i64 0), (.int .i64 0), (.int .i64 0), (.int .i64 0), (.int .i64 0), (.int .i64 0), (.int .i64 0), (.int .i64 0), (.int .i64 0), (.int .i64 0), (.int .i64 0), (.int .i64 0)] [(0, 3, x6), (3, 3, x7), (6, 3, x8), (9, 3, x9)] fun x10 H_1 =>
 ∃ (I_2 : Value → Value → Value → Value → Heap → Prop) (m_3 : Value → Value → Value → Value → Heap → Nat), I_2 x10 (.int .i64 5) (.int .i64 2) (.int .i64 1) H_1 ∧
 ∀ _ : Env, ∀ out1 : Value, ∀ at2 : Value, ∀ size3 : Value, ∀ e4 : Value, ∀ H_4 : Heap, I_2 out1 at2 size3 e4 H_4 →
 pLe e4 (.int .i64 13) fun x12 =>
 pCond x12
 (∃ (I_5 : Value → Value → Value → Heap → Prop) (m_6 : Value → Value → Value → Heap → Nat), I_5 out1 at2 (.int .i64 0) H_4 ∧
 ∀ _ : Env, ∀ out1' : Value, ∀ at2' : Value, ∀ i5 : Value, ∀ H_7 : Heap, I_5 out1' at2' i5 H_7 →
 pLt i5 (.int .i64 2) fun x16 =>
 pCond x16
 (pLen out1' fun x21 =>
 pBuild [(.int .i64 0), (.int .i64 0), (.int .i64 0)] [(0, 1, x21), (1, 1, at2'), (2, 1, e4)] fun x24 =>
 pBuildSl H_7 50 1 [(.int .i64 0), (.int .i64 0), (.int .i64 0)] [(0, 3, x24)] fun x25 H_8 =>
 pAppend H_8 50 3 24 [(.int .i64 0), (.int .i64 0), (.int .i64 0)] out1' x25 fun x26 H_9 =>
 pAdd at2' size3 fun x29 =>
 pAdd i5 (.int .i64 1) fun x18 =>
 I_5 x26 x29 x18 H_9 ∧ m_6 x26 x29 x18 H_9 < m_6 out1' at2' i5 H_7)
 (pMul size3 (.int .i64 2) fun x31 =>
 pAdd e4 (.int .i64 1) fun x14 =>
 I_2 out1' at2' x31 x14 H_7 ∧ m_3 out1' at2' x31 x14 H_7 < m_3 out1 at2 size3 e4 H_4))
 (R out1 H_4)
set_option maxRecDepth 100000 in
theorem lighterref05_Dists.vc (H0 : Heap) (R : Value → Heap → Prop) (h : lighterref05_Dists.res H0 R) : CallsH Tryd.prog 21 #[] H0 R := by
  have e : vcFn Tryd.prog Tryd.C Tryd.f21 lighterref05_Dists.an [] H0 R = lighterref05_Dists.res H0 R := by kernel_rfl
  exact vcFn_sound Tryd.callable Tryd.mixed Tryd.func21 (by kernel_rfl) (e.mpr h)

def lighterref05_Expand.an : Ann := (.seq (.reg (.op 0 [] (.op 1 [] .nil))) (.seq (.reg (.op 0 [] (.op 1 [] .nil))) (.seq (.seq (.reg (.op 0 [] .nil)) (.block (.loop [6, 7] [4, 5, 6, 7, 8, 9, 11, 12, 13, 14, 15, 16, 17, 18, 19, 20, 21, 22, 23, 24, 25, 26, 27, 28, 29, 30, 31, 32, 33, 34, 35, 36, 37, 38, 39, 40, 41, 42, 43, 44, 45, 46, 47, 48, 49, 50, 51, 52, 53, 54, 55, 56, 57, 58, 59, 60] (.seq (.seq (.reg (.op 0 [] (.op 1 [] (.op 2 [] (.op 3 [] .nil))))) (.cond .leaf .leaf)) (.seq (.block (.seq (.reg (.op 0 [] (.op 1 [] (.op 2 [] (.op 3 [] (.op 4 [] (.op 5 [] .nil))))))) (.seq (.seq (.reg (.op 0 [] (.op 1 [] (.op 2 [] (.op 3 [] (.grp 3 (.op 4 [] (.op 5 [] (.op 6 [] (.op 7 [] (.op 8 [] .nil))))) 9 .nil)))))) (.cond (.seq (.reg (.op 0 [] (.op 1 [] .nil))) .leaf) .leaf)) (.cut [6] [6, 31, 32, 33, 34, 35, 36, 37, 38, 39] (.seq (.reg (.op 0 [] (.op 1 [] (.op 2 [] .nil)))) (.cond (.reg (.op 0 [] (.op 1 [] (.op 2 [] (.op 3 [] (.op 4 [] (.op 5 [] (.op 6 [] .nil)))))))) .leaf)) (.seq (.reg (.op 0 [] .nil)) (.block (.loop [6, 9] [6, 9, 40, 41, 42, 43, 44, 45, 46, 47, 48, 49, 50, 51, 52, 53, 54, 55, 56, 57, 58, 59, 60] (.seq (.seq (.reg (.op 0 [] (.op 1 [] (.op 2 [] (.op 3 [] .nil))))) (.cond .leaf .leaf)) (.seq (.block (.reg (.op 0 [] (.op 1 [] (.op 2 [] (.op 3 [] (.op 4 [] (.op 5 [] (.op 6 [] (.op 7 [] (.op 8 [] (.op 9 [] (.op 10 [] (.op 11 [] (.op 12 [] (.op 13 [] (.op 14 [] (.op 15 [] .nil)))))))))))))))))) (.reg (.op 0 [] (.op 1 [] (.op 2 [] .nil))))))))))))) (.reg (.op 0 [] (.op 1 [] (.op 2 [] .nil))))))))) (.seq (.reg (.op 0 [] (.op 1 [] (.op 2 [] (.op 3 [] (.op 4 [] (.op 5 [] .nil))))))) .leaf))))
/-- lighter/lighterref05.Expand -/
def lighterref05_Expand.res (ahead0 : Value) (l1 : Value) (H0 : Heap) (R : Value → Heap → Prop) : Prop :=
 ∃ (I_1 : Value → Value → Heap → Prop) (m_2 : Value → Value → Heap → Nat), I_1 ahead0 (.int .i64 0) H0 ∧
 ∀ _ : Env, ∀ s6 : Value, ∀ i7 : Value, ∀ H_3 : Heap, I_1 s6 i7 H_3 →
 pLen l1 fun x13 =>
 pLt i7 x13 fun x14 =>
 pCond x14
 (pIdxSl 3 l1 i7 fun x19 =>
 pLoadN H_3 3 x19 fun x20 =>
 pBox H_3 44 (.agg #[(.int .u8 0), (.int .i64 0), (.int .i64 0)]) fun t8 H_4 =>
 pStoreN H_4 3 t8 x20 fun _ H_5 =>
 pLoadN H_5 3 t8 fun x21 =>
 CallsH Tryd.prog 17 #[x21] H_5 fun x22 H_6 =>
 pNot x22 fun x23 =>
 pOr x23 (fun J_7 =>
 pFieldAddr 2 t8 fun x25 =>
 pLoad H_6 x25 fun x26 =>
 pLenS s6 fun x28 =>
 pGt x26 x28 fun x29 =>
 J_7 x29 H_6) H_6 fun x30 H_8 => ∀ _ : Env,
 pCond x30
 (R (.tuple #[(str []), (.bool false)]) H_8)
 (∃ J_9 : Value → Heap → Prop, (∀ _ : Env, ∀ s6' : Value, ∀ H_10 : Heap, J_9 s6' H_10 →
 ∃ (I_11 : Value → Value → Heap → Prop) (m_12 : Value → Value → Heap → Nat), I_11 s6' (.int .i64 0) H_10 ∧
 ∀ _ : Env, ∀ s6'' : Value, ∀ k9 : Value, ∀ H_13 : Heap, I_11 s6'' k9 H_13 →
 pFieldAddr 1 t8 fun x41 =>
 pLoad H_13 x41 fun x42 =>
 pLt k9 x42 fun x43 =>
 pCond x43
 (pLenS s6'' fun x49 =>
 pFieldAddr 2 t8 fun x50 =>
 pLoad H_13 x50 fun x51 =>
 pSub x49 x51 fun x52 =>
 pLenS s6'' fun x54 =>
 pFieldAddr 2 t8 fun x55 =>
 pLoad H_13 x55 fun x56 =>
 pSub x54 x56 fun x57 =>
 pAdd x57 (.int .i64 1) fun x58 =>
 pSlStr s6'' (some x52) (some x58) fun x59 =>
 pAdd s6'' x59 fun x60 =>
 pAdd k9 (.int .i64 1) fun x45 =>
 I_11 x60 x45 H_13 ∧ m_12 x60 x45 H_13 < m_12 s6'' k9 H_13)
 (pAdd i7 (.int .i64 1) fun x16 =>
 I_1 s6'' x16 H_13 ∧ m_2 s6'' x16 H_13 < m_2 s6 i7 H_3)) ∧
 pFieldAddr 1 t8 fun x31 =>
 pLoad H_8 x31 fun x32 =>
 pEq 0 x32 (.int .i64 0) fun x33 =>
 pCond x33
 (pFieldAddr 0 t8 fun x35 =>
 pLoad H_8 x35 fun x36 =>
 pBuildSl H_8 5 1 [(.int .u8 0)] [(0, 1, x36)] fun x37 H_14 =>
 pStrOf H_14 x37 fun x38 =>
 pAdd s6 x38 fun x39 =>
 J_9 x39 H_14)
 (J_9 s6 H_8)))
 (pLenS ahead0 fun x63 =>
 pSlStr s6 (some x63) none fun x64 =>
 R (.tuple #[x64, (.bool true)]) H_3)
set_option maxRecDepth 100000 in
theorem lighterref05_Expand.vc (ahead0 : Value) (l1 : Value) (H0 : Heap) (R : Value → Heap → Prop) (h : lighterref05_Expand.res ahead0 l1 H0 R) : CallsH Tryd.prog 25 #[ahead0, l1] H0 R := by
  have e : vcFn Tryd.prog Tryd.C Tryd.f25 lighterref05_Expand.an [ahead0, l1] H0 R = lighterref05_Expand.res ahead0 l1 H0 R := by kernel_rfl
  exact vcFn_sound Tryd.callable Tryd.mixed Tryd.func25 (by kernel_rfl) (e.mpr h)

def strings_Builder_Reset.an : Ann := (.seq (.reg (.op 0 [] (.op 1 [] (.op 2 [] (.op 3 [] .nil))))) (.reg (.op 0 [] (.op 1 [] (.op 2 [] (.op 3 [] .nil))))))
/-- (*strings.Builder).Reset -/
def strings_Builder_Reset.res (b0 : Value) (H0 : Heap) (R : Value → Heap → Prop) : Prop :=
 pNil b0 fun x3 =>
 pFieldAddr 0 x3 fun x4 =>
 pStore H0 x4 (.pointer none) fun _ H_1 =>
 pNil b0 fun x6 =>
 pFieldAddr 1 x6 fun x7 =>
 pStore H_1 x7 (.slice none 0 0) fun _ H_2 =>
 R (.tuple #[]) H_2
set_option maxRecDepth 100000 in
theorem strings_Builder_Reset.vc (b0 : Value) (H0 : Heap) (R : Value → Heap → Prop) (h : strings_Builder_Reset.res b0 H0 R) : CallsH Tryd.prog 30 #[b0] H0 R := by
  have e : vcFn Tryd.prog Tryd.C Tryd.f30 strings_Builder_Reset.an [b0] H0 R = strings_Builder_Reset.res b0 H0 R := by kernel_rfl
  exact vcFn_sound Tryd.callable Tryd.mixed Tryd.func30 (by kernel_rfl) (e.mpr h)

def strings_Builder_WriteString.an : Ann := (.seq (.reg (.op 0 [] (.op 1 [] .nil))) (.seq (.reg (.op 0 [] (.op 1 [] .nil))) (.seq (.reg (.op 0 [] (.op 1 [] (.op 2 [] (.op 3 [] (.op 4 [] (.op 5 [] (.op 6 [] (.op 7 [] (.op 8 [] (.op 9 [] .nil))))))))))) (.seq (.reg (.op 0 [] (.op 1 [] (.op 2 [] (.op 3 [] .nil))))) .leaf))))
/-- (*strings.Builder).WriteString -/
def strings_Builder_WriteString.res (b0 : Value) (s1 : Value) (H0 : Heap) (R : Value → Heap → Prop) : Prop :=
 CallsH Tryd.prog 66 #[b0] H0 fun x7 H_1 =>
 pNil b0 fun x10 =>
 pFieldAddr 1 x10 fun x11 =>
 pLoad H_1 x11 fun x12 =>
 pAppend H_1 5 1 1 [(.int .u8 0)] x12 s1 fun x14 H_2 =>
 pNil b0 fun x15 =>
 pFieldAddr 1 x15 fun x16 =>
 pStore H_2 x16 x14 fun _ H_3 =>
 pLenS s1 fun x18 =>
 R (.tuple #[x18, .nilIface]) H_3
set_option maxRecDepth 100000 in
theorem strings_Builder_WriteString.vc (b0 : Value) (s1 : Value) (H0 : Heap) (R : Value → Heap → Prop) (h : strings_Builder_WriteString.res b0 s1 H0 R) : CallsH Tryd.prog 51 #[b0, s1] H0 R := by
  have e : vcFn Tryd.prog Tryd.C Tryd.f51 strings_Builder_WriteString.an [b0, s1] H0 R = strings_Builder_WriteString.res b0 s1 H0 R := by kernel_rfl
  exact vcFn_sound Tryd.callable Tryd.mixed Tryd.func51 (by kernel_rfl) (e.mpr h)

def strings_Builder_WriteByte.an : Ann := (.seq (.reg (.op 0 [] .nil)) (.seq (.reg (.op 0 [] (.op 1 [] .nil))) (.seq (.reg (.op 0 [] (.op 1 [] (.op 2 [] (.op 3 [] (.op 4 [] (.op 5 [] (.op 6 [] (.op 7 [] (.op 8 [] (.op 9 [] (.op 10 [] .nil)))))))))))) (.seq (.reg (.op 0 [] .nil)) .leaf))))
/-- (*strings.Builder).WriteByte -/
def strings_Builder_WriteByte.res (b0 : Value) (c1 : Value) (H0 : Heap) (R : Value → Heap → Prop) : Prop :=
 CallsH Tryd.prog 66 #[b0] H0 fun x6 H_1 =>
 pNil b0 fun x9 =>
 pFieldAddr 1 x9 fun x10 =>
 pLoad H_1 x10 fun x11 =>
 pBuildSl H_1 5 1 [(.int .u8 0)] [(0, 1, c1)] fun x13 H_2 =>
 pAppend H_2 5 1 1 [(.int .u8 0)] x11 x13 fun x14 H_3 =>
 pNil b0 fun x15 =>
 pFieldAddr 1 x15 fun x16 =>
 pStore H_3 x16 x14 fun _ H_4 =>
 R .nilIface H_4
set_option maxRecDepth 100000 in
theorem strings_Builder_WriteByte.vc (b0 : Value) (c1 : Value) (H0 : Heap) (R : Value → Heap → Prop) (h : strings_Builder_WriteByte.res b0 c1 H0 R) : CallsH Tryd.prog 56 #[b0, c1] H0 R := by
  have e : vcFn Tryd.prog Tryd.C Tryd.f56 strings_Builder_WriteByte.an [b0, c1] H0 R = strings_Builder_WriteByte.res b0 c1 H0 R := by kernel_rfl
  exact vcFn_sound Tryd.callable Tryd.mixed Tryd.func56 (by kernel_rfl) (e.mpr h)

def lighterref07_Read.an : Ann := (.seq (.reg (.op 0 [] (.op 1 [] (.op 2 [] .nil)))) (.seq (.reg (.op 0 [] (.op 1 [] (.op 2 [] (.op 3 [] (.op 4 [] (.op 5 [] (.op 6 [] (.op 7 [] (.op 8 [] .nil)))))))))) (.seq (.reg (.op 0 [] (.op 1 [] (.op 2 [] (.op 3 [] (.op 4 [] (.op 5 [] (.op 6 [] .nil)))))))) .leaf)))
/-- lighter/lighterref07.Read -/
def lighterref07_Read.res (s0 : Value) (H0 : Heap) (R : Value → Heap → Prop) : Prop :=
 CallsH Tryd.prog 45 #[s0] H0 fun x10 H_1 =>
 pExtract 0 x10 fun x11 =>
 pExtract 1 x10 fun x12 =>
 pExtract 2 x10 fun x13 =>
 pStrOf H_1 x11 fun x15 =>
 R (.tuple #[x15, x12, x13]) H_1
set_option maxRecDepth 100000 in
theorem lighterref07_Read.vc (s0 : Value) (H0 : Heap) (R : Value → Heap → Prop) (h : lighterref07_Read.res s0 H0 R) : CallsH Tryd.prog 35 #[s0] H0 R := by
  have e : vcFn Tryd.prog Tryd.C Tryd.f35 lighterref07_Read.an [s0] H0 R = lighterref07_Read.res s0 H0 R := by kernel_rfl
  exact vcFn_sound Tryd.callable Tryd.mixed Tryd.func35 (by kernel_rfl) (e.mpr h)

def lighterref07_read.an : Ann := (.seq (.reg (.op 0 [] (.op 1 [] (.op 2 [] .nil)))) (.seq (.reg (.op 0 [] (.op 1 [] (.op 2 [] .nil)))) (.seq (.reg (.op 0 [] .nil)) (.seq (.reg (.op 0 [] .nil)) (.block (.loop [6, 7] [2, 3, 4, 6, 7, 8, 9, 10, 11, 12, 13, 14, 17, 18, 19, 20, 21, 22, 23, 24, 25, 26, 27, 28, 29, 30, 31, 32, 33, 34, 35, 36, 37, 38, 39, 40, 41, 42, 43, 44, 45, 46, 47, 48, 49, 50, 51, 52, 53, 54, 55, 56, 57, 58, 59, 60, 61, 62, 63, 64, 65, 66, 67, 68, 69, 70, 71, 72, 73, 74, 75, 76, 77, 78, 79, 80, 81, 82, 83, 84, 85, 86, 87, 88, 89, 90, 91, 92, 93, 94, 95, 96, 97, 98] (.block (.seq (.seq (.reg (.op 0 [] (.op 1 [] (.op 2 [] (.op 3 [] (.op 4 [] .nil)))))) (.cond (.seq (.reg (.op 0 [] (.op 1 [] (.op 2 [] (.op 3 [] .nil))))) .leaf) .leaf)) (.seq (.drw [0, 0, 3, 7, 15, 0, 0, 64, 224, 480, 0, 0, 2048, 7168, 15360, 31744, 65504, 31, 262143] (.op 0 [] (.op 1 [] (.op 2 [] (.op 3 [] (.op 4 [] (.op 5 [] (.op 6 [] (.op 7 [] (.op 8 [] (.op 9 [] (.op 10 [] (.op 11 [] (.op 12 [] (.op 13 [] (.op 14 [] (.op 15 [] (.op 16 [] (.op 17 [] (.op 18 [] .nil)))))))))))))))))))) (.seq (.reg (.op 0 [] (.op 1 [] (.op 2 [] .nil)))) (.seq (.reg (.op 0 [] .nil)) (.cut [6, 7, 10] [2, 3, 4, 6, 7, 10, 11, 12, 13, 14, 42, 43, 44, 45, 46, 47, 48, 49, 50, 51, 52, 53, 54, 55, 56, 57, 58, 59, 60, 61, 62, 63, 64, 65, 66, 67, 68, 69, 70, 71, 72, 73, 74, 75, 76, 77, 78, 79, 80, 81, 82, 83, 84, 85, 86, 87, 88, 89, 90, 91] (.seq (.reg (.op 0 [] .nil)) (.block (.seq (.reg (.op 0 [] (.op 1 [] .nil))) (.cond (.reg (.op 0 [] (.op 1 [] (.op 2 [] (.op 3 [] (.op 4 [] (.op 5 [] (.op 6 [] (.op 7 [] (.op 8 [] (.op 9 [] (.op 10 [] .nil)))))))))))) (.seq (.reg (.op 0 [] (.op 1 [] .nil))) (.cond (.seq (.reg (.op 0 [] (.op 1 [] (.op 2 [] (.op 3 [] (.op 4 [] (.op 5 [] .nil))))))) (.reg (.op 0 [] (.op 1 [] (.op 2 [] (.op 3 [] (.op 4 [] (.op 5 [] (.op 6 [] (.op 7 [] (.op 8 [] (.op 9 [] (.op 10 [] (.op 11 [] (.op 12 [] .nil))))))))))))))) (.seq (.reg (.op 0 [] (.op 1 [] .nil))) (.cond (.seq (.reg (.op 0 [] (.op 1 [] .nil))) (.seq (.reg (.op 0 [] (.op 1 [] (.op 2 [] (.op 3 [] (.op 4 [] (.op 5 [] (.op 6 [] (.op 7 [] (.op 8 [] (.op 9 [] (.op 10 [] (.op 11 [] .nil))))))))))))) (.seq (.reg (.op 0 [] (.op 1 [] .nil))) (.cond (.reg (.op 0 [] (.op 1 [] (.op 2 [] (.op 3 [] (.op 4 [] (.op 5 [] (.op 6 [] (.op 7 [] (.op 8 [] (.op 9 [] (.op 10 [] (.op 11 [] (.op 12 [] .nil)))))))))))))) .leaf)))) (.seq (.reg (.op 0 [] (.op 1 [] (.op 2 [] (.op 3 [] .nil))))) .leaf))))))))) (.seq (.seq (.reg (.op 0 [] (.op 1 [] .nil))) (.cond (.seq (.reg (.op 0 [] (.op 1 [] (.op 2 [] (.op 3 [] (.op 4 [] .nil)))))) .leaf) .leaf)) (.seq (.reg (.op 0 [] .nil)) (.cond (.seq (.reg (.op 0 [] (.op 1 [] (.op 2 [] (.op 3 [] (.op 4 [] .nil)))))) .leaf) .leaf)))))))))))))))
/-- lighter/lighterref07.read -/
def lighterref07_read.res (s0 : Value) (H0 : Heap) (R : Value → Heap → Prop) : Prop :=
 CallsH Tryd.prog 57 #[s0] H0 fun x16 H_1 =>
 ∃ (I_2 : Value → Value → Heap → Prop) (m_3 : Value → Value → Heap → Nat), I_2 (.slice none 0 0) (.int .i64 0) H_1 ∧
 ∀ _ : Env, ∀ out6 : Value, ∀ at7 : Value, ∀ H_4 : Heap, I_2 out6 at7 H_4 →
 pAdd at7 (.int .i64 3) fun x18 =>
 pLen x16 fun x20 =>
 pGt x18 x20 fun x21 =>
 pCond x21
 (R (.tuple #[out6, (.int .i64 0), (.int .i64 2)]) H_4)
 (pIdxSl 1 x16 at7 fun x25 =>
 pLoad H_4 x25 fun x26 =>
 pEq 0 x26 (.int .i64 1) fun x27 =>
 pAdd at7 (.int .i64 1) fun x30 =>
 pIdxSl 1 x16 x30 fun x31 =>
 pLoad H_4 x31 fun x32 =>
 pAdd at7 (.int .i64 2) fun x35 =>
 pIdxSl 1 x16 x35 fun x36 =>
 pLoad H_4 x36 fun x37 =>
 pMul (.int .i64 2) x37 fun x38 =>
 pAdd x32 x38 fun x39 =>
 pAdd at7 (.int .i64 3) fun x41 =>
 ∃ J_5 : Value → Value → Value → Heap → Prop, (∀ _ : Env, ∀ out6' : Value, ∀ at7' : Value, ∀ e10 : Value, ∀ H_6 : Heap, J_5 out6' at7' e10 H_6 →
 pNe 0 e10 (.int .i64 0) fun x93 =>
 pCond x93
 (R (.tuple #[out6', (.int .i64 0), e10]) H_6)
 (pCond x27
 (R (.tuple #[out6', at7', (.int .i64 0)]) H_6)
 (I_2 out6' at7' H_6 ∧ m_3 out6' at7' H_6 < m_3 out6 at7 H_4))) ∧
 pEq 0 x39 (.int .i64 0) fun x45 =>
 pCond x45
 (CallsH Tryd.prog 58 #[s0, x41, out6] H_4 fun x50 H_7 =>
 pExtract 0 x50 fun x51 =>
 pExtract 1 x50 fun x52 =>
 pExtract 2 x50 fun x53 =>
 J_5 x51 x52 x53 H_7)
 (pEq 0 x39 (.int .i64 1) fun x55 =>
 pCond x55
 (CallsH Tryd.prog 59 #[] H_4 fun x57 H_8 =>
 pExtract 0 x57 fun x58 =>
 pExtract 1 x57 fun x59 =>
 CallsH Tryd.prog 60 #[x16, x41, out6, x58, x59] H_8 fun x66 H_9 =>
 pExtract 0 x66 fun x67 =>
 pExtract 1 x66 fun x68 =>
 pExtract 2 x66 fun x69 =>
 J_5 x67 x68 x69 H_9)
 (pEq 0 x39 (.int .i64 2) fun x71 =>
 pCond x71
 (CallsH Tryd.prog 61 #[x16, x41] H_4 fun x75 H_10 =>
 pExtract 0 x75 fun x76 =>
 pExtract 1 x75 fun x77 =>
 pExtract 2 x75 fun x78 =>
 pExtract 3 x75 fun x79 =>
 pEq 0 x79 (.int .i64 0) fun x81 =>
 pCond x81
 (CallsH Tryd.prog 60 #[x16, x78, out6, x76, x77] H_10 fun x88 H_11 =>
 pExtract 0 x88 fun x89 =>
 pExtract 1 x88 fun x90 =>
 pExtract 2 x88 fun x91 =>
 J_5 x89 x90 x91 H_11)
 (J_5 out6 x78 x79 H_10))
 (R (.tuple #[out6, (.int .i64 0), (.int .i64 3)]) H_4))))
set_option maxRecDepth 100000 in
theorem lighterref07_read.vc (s0 : Value) (H0 : Heap) (R : Value → Heap → Prop) (h : lighterref07_read.res s0 H0 R) : CallsH Tryd.prog 45 #[s0] H0 R := by
  have e : vcFn Tryd.prog Tryd.C Tryd.f45 lighterref07_read.an [s0] H0 R = lighterref07_read.res s0 H0 R := by kernel_rfl
  exact vcFn_sound Tryd.callable Tryd.mixed Tryd.func45 (by kernel_rfl) (e.mpr h)

def lighterref07_plain.an : Ann := (.seq (.reg (.op 0 [] (.op 1 [] (.op 2 [] .nil)))) (.seq (.reg (.op 0 [] (.op 1 [] (.op 2 [] (.op 3 [] .nil))))) (.seq (.seq (.reg (.op 0 [] (.op 1 [] (.op 2 [] (.op 3 [] (.op 4 [] .nil)))))) (.cond (.seq (.reg (.op 0 [] (.op 1 [] (.op 2 [] (.op 3 [] .nil))))) .leaf) .leaf)) (.seq (.reg (.op 0 [] (.op 1 [] (.op 2 [] (.op 3 [] (.op 4 [] (.op 5 [] (.op 6 [] (.op 7 [] .nil))))))))) (.seq (.seq (.reg (.op 0 [] (.op 1 [] (.op 2 [] (.op 3 [] (.op 4 [] (.op 5 [] (.op 6 [] (.op 7 [] (.op 8 [] (.op 9 [] (.op 10 [] .nil)))))))))))) (.cond (.seq (.reg (.op 0 [] (.op 1 [] (.op 2 [] (.op 3 [] .nil))))) .leaf) .leaf)) (.seq (.seq (.reg (.op 0 [] (.op 1 [] (.op 2 [] (.op 3 [] (.op 4 [] (.op 5 [] (.op 6 [] .nil)))))))) (.cond (.seq (.reg (.op 0 [] (.op 1 [] (.op 2 [] (.op 3 [] (.op 4 [] (.op 5 [] (.op 6 [] (.op 7 [] (.op 8 [] .nil)))))))))) .leaf) .leaf)) (.seq (.reg (.op 0 [] (.op 1 [] (.op 2 [] (.op 3 [] (.op 4 [] (.op 5 [] (.op 6 [] (.op 7 [] (.op 8 [] (.op 9 [] (.op 10 [] (.op 11 [] (.op 12 [] (.op 13 [] (.op 14 [] (.op 15 [] (.op 16 [] (.op 17 [] .nil))))))))))))))))))) .leaf)))))))
/-- lighter/lighterref07.plain -/
def lighterref07_plain.res (s0 : Value) (at1 : Value) (out2 : Value) (H0 : Heap) (R : Value → Heap → Prop) : Prop :=
 pAdd at1 (.int .i64 7) fun x12 =>
 pQuo x12 (.int .i64 8) fun x13 =>
 pAdd x13 (.int .i64 4) fun x15 =>
 pLenS s0 fun x17 =>
 pGt x15 x17 fun x18 =>
 pCond x18
 (R (.tuple #[out2, (.int .i64 0), (.int .i64 2)]) H0)
 (pAdd x13 (.int .i64 2) fun x23 =>
 pSlStr s0 (some x13) (some x23) fun x24 =>
 CallsH Tryd.prog 74 #[x24] H0 fun x25 H_1 =>
 pConv .i64 x25 fun x26 =>
 pAdd x13 (.int .i64 2) fun x30 =>
 pAdd x13 (.int .i64 4) fun x32 =>
 pSlStr s0 (some x30) (some x32) fun x33 =>
 CallsH Tryd.prog 74 #[x33] H_1 fun x34 H_2 =>
 pConv .i64 x34 fun x35 =>
 pAdd x26 x35 fun x36 =>
 pNe 0 x36 (.int .i64 65535) fun x37 =>
 pCond x37
 (R (.tuple #[out2, (.int .i64 0), (.int .i64 8)]) H_2)
 (pAdd x13 (.int .i64 4) fun x40 =>
 pAdd x40 x26 fun x42 =>
 pLenS s0 fun x44 =>
 pGt x42 x44 fun x45 =>
 pCond x45
 (pAdd x13 (.int .i64 4) fun x49 =>
 pSlStr s0 (some x49) none fun x50 =>
 pAppend H_2 5 1 1 [(.int .u8 0)] out2 x50 fun x51 H_3 =>
 R (.tuple #[x51, (.int .i64 0), (.int .i64 2)]) H_3)
 (pAdd x13 (.int .i64 4) fun x55 =>
 pAdd x13 (.int .i64 4) fun x57 =>
 pAdd x57 x26 fun x59 =>
 pSlStr s0 (some x55) (some x59) fun x60 =>
 pAppend H_2 5 1 1 [(.int .u8 0)] out2 x60 fun x61 H_4 =>
 pAdd x13 (.int .i64 4) fun x63 =>
 pAdd x63 x26 fun x65 =>
 pMul (.int .i64 8) x65 fun x66 =>
 R (.tuple #[x61, x66, (.int .i64 0)]) H_4)))
set_option maxRecDepth 100000 in
theorem lighterref07_plain.vc (s0 : Value) (at1 : Value) (out2 : Value) (H0 : Heap) (R : Value → Heap → Prop) (h : lighterref07_plain.res s0 at1 out2 H0 R) : CallsH Tryd.prog 58 #[s0, at1, out2] H0 R := by
  have e : vcFn Tryd.prog Tryd.C Tryd.f58 lighterref07_plain.an [s0, at1, out2] H0 R = lighterref07_plain.res s0 at1 out2 H0 R := by kernel_rfl
  exact vcFn_sound Tryd.callable Tryd.mixed Tryd.func58 (by kernel_rfl) (e.mpr h)

def lighterref07_Fixed.an : Ann := (.seq (.reg (.op 0 [] (.op 1 [] .nil))) (.seq (.reg (.op 0 [] (.op 1 [] .nil))) (.seq (.seq (.reg (.op 0 [] .nil)) (.block (.loop [2, 4] [2, 4, 5, 7, 8, 9, 10, 11, 12, 13, 14, 15, 16, 17, 18, 19, 20, 21, 22, 23, 24, 25, 26] (.seq (.seq (.reg (.op 0 [] (.op 1 [] .nil))) (.cond .leaf .leaf)) (.seq (.block (.seq (.reg (.op 0 [] .nil)) (.cut [5] [5, 11, 12, 13, 14, 15, 16] (.seq (.reg (.op 0 [] (.op 1 [] (.op 2 [] (.grp 2 (.op 3 [] (.op 4 [] .nil)) 5 .nil))))) (.cond (.reg (.op 0 [] .nil)) .leaf)) (.cut [5] [5, 17, 18, 19, 20, 21, 22] (.seq (.reg (.op 0 [] (.op 1 [] (.op 2 [] (.grp 2 (.op 3 [] (.op 4 [] .nil)) 5 .nil))))) (.cond (.reg (.op 0 [] .nil)) .leaf)) (.reg (.op 0 [] (.op 1 [] (.op 2 [] (.op 3 [] (.op 4 [] .nil)))))))))) (.reg (.op 0 [] (.op 1 [] (.op 2 [] .nil))))))))) (.seq (.seq (.reg (.op 0 [] .nil)) (.block (.loop [3, 6] [3, 6, 27, 28, 29, 30, 31, 32, 33] (.seq (.seq (.reg (.op 0 [] (.op 1 [] .nil))) (.cond .leaf .leaf)) (.seq (.block (.reg (.op 0 [] (.op 1 [] (.op 2 [] (.op 3 [] .nil)))))) (.reg (.op 0 [] (.op 1 [] (.op 2 [] .nil))))))))) (.seq (.reg (.op 0 [] (.op 1 [] (.op 2 [] (.op 3 [] .nil))))) .leaf)))))
/-- lighter/lighterref07.Fixed -/
def lighterref07_Fixed.res (H0 : Heap) (R : Value → Heap → Prop) : Prop :=
 ∃ (I_1 : Value → Value → Heap → Prop) (m_2 : Value → Value → Heap → Nat), I_1 (.slice none 0 0) (.int .i64 0) H0 ∧
 ∀ _ : Env, ∀ l2 : Value, ∀ i4 : Value, ∀ H_3 : Heap, I_1 l2 i4 H_3 →
 pLt i4 (.int .i64 288) fun x8 =>
 pCond x8
 (∃ J_4 : Value → Heap → Prop, (∀ _ : Env, ∀ n5 : Value, ∀ H_5 : Heap, J_4 n5 H_5 →
 ∃ J_6 : Value → Heap → Prop, (∀ _ : Env, ∀ n5' : Value, ∀ H_7 : Heap, J_6 n5' H_7 →
 pBuildSl H_7 3 1 [(.int .i64 0)] [(0, 1, n5')] fun x25 H_8 =>
 pAppend H_8 3 1 8 [(.int .i64 0)] l2 x25 fun x26 H_9 =>
 pAdd i4 (.int .i64 1) fun x10 =>
 I_1 x26 x10 H_9 ∧ m_2 x26 x10 H_9 < m_2 l2 i4 H_3) ∧
 pGe i4 (.int .i64 256) fun x18 =>
 pAnd x18 (fun J_10 =>
 pLt i4 (.int .i64 280) fun x21 =>
 J_10 x21 H_5) H_5 fun x22 H_11 => ∀ _ : Env,
 pCond x22
 (J_6 (.int .i64 7) H_11)
 (J_6 n5 H_11)) ∧
 pGe i4 (.int .i64 144) fun x12 =>
 pAnd x12 (fun J_12 =>
 pLt i4 (.int .i64 256) fun x15 =>
 J_12 x15 H_3) H_3 fun x16 H_13 => ∀ _ : Env,
 pCond x16
 (J_4 (.int .i64 9) H_13)
 (J_4 (.int .i64 8) H_13))
 (∃ (I_14 : Value → Value → Heap → Prop) (m_15 : Value → Value → Heap → Nat), I_14 (.slice none 0 0) (.int .i64 0) H_3 ∧
 ∀ _ : Env, ∀ d3 : Value, ∀ i6 : Value, ∀ H_16 : Heap, I_14 d3 i6 H_16 →
 pLt i6 (.int .i64 32) fun x28 =>
 pCond x28
 (pBuildSl H_16 3 1 [(.int .i64 0)] [(0, 1, (.int .i64 5))] fun x32 H_17 =>
 pAppend H_17 3 1 8 [(.int .i64 0)] d3 x32 fun x33 H_18 =>
 pAdd i6 (.int .i64 1) fun x30 =>
 I_14 x33 x30 H_18 ∧ m_15 x33 x30 H_18 < m_15 d3 i6 H_16)
 (R (.tuple #[l2, d3]) H_16))
set_option maxRecDepth 100000 in
theorem lighterref07_Fixed.vc (H0 : Heap) (R : Value → Heap → Prop) (h : lighterref07_Fixed.res H0 R) : CallsH Tryd.prog 59 #[] H0 R := by
  have e : vcFn Tryd.prog Tryd.C Tryd.f59 lighterref07_Fixed.an [] H0 R = lighterref07_Fixed.res H0 R := by kernel_rfl
  exact vcFn_sound Tryd.callable Tryd.mixed Tryd.func59 (by kernel_rfl) (e.mpr h)

def lighterref07_tell.an : Ann := (.seq (.reg (.op 0 [] (.op 1 [] (.op 2 [] .nil)))) (.seq (.reg (.op 0 [] (.op 1 [] (.op 2 [] (.op 3 [] (.op 4 [] (.op 5 [] .nil))))))) (.seq (.reg (.op 0 [] (.op 1 [] (.op 2 [] (.op 3 [] .nil))))) (.block (.loop [1, 2] [1, 2, 10, 11, 12, 17, 18, 19, 20, 21, 22, 23, 24, 25, 26, 27, 28, 29, 36, 37, 38, 39, 40, 41, 42, 43, 44, 45, 46, 47, 48, 49, 50, 51, 52, 53, 54, 55, 56, 57, 58, 59, 60, 61, 62, 63, 64, 65, 66, 67, 68, 69, 70, 71, 72, 73, 74, 75, 76, 77, 78, 79, 80, 81, 82, 83, 84, 85, 86, 87, 88, 89, 90, 91, 92, 93, 94, 95, 96, 97, 98, 99, 100, 101, 102, 103, 104, 105, 106, 107, 108, 109, 110, 111, 112, 113, 114, 115, 116, 117, 118, 119, 120, 121, 122, 123, 124, 125, 126, 127, 128, 129, 130, 131, 132, 133, 134, 135, 136, 137, 138, 139, 140, 141, 142, 143, 144, 145, 146, 147, 148, 149, 150, 151, 152, 153, 154, 155, 156, 157] (.block (.seq (.reg (.op 0 [] (.op 1 [] (.op 2 [] (.op 3 [] (.op 4 [] (.op 5 [] (.op 6 [] (.op 7 [] (.op 8 [] (.op 9 [] (.op 10 [] .nil)))))))))))) (.seq (.seq (.reg (.op 0 [] (.op 1 [] .nil))) (.cond (.seq (.reg (.op 0 [] (.op 1 [] (.op 2 [] (.op 3 [] (.op 4 [] .nil)))))) .leaf) .leaf)) (.seq (.reg (.op 0 [] (.op 1 [] .nil))) (.seq (.seq (.reg (.op 0 [] (.op 1 [] .nil))) (.cond (.seq (.reg (.op 0 [] (.op 1 [] (.op 2 [] (.op 3 [] (.op 4 [] .nil)))))) .leaf) .leaf)) (.seq (.seq (.reg (.op 0 [] (.op 1 [] .nil))) (.cond (.seq (.reg (.op 0 [] (.op 1 [] (.op 2 [] (.op 3 [] (.op 4 [] (.op 5 [] .nil))))))) .leaf) .leaf)) (.seq (.seq (.reg (.op 0 [] (.op 1 [] .nil))) (.cond (.seq (.reg (.op 0 [] (.op 1 [] (.op 2 [] (.op 3 [] .nil))))) .leaf) .leaf)) (.seq (.reg (.op 0 [] (.op 1 [] (.op 2 [] (.op 3 [] (.op 4 [] (.op 5 [] (.op 6 [] (.op 7 [] (.op 8 [] (.op 9 [] (.op 10 [] (.op 11 [] (.op 12 [] (.op 13 [] .nil))))))))))))))) (.seq (.seq (.reg (.op 0 [] (.op 1 [] .nil))) (.cond (.seq (.reg (.op 0 [] (.op 1 [] (.op 2 [] (.op 3 [] .nil))))) .leaf) .leaf)) (.seq (.reg (.op 0 [] (.op 1 [] (.op 2 [] (.op 3 [] (.op 4 [] (.op 5 [] (.op 6 [] (.op 7 [] (.op 8 [] .nil)))))))))) (.seq (.reg (.op 0 [] (.op 1 [] (.op 2 [] (.op 3 [] (.op 4 [] (.op 5 [] (.op 6 [] (.op 7 [] (.op 8 [] .nil)))))))))) (.seq (.reg (.op 0 [] (.op 1 [] (.op 2 [] (.op 3 [] (.op 4 [] (.op 5 [] (.op 6 [] (.op 7 [] (.op 8 [] (.op 9 [] (.op 10 [] .nil)))))))))))) (.seq (.seq (.reg (.op 0 [] (.op 1 [] .nil))) (.cond (.seq (.reg (.op 0 [] (.op 1 [] (.op 2 [] (.op 3 [] (.op 4 [] .nil)))))) .leaf) .leaf)) (.seq (.reg (.op 0 [] (.op 1 [] .nil))) (.seq (.seq (.reg (.op 0 [] (.op 1 [] .nil))) (.cond (.seq (.reg (.op 0 [] (.op 1 [] (.op 2 [] (.op 3 [] .nil))))) .leaf) .leaf)) (.seq (.reg (.op 0 [] (.op 1 [] (.op 2 [] (.op 3 [] (.op 4 [] (.op 5 [] (.op 6 [] (.op 7 [] (.op 8 [] (.op 9 [] (.op 10 [] (.op 11 [] (.op 12 [] .nil)))))))))))))) (.seq (.seq (.reg (.op 0 [] (.op 1 [] .nil))) (.cond (.seq (.reg (.op 0 [] (.op 1 [] (.op 2 [] (.op 3 [] .nil))))) .leaf) .leaf)) (.seq (.reg (.op 0 [] (.op 1 [] (.op 2 [] (.op 3 [] (.op 4 [] (.op 5 [] (.op 6 [] (.op 7 [] .nil))))))))) (.seq (.reg (.op 0 [] (.op 1 [] (.op 2 [] (.op 3 [] (.op 4 [] (.op 5 [] (.op 6 [] (.op 7 [] .nil))))))))) (.seq (.seq (.reg (.op 0 [] (.op 1 [] (.op 2 [] (.op 3 [] .nil))))) (.cond (.seq (.reg (.op 0 [] (.op 1 [] (.op 2 [] (.op 3 [] .nil))))) .leaf) .leaf)) (.seq (.reg (.op 0 [] .nil)) (.block (.loop [2, 29] [2, 29, 143, 144, 145, 146, 147, 148, 149, 150, 151, 152, 153, 154, 155, 156, 157] (.seq (.seq (.reg (.op 0 [] (.op 1 [] (.op 2 [] .nil)))) (.cond .leaf .leaf)) (.seq (.block (.reg (.op 0 [] (.op 1 [] (.op 2 [] (.op 3 [] (.op 4 [] (.op 5 [] (.op 6 [] (.op 7 [] (.op 8 [] (.op 9 [] (.op 10 [] .nil))))))))))))) (.reg (.op 0 [] (.op 1 [] (.op 2 [] .nil))))))))))))))))))))))))))))))))))
/-- lighter/lighterref07.tell -/
def lighterref07_tell.res (b0 : Value) (at1 : Value) (out2 : Value) (l3 : Value) (d4 : Value) (H0 : Heap) (R : Value → Heap → Prop) : Prop :=
 CallsH Tryd.prog 75 #[l3] H0 fun x31 H_1 =>
 CallsH Tryd.prog 75 #[d4] H_1 fun x33 H_2 =>
 CallsH Tryd.prog 20 #[] H_2 fun x34 H_3 =>
 CallsH Tryd.prog 21 #[] H_3 fun x35 H_4 =>
 ∃ (I_5 : Value → Value → Heap → Prop) (m_6 : Value → Value → Heap → Nat), I_5 at1 out2 H_4 ∧
 ∀ _ : Env, ∀ at1' : Value, ∀ out2' : Value, ∀ H_7 : Heap, I_5 at1' out2' H_7 →
 CallsH Tryd.prog 76 #[b0, at1', x31] H_7 fun x40 H_8 =>
 pExtract 0 x40 fun x41 =>
 pExtract 1 x40 fun x42 =>
 pExtract 2 x40 fun x43 =>
 pNe 0 x43 (.int .i64 0) fun x45 =>
 pCond x45
 (R (.tuple #[out2', (.int .i64 0), x43]) H_8)
 (pEq 0 x41 (.int .i64 256) fun x50 =>
 pCond x50
 (R (.tuple #[out2', x42, (.int .i64 0)]) H_8)
 (pLt x41 (.int .i64 256) fun x54 =>
 pCond x54
 (pConv .u8 x41 fun x57 =>
 pBuildSl H_8 5 1 [(.int .u8 0)] [(0, 1, x57)] fun x58 H_9 =>
 pAppend H_9 5 1 1 [(.int .u8 0)] out2' x58 fun x59 H_10 =>
 I_5 x42 x59 H_10 ∧ m_6 x42 x59 H_10 < m_6 at1' out2' H_7)
 (pGt x41 (.int .i64 285) fun x61 =>
 pCond x61
 (R (.tuple #[out2', (.int .i64 0), (.int .i64 4)]) H_8)
 (pSub x41 (.int .i64 257) fun x68 =>
 pIdxSl 3 x34 x68 fun x69 =>
 pFieldAddr 2 x69 fun x70 =>
 pLoad H_8 x70 fun x71 =>
 CallsH Tryd.prog 77 #[b0, x42, x71] H_8 fun x72 H_11 =>
 pExtract 0 x72 fun x73 =>
 pExtract 1 x72 fun x74 =>
 pNot x74 fun x76 =>
 pCond x76
 (R (.tuple #[out2', (.int .i64 0), (.int .i64 2)]) H_11)
 (pSub x41 (.int .i64 257) fun x80 =>
 pIdxSl 3 x34 x80 fun x81 =>
 pFieldAddr 1 x81 fun x82 =>
 pLoad H_11 x82 fun x83 =>
 pAdd x83 x73 fun x85 =>
 pSub x41 (.int .i64 257) fun x89 =>
 pIdxSl 3 x34 x89 fun x90 =>
 pFieldAddr 2 x90 fun x91 =>
 pLoad H_11 x91 fun x92 =>
 pAdd x42 x92 fun x93 =>
 CallsH Tryd.prog 76 #[b0, x93, x33] H_11 fun x98 H_12 =>
 pExtract 0 x98 fun x99 =>
 pExtract 1 x98 fun x100 =>
 pExtract 2 x98 fun x101 =>
 pNe 0 x101 (.int .i64 0) fun x103 =>
 pCond x103
 (R (.tuple #[out2', (.int .i64 0), x101]) H_12)
 (pGt x99 (.int .i64 29) fun x108 =>
 pCond x108
 (R (.tuple #[out2', (.int .i64 0), (.int .i64 4)]) H_12)
 (pIdxSl 3 x35 x99 fun x115 =>
 pFieldAddr 2 x115 fun x116 =>
 pLoad H_12 x116 fun x117 =>
 CallsH Tryd.prog 77 #[b0, x100, x117] H_12 fun x118 H_13 =>
 pExtract 0 x118 fun x119 =>
 pExtract 1 x118 fun x120 =>
 pNot x120 fun x122 =>
 pCond x122
 (R (.tuple #[out2', (.int .i64 0), (.int .i64 2)]) H_13)
 (pIdxSl 3 x35 x99 fun x126 =>
 pFieldAddr 1 x126 fun x127 =>
 pLoad H_13 x127 fun x128 =>
 pAdd x128 x119 fun x130 =>
 pIdxSl 3 x35 x99 fun x134 =>
 pFieldAddr 2 x134 fun x135 =>
 pLoad H_13 x135 fun x136 =>
 pAdd x100 x136 fun x137 =>
 pLen out2' fun x140 =>
 pGt x130 x140 fun x141 =>
 pCond x141
 (R (.tuple #[out2', (.int .i64 0), (.int .i64 6)]) H_13)
 (∃ (I_14 : Value → Value → Heap → Prop) (m_15 : Value → Value → Heap → Nat), I_14 out2' (.int .i64 0) H_13 ∧
 ∀ _ : Env, ∀ out2'' : Value, ∀ i29 : Value, ∀ H_16 : Heap, I_14 out2'' i29 H_16 →
 pLt i29 x85 fun x145 =>
 pCond x145
 (pLen out2'' fun x151 =>
 pSub x151 x130 fun x153 =>
 pIdxSl 1 out2'' x153 fun x154 =>
 pLoad H_16 x154 fun x155 =>
 pBuildSl H_16 5 1 [(.int .u8 0)] [(0, 1, x155)] fun x156 H_17 =>
 pAppend H_17 5 1 1 [(.int .u8 0)] out2'' x156 fun x157 H_18 =>
 pAdd i29 (.int .i64 1) fun x147 =>
 I_14 x157 x147 H_18 ∧ m_15 x157 x147 H_18 < m_15 out2'' i29 H_16)
 (I_5 x137 out2'' H_16 ∧ m_6 x137 out2'' H_16 < m_6 at1' out2' H_7))))))))))
set_option maxRecDepth 100000 in
theorem lighterref07_tell.vc (b0 : Value) (at1 : Value) (out2 : Value) (l3 : Value) (d4 : Value) (H0 : Heap) (R : Value → Heap → Prop) (h : lighterref07_tell.res b0 at1 out2 l3 d4 H0 R) : CallsH Tryd.prog 60 #[b0, at1, out2, l3, d4] H0 R := by
  have e : vcFn Tryd.prog Tryd.C Tryd.f60 lighterref07_tell.an [b0, at1, out2, l3, d4] H0 R = lighterref07_tell.res b0 at1 out2 l3 d4 H0 R := by kernel_rfl
  exact vcFn_sound Tryd.callable Tryd.mixed Tryd.func60 (by kernel_rfl) (e.mpr h)

def lighterref07_heads.an : Ann := (.seq (.reg (.op 0 [] (.op 1 [] (.op 2 [] (.op 3 [] .nil))))) (.seq (.reg (.op 0 [] (.op 1 [] (.op 2 [] (.op 3 [] (.op 4 [] (.op 5 [] (.op 6 [] (.op 7 [] .nil))))))))) (.seq (.seq (.reg (.op 0 [] (.op 1 [] .nil))) (.cond (.seq (.reg (.op 0 [] (.op 1 [] (.op 2 [] (.op 3 [] (.op 4 [] .nil)))))) .leaf) .leaf)) (.seq (.reg (.op 0 [] (.op 1 [] (.op 2 [] (.op 3 [] (.op 4 [] (.op 5 [] (.op 6 [] (.op 7 [] (.op 8 [] (.op 9 [] (.op 10 [] (.op 11 [] (.op 12 [] .nil)))))))))))))) (.seq (.seq (.reg (.op 0 [] (.op 1 [] (.op 2 [] (.grp 2 (.op 3 [] (.op 4 [] .nil)) 5 .nil))))) (.cond (.seq (.reg (.op 0 [] (.op 1 [] (.op 2 [] (.op 3 [] (.op 4 [] .nil)))))) .leaf) .leaf)) (.seq (.reg (.op 0 [] (.op 1 [] (.op 2 [] .nil)))) (.seq (.reg (.op 0 [] (.op 1 [] .nil))) (.seq (.reg (.op 0 [] (.op 1 [] .nil))) (.seq (.seq (.reg (.op 0 [] .nil)) (.block (.loop [1, 15] [1, 4, 5, 6, 7, 15, 16, 17, 62, 63, 64, 65, 66, 67, 68, 69, 70, 71, 72, 73, 74, 75, 76, 77, 78, 79, 80, 81, 82, 83, 84] (.seq (.seq (.reg (.op 0 [] (.op 1 [] (.op 2 [] .nil)))) (.cond .leaf .leaf)) (.seq (.block (.seq (.reg (.op 0 [] (.op 1 [] (.op 2 [] (.op 3 [] (.op 4 [] (.op 5 [] (.op 6 [] (.op 7 [] .nil))))))))) (.seq (.seq (.reg (.op 0 [] (.op 1 [] .nil))) (.cond (.seq (.reg (.op 0 [] (.op 1 [] (.op 2 [] (.op 3 [] (.op 4 [] .nil)))))) .leaf) .leaf)) (.seq (.reg (.op 0 [] (.op 1 [] (.op 2 [] (.op 3 [] (.op 4 [] (.op 5 [] (.op 6 [] (.op 7 [] .nil))))))))) (.reg (.op 0 [] (.op 1 [] (.op 2 [] .nil)))))))) (.reg (.op 0 [] (.op 1 [] (.op 2 [] .nil))))))))) (.seq (.seq (.reg (.op 0 [] (.op 1 [] (.op 2 [] .nil)))) (.seq (.reg (.op 0 [] (.op 1 [] .nil))) (.cond (.seq (.reg (.op 0 [] (.op 1 [] (.op 2 [] (.op 3 [] (.op 4 [] (.op 5 [] .nil))))))) .leaf) .leaf))) (.seq (.reg (.op 0 [] (.op 1 [] (.op 2 [] .nil)))) (.seq (.reg (.op 0 [] .nil)) (.seq (.block (.loop [1, 20] [1, 4, 5, 6, 7, 20, 21, 22, 23, 24, 25, 26, 27, 28, 29, 93, 94, 95, 96, 97, 98, 99, 100, 101, 102, 103, 104, 105, 106, 107, 108, 109, 110, 111, 112, 113, 114, 115, 116, 117, 118, 119, 120, 121, 122, 123, 124, 125, 126, 127, 128, 129, 130, 131, 132, 133, 134, 135, 136, 137, 138, 139, 140, 141, 142, 143, 144, 145, 146, 147, 148, 149, 150, 151, 152, 153, 154, 155, 156, 157, 158, 159, 160, 161, 162, 163, 164, 165, 166, 167, 168] (.seq (.seq (.reg (.op 0 [] (.op 1 [] (.op 2 [] (.op 3 [] (.op 4 [] (.op 5 [] .nil))))))) (.cond .leaf .leaf)) (.block (.seq (.reg (.op 0 [] (.op 1 [] (.op 2 [] (.op 3 [] (.op 4 [] (.op 5 [] (.op 6 [] (.op 7 [] (.op 8 [] (.op 9 [] (.op 10 [] .nil)))))))))))) (.seq (.seq (.reg (.op 0 [] (.op 1 [] .nil))) (.cond (.seq (.reg (.op 0 [] (.op 1 [] (.op 2 [] (.op 3 [] (.op 4 [] (.op 5 [] .nil))))))) .leaf) .leaf)) (.seq (.reg (.op 0 [] (.op 1 [] .nil))) (.seq (.seq (.reg (.op 0 [] (.op 1 [] .nil))) (.cond (.seq (.reg (.op 0 [] (.op 1 [] (.op 2 [] (.op 3 [] (.op 4 [] .nil)))))) .leaf) .leaf)) (.seq (.reg (.op 0 [] (.op 1 [] (.op 2 [] .nil)))) (.cut [26] [4, 5, 6, 7, 26, 118, 119, 120, 121, 122, 123, 124, 125, 126, 127, 128, 129] (.seq (.reg (.op 0 [] (.op 1 [] .nil))) (.cond (.seq (.seq (.reg (.op 0 [] (.op 1 [] (.op 2 [] .nil)))) (.cond (.seq (.reg (.op 0 [] (.op 1 [] (.op 2 [] (.op 3 [] (.op 4 [] .nil)))))) .leaf) .leaf)) (.reg (.op 0 [] (.op 1 [] (.op 2 [] (.op 3 [] (.op 4 [] (.op 5 [] (.op 6 [] .nil))))))))) .leaf)) (.cut [25] [25, 130, 131] (.seq (.reg (.op 0 [] (.op 1 [] .nil))) (.cond (.reg (.op 0 [] .nil)) .leaf)) (.cut [24, 25] [24, 25, 132, 133] (.seq (.reg (.op 0 [] (.op 1 [] .nil))) (.cond (.reg (.op 0 [] (.op 1 [] .nil))) .leaf)) (.seq (.reg (.op 0 [] (.op 1 [] (.op 2 [] (.op 3 [] (.op 4 [] (.op 5 [] (.op 6 [] (.op 7 [] (.op 8 [] .nil)))))))))) (.seq (.seq (.reg (.op 0 [] (.op 1 [] .nil))) (.cond (.seq (.reg (.op 0 [] (.op 1 [] (.op 2 [] (.op 3 [] (.op 4 [] .nil)))))) .leaf) .leaf)) (.seq (.reg (.op 0 [] (.op 1 [] (.op 2 [] (.op 3 [] .nil))))) (.seq (.seq (.reg (.op 0 [] (.op 1 [] (.op 2 [] (.op 3 [] (.op 4 [] (.op 5 [] (.op 6 [] (.op 7 [] (.op 8 [] (.op 9 [] .nil))))))))))) (.cond (.seq (.reg (.op 0 [] (.op 1 [] (.op 2 [] (.op 3 [] (.op 4 [] .nil)))))) .leaf) .leaf)) (.seq (.reg (.op 0 [] .nil)) (.block (.loop [20, 29] [20, 29, 158, 159, 160, 161, 162, 163, 164, 165, 166, 167, 168] (.seq (.seq (.reg (.op 0 [] (.op 1 [] (.op 2 [] (.op 3 [] (.op 4 [] .nil)))))) (.cond .leaf .leaf)) (.seq (.block (.reg (.op 0 [] (.op 1 [] (.op 2 [] (.op 3 [] (.op 4 [] .nil))))))) (.reg (.op 0 [] (.op 1 [] (.op 2 [] .nil))))))))))))))))))))))))) (.seq (.seq (.reg (.op 0 [] (.op 1 [] (.op 2 [] (.op 3 [] .nil))))) (.cond (.seq (.reg (.op 0 [] (.op 1 [] (.op 2 [] (.op 3 [] (.op 4 [] .nil)))))) .leaf) .leaf)) (.seq (.seq (.reg (.op 0 [] (.op 1 [] (.op 2 [] (.op 3 [] (.op 4 [] .nil)))))) (.seq (.reg (.op 0 [] (.op 1 [] .nil))) (.cond (.seq (.reg (.op 0 [] (.op 1 [] (.op 2 [] (.op 3 [] (.op 4 [] (.op 5 [] .nil))))))) .leaf) .leaf))) (.seq (.seq (.reg (.op 0 [] (.op 1 [] (.op 2 [] (.op 3 [] (.op 4 [] .nil)))))) (.seq (.reg (.op 0 [] (.op 1 [] .nil))) (.cond (.seq (.reg (.op 0 [] (.op 1 [] (.op 2 [] (.op 3 [] (.op 4 [] (.op 5 [] .nil))))))) .leaf) .leaf))) (.seq (.drw [0, 0, 3, 0, 0, 24, 0, 7, 191, 511, 1023] (.op 0 [] (.op 1 [] (.op 2 [] (.op 3 [] (.op 4 [] (.op 5 [] (.op 6 [] (.op 7 [] (.op 8 [] (.op 9 [] (.op 10 [] .nil)))))))))))) .leaf)))))))))))))))))
/-- lighter/lighterref07.heads -/
def lighterref07_heads.res (b0 : Value) (at1 : Value) (H0 : Heap) (R : Value → Heap → Prop) : Prop :=
 CallsH Tryd.prog 77 #[b0, at1, (.int .i64 14)] H0 fun x35 H_1 =>
 pExtract 0 x35 fun x36 =>
 pExtract 1 x35 fun x37 =>
 pNot x37 fun x39 =>
 pCond x39
 (R (.tuple #[(.slice none 0 0), (.slice none 0 0), at1, (.int .i64 2)]) H_1)
 (pRem x36 (.int .i64 32) fun x42 =>
 pAdd x42 (.int .i64 257) fun x43 =>
 pQuo x36 (.int .i64 32) fun x45 =>
 pRem x45 (.int .i64 32) fun x46 =>
 pAdd x46 (.int .i64 1) fun x47 =>
 pQuo x36 (.int .i64 1024) fun x49 =>
 pAdd x49 (.int .i64 4) fun x50 =>
 pGt x43 (.int .i64 286) fun x52 =>
 pOr x52 (fun J_2 =>
 pGt x47 (.int .i64 30) fun x55 =>
 J_2 x55 H_1) H_1 fun x56 H_3 => ∀ _ : Env,
 pCond x56
 (R (.tuple #[(.slice none 0 0), (.slice none 0 0), at1, (.int .i64 20)]) H_3)
 (pAdd at1 (.int .i64 14) fun x59 =>
 pBuildSl H_3 3 19 (List.replicate 19 (.int .i64 0)) [(0, 1, (.int .i64 16)), (1, 1, (.int .i64 17)), (2, 1, (.int .i64 18)), (3, 1, (.int .i64 0)), (4, 1, (.int .i64 8)), (5, 1, (.int .i64 7)), (6, 1, (.int .i64 9)), (7, 1, (.int .i64 6)), (8, 1, (.int .i64 10)), (9, 1, (.int .i64 5)), (10, 1, (.int .i64 11)), (11, 1, (.int .i64 4)), (12, 1, (.int .i64 12)), (13, 1, (.int .i64 3)), (14, 1, (.int .i64 13)), (15, 1, (.int .i64 2)), (16, 1, (.int .i64 14)), (17, 1, (.int .i64 1)), (18, 1, (.int .i64 15))] fun x60 H_4 =>
 pMakeSl H_4 3 8 [(.int .i64 0)] (.int .i64 19) (.int .i64 19) fun x61 H_5 =>
 ∃ (I_6 : Value → Value → Heap → Prop) (m_7 : Value → Value → Heap → Nat), I_6 x59 (.int .i64 0) H_5 ∧
 ∀ _ : Env, ∀ at1' : Value, ∀ i15 : Value, ∀ H_8 : Heap, I_6 at1' i15 H_8 →
 pLt i15 x50 fun x64 =>
 pCond x64
 (CallsH Tryd.prog 77 #[b0, at1', (.int .i64 3)] H_8 fun x70 H_9 =>
 pExtract 0 x70 fun x71 =>
 pExtract 1 x70 fun x72 =>
 pNot x72 fun x74 =>
 pCond x74
 (R (.tuple #[(.slice none 0 0), (.slice none 0 0), at1', (.int .i64 2)]) H_9)
 (pIdxSl 1 x60 i15 fun x79 =>
 pLoad H_9 x79 fun x80 =>
 pIdxSl 1 x61 x80 fun x82 =>
 pStore H_9 x82 x71 fun _ H_10 =>
 pAdd at1' (.int .i64 3) fun x84 =>
 pAdd i15 (.int .i64 1) fun x66 =>
 I_6 x84 x66 H_10 ∧ m_7 x84 x66 H_10 < m_7 at1' i15 H_8))
 (CallsH Tryd.prog 78 #[x61, (.bool false)] H_8 fun x86 H_11 =>
 pNe 0 x86 (.int .i64 0) fun x88 =>
 pCond x88
 (R (.tuple #[(.slice none 0 0), (.slice none 0 0), at1', x86]) H_11)
 (CallsH Tryd.prog 75 #[x61] H_11 fun x92 H_12 =>
 ∃ (I_13 : Value → Value → Heap → Prop) (m_14 : Value → Value → Heap → Nat), I_13 at1' (.slice none 0 0) H_12 ∧
 ∀ _ : Env, ∀ at1'' : Value, ∀ out20 : Value, ∀ H_15 : Heap, I_13 at1'' out20 H_15 →
 pLen out20 fun x94 =>
 pAdd x43 x47 fun x97 =>
 pLt x94 x97 fun x98 =>
 pCond x98
 (CallsH Tryd.prog 76 #[b0, at1'', x92] H_15 fun x103 H_16 =>
 pExtract 0 x103 fun x104 =>
 pExtract 1 x103 fun x105 =>
 pExtract 2 x103 fun x106 =>
 pNe 0 x106 (.int .i64 0) fun x108 =>
 pCond x108
 (R (.tuple #[(.slice none 0 0), (.slice none 0 0), at1'', x106]) H_16)
 (pLt x104 (.int .i64 16) fun x113 =>
 pCond x113
 (pBuildSl H_16 3 1 [(.int .i64 0)] [(0, 1, x104)] fun x116 H_17 =>
 pAppend H_17 3 1 8 [(.int .i64 0)] out20 x116 fun x117 H_18 =>
 I_13 x105 x117 H_18 ∧ m_14 x105 x117 H_18 < m_14 at1'' out20 H_15)
 (∃ J_19 : Value → Heap → Prop, (∀ _ : Env, ∀ value26 : Value, ∀ H_20 : Heap, J_19 value26 H_20 →
 ∃ J_21 : Value → Heap → Prop, (∀ _ : Env, ∀ bits25 : Value, ∀ H_22 : Heap, J_21 bits25 H_22 →
 ∃ J_23 : Value → Value → Heap → Prop, (∀ _ : Env, ∀ least24 : Value, ∀ bits25' : Value, ∀ H_24 : Heap, J_23 least24 bits25' H_24 →
 CallsH Tryd.prog 77 #[b0, x105, bits25'] H_24 fun x138 H_25 =>
 pExtract 0 x138 fun x139 =>
 pExtract 1 x138 fun x140 =>
 pNot x140 fun x142 =>
 pCond x142
 (R (.tuple #[(.slice none 0 0), (.slice none 0 0), x105, (.int .i64 2)]) H_25)
 (pAdd x105 bits25' fun x146 =>
 pLen out20 fun x148 =>
 pAdd x148 least24 fun x150 =>
 pAdd x150 x139 fun x152 =>
 pAdd x43 x47 fun x155 =>
 pGt x152 x155 fun x156 =>
 pCond x156
 (R (.tuple #[(.slice none 0 0), (.slice none 0 0), x146, (.int .i64 20)]) H_25)
 (∃ (I_26 : Value → Value → Heap → Prop) (m_27 : Value → Value → Heap → Nat), I_26 out20 (.int .i64 0) H_25 ∧
 ∀ _ : Env, ∀ out20' : Value, ∀ i29 : Value, ∀ H_28 : Heap, I_26 out20' i29 H_28 →
 pAdd least24 x139 fun x161 =>
 pLt i29 x161 fun x162 =>
 pCond x162
 (pBuildSl H_28 3 1 [(.int .i64 0)] [(0, 1, value26)] fun x167 H_29 =>
 pAppend H_29 3 1 8 [(.int .i64 0)] out20' x167 fun x168 H_30 =>
 pAdd i29 (.int .i64 1) fun x164 =>
 I_26 x168 x164 H_30 ∧ m_27 x168 x164 H_30 < m_27 out20' i29 H_28)
 (I_13 x146 out20' H_28 ∧ m_14 x146 out20' H_28 < m_14 at1'' out20 H_15)))) ∧
 pEq 0 x104 (.int .i64 18) fun x133 =>
 pCond x133
 (J_23 (.int .i64 11) (.int .i64 7) H_22)
 (J_23 (.int .i64 3) bits25 H_22)) ∧
 pEq 0 x104 (.int .i64 17) fun x131 =>
 pCond x131
 (J_21 (.int .i64 3) H_20)
 (J_21 (.int .i64 2) H_20)) ∧
 pEq 0 x104 (.int .i64 16) fun x119 =>
 pCond x119
 (pLen out20 fun x121 =>
 pEq 0 x121 (.int .i64 0) fun x122 =>
 pCond x122
 (R (.tuple #[(.slice none 0 0), (.slice none 0 0), x105, (.int .i64 3)]) H_16)
 (pLen out20 fun x126 =>
 pSub x126 (.int .i64 1) fun x127 =>
 pIdxSl 1 out20 x127 fun x128 =>
 pLoad H_16 x128 fun x129 =>
 J_19 x129 H_16))
 (J_19 (.int .i64 0) H_16))))
 (pIdxSl 1 out20 (.int .i64 256) fun x170 =>
 pLoad H_15 x170 fun x171 =>
 pEq 0 x171 (.int .i64 0) fun x172 =>
 pCond x172
 (R (.tuple #[(.slice none 0 0), (.slice none 0 0), at1'', (.int .i64 12)]) H_15)
 (pSlSl 1 out20 none (some x43) fun x176 =>
 CallsH Tryd.prog 78 #[x176, (.bool false)] H_15 fun x177 H_31 =>
 pNe 0 x177 (.int .i64 0) fun x179 =>
 pCond x179
 (R (.tuple #[(.slice none 0 0), (.slice none 0 0), at1'', x177]) H_31)
 (pSlSl 1 out20 (some x43) none fun x184 =>
 CallsH Tryd.prog 78 #[x184, (.bool true)] H_31 fun x185 H_32 =>
 pNe 0 x185 (.int .i64 0) fun x187 =>
 pCond x187
 (R (.tuple #[(.slice none 0 0), (.slice none 0 0), at1'', x185]) H_32)
 (pSlSl 1 out20 none (some x43) fun x192 =>
 pSlSl 1 out20 (some x43) none fun x195 =>
 R (.tuple #[x192, x195, at1'', (.int .i64 0)]) H_32))))))))
set_option maxRecDepth 100000 in
theorem lighterref07_heads.vc (b0 : Value) (at1 : Value) (H0 : Heap) (R : Value → Heap → Prop) (h : lighterref07_heads.res b0 at1 H0 R) : CallsH Tryd.prog 61 #[b0, at1] H0 R := by
  have e : vcFn Tryd.prog Tryd.C Tryd.f61 lighterref07_heads.an [b0, at1] H0 R = lighterref07_heads.res b0 at1 H0 R := by kernel_rfl
  exact vcFn_sound Tryd.callable Tryd.mixed Tryd.func61 (by kernel_rfl) (e.mpr h)

def lighterref07_next.an : Ann := (.seq (.reg (.op 0 [] (.op 1 [] (.op 2 [] .nil)))) (.seq (.reg (.op 0 [] (.op 1 [] (.op 2 [] (.op 3 [] (.op 4 [] (.op 5 [] .nil))))))) (.seq (.seq (.reg (.op 0 [] (.op 1 [] .nil))) (.cond (.seq (.reg (.op 0 [] (.op 1 [] (.op 2 [] (.op 3 [] .nil))))) .leaf) .leaf)) (.seq (.seq (.reg (.op 0 [] (.op 1 [] .nil))) (.cond (.seq (.reg (.op 0 [] (.op 1 [] (.op 2 [] (.op 3 [] .nil))))) .leaf) .leaf)) (.seq (.drw [0, 0, 0, 0, 12, 28, 60, 126, 1, 511, 1023] (.op 0 [] (.op 1 [] (.op 2 [] (.op 3 [] (.op 4 [] (.op 5 [] (.op 6 [] (.op 7 [] (.op 8 [] (.op 9 [] (.op 10 [] .nil)))))))))))) .leaf)))))
/-- lighter/lighterref07.next -/
def lighterref07_next.res (b0 : Value) (at1 : Value) (words2 : Value) (H0 : Heap) (R : Value → Heap → Prop) : Prop :=
 CallsH Tryd.prog 94 #[b0, at1, (.int .i64 15)] H0 fun x13 H_1 =>
 CallsH Tryd.prog 93 #[words2, x13] H_1 fun x14 H_2 =>
 pEq 0 x14 (.int .i64 (-2)) fun x16 =>
 pCond x16
 (R (.tuple #[(.int .i64 0), at1, (.int .i64 2)]) H_2)
 (pEq 0 x14 (.int .i64 (-1)) fun x19 =>
 pCond x19
 (R (.tuple #[(.int .i64 0), at1, (.int .i64 4)]) H_2)
 (pIdxSl 1 words2 x14 fun x25 =>
 pLoad H_2 x25 fun x26 =>
 pLenS x26 fun x27 =>
 pAdd at1 x27 fun x28 =>
 R (.tuple #[x14, x28, (.int .i64 0)]) H_2))
set_option maxRecDepth 100000 in
theorem lighterref07_next.vc (b0 : Value) (at1 : Value) (words2 : Value) (H0 : Heap) (R : Value → Heap → Prop) (h : lighterref07_next.res b0 at1 words2 H0 R) : CallsH Tryd.prog 76 #[b0, at1, words2] H0 R := by
  have e : vcFn Tryd.prog Tryd.C Tryd.f76 lighterref07_next.an [b0, at1, words2] H0 R = lighterref07_next.res b0 at1 words2 H0 R := by kernel_rfl
  exact vcFn_sound Tryd.callable Tryd.mixed Tryd.func76 (by kernel_rfl) (e.mpr h)

def lighterref07_num.an : Ann := (.seq (.reg (.op 0 [] (.op 1 [] .nil))) (.seq (.seq (.reg (.op 0 [] (.op 1 [] (.op 2 [] (.op 3 [] (.op 4 [] (.op 5 [] .nil))))))) (.cond (.seq (.reg (.op 0 [] (.op 1 [] .nil))) .leaf) .leaf)) (.seq (.reg (.op 0 [] (.op 1 [] (.op 2 [] (.op 3 [] (.op 4 [] (.op 5 [] (.op 6 [] (.op 7 [] (.op 8 [] (.op 9 [] .nil))))))))))) .leaf)))
/-- lighter/lighterref07.num -/
def lighterref07_num.res (b0 : Value) (at1 : Value) (n2 : Value) (H0 : Heap) (R : Value → Heap → Prop) : Prop :=
 pAdd at1 n2 fun x10 =>
 pLen b0 fun x12 =>
 pGt x10 x12 fun x13 =>
 pCond x13
 (R (.tuple #[(.int .i64 0), (.bool false)]) H0)
 (pAdd at1 n2 fun x18 =>
 pSlSl 1 b0 (some at1) (some x18) fun x19 =>
 CallsH Tryd.prog 95 #[x19] H0 fun x20 H_1 =>
 pConv .i64 x20 fun x21 =>
 R (.tuple #[x21, (.bool true)]) H_1)
set_option maxRecDepth 100000 in
theorem lighterref07_num.vc (b0 : Value) (at1 : Value) (n2 : Value) (H0 : Heap) (R : Value → Heap → Prop) (h : lighterref07_num.res b0 at1 n2 H0 R) : CallsH Tryd.prog 77 #[b0, at1, n2] H0 R := by
  have e : vcFn Tryd.prog Tryd.C Tryd.f77 lighterref07_num.an [b0, at1, n2] H0 R = lighterref07_num.res b0 at1 n2 H0 R := by kernel_rfl
  exact vcFn_sound Tryd.callable Tryd.mixed Tryd.func77 (by kernel_rfl) (e.mpr h)

def lighterref07_text.an : Ann := (.seq (.reg (.op 0 [] .nil)) (.seq (.reg (.op 0 [] .nil)) (.seq (.seq (.reg (.op 0 [] (.op 1 [] .nil))) (.block (.loop [7, 8] [7, 8, 10, 11, 12, 13, 14, 15, 16, 17, 18, 19, 20, 21, 22, 23, 24, 25, 26, 27, 28, 29, 30, 31, 32] (.seq (.seq (.reg (.op 0 [] (.op 1 [] (.op 2 [] (.op 3 [] (.op 4 [] (.grp 4 (.op 5 [] (.op 6 [] (.op 7 [] (.op 8 [] (.op 9 [] .nil))))) 10 .nil))))))) (.cond .leaf .leaf)) (.seq (.block (.reg (.op 0 [] (.op 1 [] (.op 2 [] (.op 3 [] (.op 4 [] (.op 5 [] (.op 6 [] (.op 7 [] (.op 8 [] (.op 9 [] (.op 10 [] .nil))))))))))))) (.reg (.op 0 [] (.op 1 [] (.op 2 [] .nil))))))))) (.seq (.reg (.op 0 [] (.op 1 [] .nil))) .leaf))))
/-- lighter/lighterref07.text -/
def lighterref07_text.res (b0 : Value) (at1 : Value) (most2 : Value) (H0 : Heap) (R : Value → Heap → Prop) : Prop :=
 ∃ (I_1 : Value → Value → Heap → Prop) (m_2 : Value → Value → Heap → Nat), I_1 (str []) at1 H0 ∧
 ∀ _ : Env, ∀ s7 : Value, ∀ i8 : Value, ∀ H_3 : Heap, I_1 s7 i8 H_3 →
 pLen b0 fun x12 =>
 pLt i8 x12 fun x13 =>
 pAnd x13 (fun J_4 =>
 pAdd at1 most2 fun x18 =>
 pLt i8 x18 fun x19 =>
 J_4 x19 H_3) H_3 fun x20 H_5 => ∀ _ : Env,
 pCond x20
 (pIdxSl 1 b0 i8 fun x26 =>
 pLoad H_5 x26 fun x27 =>
 pAdd (.int .i64 48) x27 fun x28 =>
 pConv .u8 x28 fun x29 =>
 pBuildSl H_5 5 1 [(.int .u8 0)] [(0, 1, x29)] fun x30 H_6 =>
 pStrOf H_6 x30 fun x31 =>
 pAdd s7 x31 fun x32 =>
 pAdd i8 (.int .i64 1) fun x22 =>
 I_1 x32 x22 H_6 ∧ m_2 x32 x22 H_6 < m_2 s7 i8 H_3)
 (R s7 H_5)
set_option maxRecDepth 100000 in
theorem lighterref07_text.vc (b0 : Value) (at1 : Value) (most2 : Value) (H0 : Heap) (R : Value → Heap → Prop) (h : lighterref07_text.res b0 at1 most2 H0 R) : CallsH Tryd.prog 94 #[b0, at1, most2] H0 R := by
  have e : vcFn Tryd.prog Tryd.C Tryd.f94 lighterref07_text.an [b0, at1, most2] H0 R = lighterref07_text.res b0 at1 most2 H0 R := by kernel_rfl
  exact vcFn_sound Tryd.callable Tryd.mixed Tryd.func94 (by kernel_rfl) (e.mpr h)

def window_Window_Copied.an : Ann := (.seq (.reg (.op 0 [] .nil)) (.seq (.seq (.reg (.op 0 [] (.op 1 [] .nil))) (.cond (.seq (.reg (.op 0 [] .nil)) .leaf) .leaf)) (.seq (.reg (.op 0 [] (.op 1 [] (.op 2 [] (.op 3 [] (.op 4 [] .nil)))))) (.seq (.reg (.op 0 [] (.op 1 [] (.op 2 [] (.op 3 [] (.op 4 [] (.op 5 [] (.op 6 [] .nil)))))))) (.seq (.reg (.op 0 [] .nil)) .leaf)))))
/-- (*lighter/window.Window).Copied -/
def window_Window_Copied.res (w0 : Value) (H0 : Heap) (R : Value → Heap → Prop) : Prop :=
 pEq 3 w0 (.pointer none) fun x5 =>
 pCond x5
 (R (.pointer none) H0)
 (pNil w0 fun x7 =>
 pLoadN H0 2 x7 fun x8 =>
 pBox H0 64 (.agg #[(.slice none 0 0), (.int .i64 0)]) fun c3 H_1 =>
 pStoreN H_1 2 c3 x8 fun _ H_2 =>
 pNil w0 fun x10 =>
 pFieldAddr 0 x10 fun x11 =>
 pLoad H_2 x11 fun x12 =>
 pAppend H_2 5 1 1 [(.int .u8 0)] (.slice none 0 0) x12 fun x13 H_3 =>
 pFieldAddr 0 c3 fun x14 =>
 pStore H_3 x14 x13 fun _ H_4 =>
 R c3 H_4)
set_option maxRecDepth 100000 in
theorem window_Window_Copied.vc (w0 : Value) (H0 : Heap) (R : Value → Heap → Prop) (h : window_Window_Copied.res w0 H0 R) : CallsH Tryd.prog 38 #[w0] H0 R := by
  have e : vcFn Tryd.prog Tryd.C Tryd.f38 window_Window_Copied.an [w0] H0 R = window_Window_Copied.res w0 H0 R := by kernel_rfl
  exact vcFn_sound Tryd.callable Tryd.mixed Tryd.func38 (by kernel_rfl) (e.mpr h)

def window_Window_Total.an : Ann := (.seq (.reg (.op 0 [] .nil)) (.seq (.seq (.reg (.op 0 [] (.op 1 [] .nil))) (.cond (.seq (.reg (.op 0 [] .nil)) .leaf) .leaf)) (.seq (.reg (.op 0 [] (.op 1 [] (.op 2 [] (.op 3 [] (.op 4 [] .nil)))))) .leaf)))
/-- (*lighter/window.Window).Total -/
def window_Window_Total.res (w0 : Value) (H0 : Heap) (R : Value → Heap → Prop) : Prop :=
 pEq 3 w0 (.pointer none) fun x4 =>
 pCond x4
 (R (.int .i64 0) H0)
 (pNil w0 fun x6 =>
 pFieldAddr 1 x6 fun x7 =>
 pLoad H0 x7 fun x8 =>
 R x8 H0)
set_option maxRecDepth 100000 in
theorem window_Window_Total.vc (w0 : Value) (H0 : Heap) (R : Value → Heap → Prop) (h : window_Window_Total.res w0 H0 R) : CallsH Tryd.prog 39 #[w0] H0 R := by
  have e : vcFn Tryd.prog Tryd.C Tryd.f39 window_Window_Total.an [w0] H0 R = window_Window_Total.res w0 H0 R := by kernel_rfl
  exact vcFn_sound Tryd.callable Tryd.mixed Tryd.func39 (by kernel_rfl) (e.mpr h)

def window_Window_Add.an : Ann := (.seq (.reg (.op 0 [] (.op 1 [] (.op 2 [] .nil)))) (.block (.loop [7] [4, 7, 8, 9, 10, 11, 12, 13, 14, 15] (.seq (.reg (.op 0 [] .nil)) (.seq (.cond .leaf .leaf) (.seq (.block (.seq (.reg (.op 0 [] (.op 1 [] .nil))) (.reg (.op 0 [] (.op 1 [] (.op 2 [] (.op 3 [] (.op 4 [] .nil)))))))) (.reg (.op 0 [] (.op 1 [] .nil)))))))))
/-- (*lighter/window.Window).Add -/
def window_Window_Add.res (w0 : Value) (s1 : Value) (H0 : Heap) (R : Value → Heap → Prop) : Prop :=
 pLenS s1 fun x6 =>
 ∃ (I_1 : Value → Heap → Prop) (m_2 : Value → Heap → Nat), I_1 (.int .i64 0) H0 ∧
 ∀ _ : Env, ∀ x7 : Value, ∀ H_3 : Heap, I_1 x7 H_3 →
 pLt x7 x6 fun x8 =>
 pCond x8
 (pIdxStr s1 x7 fun x13 =>
 CallsH Tryd.prog 55 #[w0, x13] H_3 fun x14 H_4 =>
 pAdd x7 (.int .i64 1) fun x15 =>
 I_1 x15 H_4 ∧ m_2 x15 H_4 < m_2 x7 H_3)
 (R (.tuple #[]) H_3)
set_option maxRecDepth 100000 in
theorem window_Window_Add.vc (w0 : Value) (s1 : Value) (H0 : Heap) (R : Value → Heap → Prop) (h : window_Window_Add.res w0 s1 H0 R) : CallsH Tryd.prog 50 #[w0, s1] H0 R := by
  have e : vcFn Tryd.prog Tryd.C Tryd.f50 window_Window_Add.an [w0, s1] H0 R = window_Window_Add.res w0 s1 H0 R := by kernel_rfl
  exact vcFn_sound Tryd.callable Tryd.mixed Tryd.func50 (by kernel_rfl) (e.mpr h)

def window_Window_Put.an : Ann := (.seq (.seq (.reg (.op 0 [] (.op 1 [] .nil))) (.cond .leaf .leaf)) (.cut [] [6, 7, 8, 9, 10, 11, 12, 13, 14, 15, 16, 17, 18, 19, 20, 21, 22, 23, 24, 25, 26, 27, 28, 29, 30, 31, 32] (.seq (.reg (.op 0 [] (.op 1 [] (.op 2 [] (.op 3 [] (.op 4 [] (.op 5 [] .nil))))))) (.cond (.reg (.op 0 [] (.op 1 [] (.op 2 [] (.op 3 [] (.op 4 [] (.op 5 [] (.op 6 [] (.op 7 [] (.op 8 [] (.op 9 [] (.op 10 [] .nil)))))))))))) (.drw [0, 1, 3, 7, 0, 16, 48, 112, 240, 0, 1023, 2047] (.op 0 [] (.op 1 [] (.op 2 [] (.op 3 [] (.op 4 [] (.op 5 [] (.op 6 [] (.op 7 [] (.op 8 [] (.op 9 [] (.op 10 [] (.op 11 [] .nil))))))))))))))) (.reg (.op 0 [] (.op 1 [] (.op 2 [] (.op 3 [] (.op 4 [] (.op 5 [] (.op 6 [] (.op 7 [] .nil)))))))))))
/-- (*lighter/window.Window).Put -/
def window_Window_Put.res (w0 : Value) (b1 : Value) (H0 : Heap) (R : Value → Heap → Prop) : Prop :=
 pEq 3 w0 (.pointer none) fun x5 =>
 pCond x5
 (R (.tuple #[]) H0)
 (∃ J_1 : Heap → Prop, (∀ _ : Env, ∀ H_2 : Heap, J_1 H_2 →
 pNil w0 fun x34 =>
 pFieldAddr 1 x34 fun x35 =>
 pLoad H_2 x35 fun x36 =>
 pAdd x36 (.int .i64 1) fun x37 =>
 pNil w0 fun x38 =>
 pFieldAddr 1 x38 fun x39 =>
 pStore H_2 x39 x37 fun _ H_3 =>
 R (.tuple #[]) H_3) ∧
 pNil w0 fun x7 =>
 pFieldAddr 0 x7 fun x8 =>
 pLoad H0 x8 fun x9 =>
 pLen x9 fun x10 =>
 pLt x10 (.int .i64 32768) fun x11 =>
 pCond x11
 (pNil w0 fun x14 =>
 pFieldAddr 0 x14 fun x15 =>
 pLoad H0 x15 fun x16 =>
 pBuildSl H0 5 1 [(.int .u8 0)] [(0, 1, b1)] fun x18 H_4 =>
 pAppend H_4 5 1 1 [(.int .u8 0)] x16 x18 fun x19 H_5 =>
 pNil w0 fun x20 =>
 pFieldAddr 0 x20 fun x21 =>
 pStore H_5 x21 x19 fun _ H_6 =>
 J_1 H_6)
 (pNil w0 fun x23 =>
 pFieldAddr 0 x23 fun x24 =>
 pLoad H0 x24 fun x25 =>
 pNil w0 fun x27 =>
 pFieldAddr 1 x27 fun x28 =>
 pLoad H0 x28 fun x29 =>
 pRem x29 (.int .i64 32768) fun x30 =>
 pIdxSl 1 x25 x30 fun x32 =>
 pStore H0 x32 b1 fun _ H_7 =>
 J_1 H_7))
set_option maxRecDepth 100000 in
theorem window_Window_Put.vc (w0 : Value) (b1 : Value) (H0 : Heap) (R : Value → Heap → Prop) (h : window_Window_Put.res w0 b1 H0 R) : CallsH Tryd.prog 55 #[w0, b1] H0 R := by
  have e : vcFn Tryd.prog Tryd.C Tryd.f55 window_Window_Put.an [w0, b1] H0 R = window_Window_Put.res w0 b1 H0 R := by kernel_rfl
  exact vcFn_sound Tryd.callable Tryd.mixed Tryd.func55 (by kernel_rfl) (e.mpr h)

def window_Window_Copy.an : Ann := (.seq (.reg (.op 0 [] (.op 1 [] .nil))) (.seq (.seq (.reg (.op 0 [] (.op 1 [] (.op 2 [] (.grp 2 (.op 3 [] (.op 4 [] .nil)) 5 (.op 6 [] (.grp 6 (.op 7 [] (.op 8 [] .nil)) 9 (.op 10 [] (.grp 10 (.op 11 [] (.op 12 [] (.op 13 [] (.op 14 [] .nil)))) 15 .nil))))))))) (.cond (.seq (.reg (.op 0 [] (.op 1 [] .nil))) .leaf) .leaf)) (.seq (.reg (.op 0 [] (.op 1 [] (.op 2 [] .nil)))) (.seq (.seq (.reg (.op 0 [] (.op 1 [] (.op 2 [] .nil)))) (.block (.loop [30] [9, 30, 31, 32, 33, 34, 35, 36, 37, 38, 39, 40, 41, 42, 43, 44, 45, 46, 47, 48] (.seq (.reg (.op 0 [] .nil)) (.seq (.cond .leaf .leaf) (.seq (.block (.seq (.reg (.op 0 [] (.op 1 [] .nil))) (.seq (.reg (.op 0 [] (.op 1 [] (.op 2 [] (.op 3 [] (.op 4 [] (.op 5 [] (.op 6 [] (.op 7 [] (.op 8 [] (.op 9 [] .nil))))))))))) (.reg (.op 0 [] (.op 1 [] (.op 2 [] (.op 3 [] (.op 4 [] (.op 5 [] .nil)))))))))) (.reg (.op 0 [] (.op 1 [] .nil))))))))) (.seq (.reg (.op 0 [] (.op 1 [] (.op 2 [] (.op 3 [] .nil))))) .leaf)))))
/-- (*lighter/window.Window).Copy -/
def window_Window_Copy.res (w0 : Value) (n1 : Value) (dist2 : Value) (H0 : Heap) (R : Value → Heap → Prop) : Prop :=
 pLt n1 (.int .i64 0) fun x11 =>
 pOr x11 (fun J_1 =>
 pGt n1 (.int .i64 258) fun x14 =>
 J_1 x14 H0) H0 fun x15 H_2 => ∀ _ : Env,
 pOr x15 (fun J_3 =>
 pLt dist2 (.int .i64 1) fun x18 =>
 J_3 x18 H_2) H_2 fun x19 H_4 => ∀ _ : Env,
 pOr x19 (fun J_5 =>
 CallsH Tryd.prog 91 #[w0] H_4 fun x23 H_7 =>
 pGt dist2 x23 fun x24 =>
 J_5 x24 H_7) H_4 fun x25 H_6 => ∀ _ : Env,
 pCond x25
 (R (.tuple #[(str []), (.bool false)]) H_6)
 (pMakeSl H_6 5 1 [(.int .u8 0)] n1 n1 fun x27 H_8 =>
 pLen x27 fun x29 =>
 ∃ (I_9 : Value → Heap → Prop) (m_10 : Value → Heap → Nat), I_9 (.int .i64 0) H_8 ∧
 ∀ _ : Env, ∀ x30 : Value, ∀ H_11 : Heap, I_9 x30 H_11 →
 pLt x30 x29 fun x31 =>
 pCond x31
 (CallsH Tryd.prog 92 #[w0, dist2] H_11 fun x38 H_12 =>
 pExtract 0 x38 fun x39 =>
 pExtract 1 x38 fun x40 =>
 pIdxSl 1 x27 x30 fun x41 =>
 pStore H_12 x41 x39 fun _ H_13 =>
 pIdxSl 1 x27 x30 fun x45 =>
 pLoad H_13 x45 fun x46 =>
 CallsH Tryd.prog 55 #[w0, x46] H_13 fun x47 H_14 =>
 pAdd x30 (.int .i64 1) fun x48 =>
 I_9 x48 H_14 ∧ m_10 x48 H_14 < m_10 x30 H_11)
 (pStrOf H_11 x27 fun x50 =>
 R (.tuple #[x50, (.bool true)]) H_11))
set_option maxRecDepth 100000 in
theorem window_Window_Copy.vc (w0 : Value) (n1 : Value) (dist2 : Value) (H0 : Heap) (R : Value → Heap → Prop) (h : window_Window_Copy.res w0 n1 dist2 H0 R) : CallsH Tryd.prog 73 #[w0, n1, dist2] H0 R := by
  have e : vcFn Tryd.prog Tryd.C Tryd.f73 window_Window_Copy.an [w0, n1, dist2] H0 R = window_Window_Copy.res w0 n1 dist2 H0 R := by kernel_rfl
  exact vcFn_sound Tryd.callable Tryd.mixed Tryd.func73 (by kernel_rfl) (e.mpr h)

def window_Window_Len.an : Ann := (.seq (.reg (.op 0 [] .nil)) (.seq (.seq (.reg (.op 0 [] (.op 1 [] .nil))) (.cond (.seq (.reg (.op 0 [] .nil)) .leaf) .leaf)) (.seq (.reg (.op 0 [] (.op 1 [] (.op 2 [] (.op 3 [] (.op 4 [] (.op 5 [] .nil))))))) .leaf)))
/-- (*lighter/window.Window).Len -/
def window_Window_Len.res (w0 : Value) (H0 : Heap) (R : Value → Heap → Prop) : Prop :=
 pEq 3 w0 (.pointer none) fun x4 =>
 pCond x4
 (R (.int .i64 0) H0)
 (pNil w0 fun x6 =>
 pFieldAddr 0 x6 fun x7 =>
 pLoad H0 x7 fun x8 =>
 pLen x8 fun x9 =>
 R x9 H0)
set_option maxRecDepth 100000 in
theorem window_Window_Len.vc (w0 : Value) (H0 : Heap) (R : Value → Heap → Prop) (h : window_Window_Len.res w0 H0 R) : CallsH Tryd.prog 91 #[w0] H0 R := by
  have e : vcFn Tryd.prog Tryd.C Tryd.f91 window_Window_Len.an [w0] H0 R = window_Window_Len.res w0 H0 R := by kernel_rfl
  exact vcFn_sound Tryd.callable Tryd.mixed Tryd.func91 (by kernel_rfl) (e.mpr h)

def window_Window_Back.an : Ann := (.seq (.reg (.op 0 [] (.op 1 [] .nil))) (.seq (.seq (.reg (.op 0 [] (.op 1 [] (.op 2 [] (.grp 2 (.op 3 [] (.op 4 [] (.op 5 [] (.op 6 [] .nil)))) 7 .nil))))) (.cond (.seq (.reg (.op 0 [] (.op 1 [] .nil))) .leaf) .leaf)) (.seq (.drw [0, 1, 3, 7, 0, 16, 48, 112, 0, 496, 1008, 2047, 4095, 8191, 16383] (.op 0 [] (.op 1 [] (.op 2 [] (.op 3 [] (.op 4 [] (.op 5 [] (.op 6 [] (.op 7 [] (.op 8 [] (.op 9 [] (.op 10 [] (.op 11 [] (.op 12 [] (.op 13 [] (.op 14 [] .nil)))))))))))))))) .leaf)))
/-- (*lighter/window.Window).Back -/
def window_Window_Back.res (w0 : Value) (dist1 : Value) (H0 : Heap) (R : Value → Heap → Prop) : Prop :=
 pLt dist1 (.int .i64 1) fun x7 =>
 pOr x7 (fun J_1 =>
 CallsH Tryd.prog 91 #[w0] H0 fun x11 H_3 =>
 pGt dist1 x11 fun x12 =>
 J_1 x12 H_3) H0 fun x13 H_2 => ∀ _ : Env,
 pCond x13
 (R (.tuple #[(.int .u8 0), (.bool false)]) H_2)
 (pNil w0 fun x15 =>
 pFieldAddr 0 x15 fun x16 =>
 pLoad H_2 x16 fun x17 =>
 pNil w0 fun x19 =>
 pFieldAddr 1 x19 fun x20 =>
 pLoad H_2 x20 fun x21 =>
 pSub x21 dist1 fun x23 =>
 pRem x23 (.int .i64 32768) fun x24 =>
 pIdxSl 1 x17 x24 fun x25 =>
 pLoad H_2 x25 fun x26 =>
 R (.tuple #[x26, (.bool true)]) H_2)
set_option maxRecDepth 100000 in
theorem window_Window_Back.vc (w0 : Value) (dist1 : Value) (H0 : Heap) (R : Value → Heap → Prop) (h : window_Window_Back.res w0 dist1 H0 R) : CallsH Tryd.prog 92 #[w0, dist1] H0 R := by
  have e : vcFn Tryd.prog Tryd.C Tryd.f92 window_Window_Back.an [w0, dist1] H0 R = window_Window_Back.res w0 dist1 H0 R := by kernel_rfl
  exact vcFn_sound Tryd.callable Tryd.mixed Tryd.func92 (by kernel_rfl) (e.mpr h)

def canon_Code_Next.an : Ann := (.seq (.reg (.op 0 [] (.op 1 [] .nil))) (.seq (.seq (.reg (.op 0 [] (.op 1 [] (.op 2 [] (.grp 2 (.op 3 [] (.op 4 [] .nil)) 5 .nil))))) (.cond (.seq (.reg (.op 0 [] (.op 1 [] .nil))) .leaf) .leaf)) (.seq (.reg (.op 0 [] (.op 1 [] (.op 2 [] (.op 3 [] .nil))))) (.seq (.reg (.op 0 [] (.op 1 [] (.op 2 [] (.op 3 [] (.op 4 [] (.op 5 [] (.op 6 [] (.op 7 [] .nil))))))))) (.seq (.reg (.op 0 [] (.op 1 [] (.op 2 [] (.op 3 [] (.op 4 [] (.op 5 [] (.op 6 [] (.op 7 [] (.op 8 [] .nil)))))))))) (.seq (.block (.seq (.reg (.op 0 [] (.op 1 [] (.op 2 [] .nil)))) (.cond (.seq (.reg (.op 0 [] (.op 1 [] (.op 2 [] .nil)))) (.seq (.reg (.op 0 [] (.op 1 [] (.op 2 [] .nil)))) .leaf)) (.seq (.reg (.op 0 [] (.op 1 [] (.op 2 [] (.op 3 [] (.op 4 [] .nil)))))) (.cond (.seq (.reg (.op 0 [] (.op 1 [] .nil))) .leaf) .leaf))))) (.seq (.reg (.op 0 [] (.op 1 [] .nil))) .leaf)))))))
/-- (*lighter/canon.Code).Next -/
def canon_Code_Next.res (c0 : Value) (r1 : Value) (H0 : Heap) (R : Value → Heap → Prop) : Prop :=
 pEq 3 c0 (.pointer none) fun x12 =>
 pOr x12 (fun J_1 =>
 pEq 3 r1 (.pointer none) fun x15 =>
 J_1 x15 H0) H0 fun x16 H_2 => ∀ _ : Env,
 pCond x16
 (R (.tuple #[(.int .i64 0), (.int .i64 1)]) H_2)
 (CallsH Tryd.prog 34 #[r1] H_2 fun x18 H_3 =>
 pMin x18 (.int .i64 15) fun x19 =>
 CallsH Tryd.prog 67 #[r1, x19] H_3 fun x23 H_4 =>
 pExtract 0 x23 fun x24 =>
 pExtract 1 x23 fun x25 =>
 CallsH Tryd.prog 68 #[c0, x24, x19] H_4 fun x30 H_5 =>
 pExtract 0 x30 fun x31 =>
 pExtract 1 x30 fun x32 =>
 pGt x32 (.int .i64 0) fun x35 =>
 pCond x35
 (CallsH Tryd.prog 62 #[r1, x32] H_5 fun x38 H_6 =>
 R (.tuple #[x31, (.int .i64 0)]) H_6)
 (CallsH Tryd.prog 69 #[c0, x24, x19] H_5 fun x44 H_7 =>
 pCond x44
 (R (.tuple #[(.int .i64 0), (.int .i64 2)]) H_7)
 (R (.tuple #[(.int .i64 0), (.int .i64 4)]) H_7)))
set_option maxRecDepth 100000 in
theorem canon_Code_Next.vc (c0 : Value) (r1 : Value) (H0 : Heap) (R : Value → Heap → Prop) (h : canon_Code_Next.res c0 r1 H0 R) : CallsH Tryd.prog 53 #[c0, r1] H0 R := by
  have e : vcFn Tryd.prog Tryd.C Tryd.f53 canon_Code_Next.an [c0, r1] H0 R = canon_Code_Next.res c0 r1 H0 R := by kernel_rfl
  exact vcFn_sound Tryd.callable Tryd.mixed Tryd.func53 (by kernel_rfl) (e.mpr h)

def canon_New.an : Ann := (.seq (.reg (.op 0 [] (.op 1 [] .nil))) (.seq (.reg (.op 0 [] .nil)) (.seq (.seq (.reg (.op 0 [] (.op 1 [] (.op 2 [] (.op 3 [] (.grp 3 (.op 4 [] (.op 5 [] (.op 6 [] .nil))) 7 .nil)))))) (.cond (.seq (.reg (.op 0 [] (.op 1 [] .nil))) .leaf) .leaf)) (.seq (.reg (.op 0 [] (.op 1 [] (.op 2 [] (.op 3 [] (.op 4 [] .nil)))))) (.seq (.reg (.op 0 [] (.op 1 [] (.op 2 [] .nil)))) (.seq (.block (.seq (.reg (.op 0 [] (.op 1 [] (.op 2 [] .nil)))) (.cond (.seq (.reg (.op 0 [] (.op 1 [] .nil))) .leaf) (.seq (.reg (.op 0 [] (.op 1 [] (.op 2 [] (.grp 2 (.op 3 [] (.op 4 [] (.grp 4 (.op 5 [] (.op 6 [] .nil)) 7 (.op 8 [] .nil)))) 9 (.op 10 [] .nil)))))) (.cond (.seq (.reg (.op 0 [] (.op 1 [] .nil))) .leaf) .leaf))))) (.seq (.reg (.op 0 [] (.op 1 [] .nil))) (.seq (.reg (.op 0 [] (.op 1 [] (.op 2 [] .nil)))) .leaf))))))))
/-- lighter/canon.New -/
def canon_New.res (lengths0 : Value) (loose1 : Value) (H0 : Heap) (R : Value → Heap → Prop) : Prop :=
 pLen lengths0 fun x10 =>
 pGt x10 (.int .i64 288) fun x11 =>
 pOr x11 (fun J_1 =>
 CallsH Tryd.prog 80 #[lengths0, (.func (.func 79) #[] #[])] H0 fun x15 H_3 =>
 J_1 x15 H_3) H0 fun x16 H_2 => ∀ _ : Env,
 pCond x16
 (R (.tuple #[(.pointer none), (.int .i64 1)]) H_2)
 (CallsH Tryd.prog 81 #[lengths0] H_2 fun x18 H_4 =>
 pBuild [(.slice none 0 0), (.slice none 0 0), (.int .i64 0), (.int .i64 0), (.int .i64 0), (.int .i64 0), (.int .i64 0), (.int .i64 0), (.int .i64 0), (.int .i64 0), (.int .i64 0), (.int .i64 0), (.int .i64 0), (.int .i64 0), (.int .i64 0), (.int .i64 0), (.int .i64 0), (.int .i64 0), (.slice none 0 0)] [(0, 1, x18)] fun x19 =>
 pBox H_4 139 x19 fun x20 H_5 =>
 CallsH Tryd.prog 82 #[x20] H_5 fun x22 H_6 =>
 pLt x22 (.int .i64 0) fun x25 =>
 pCond x25
 (R (.tuple #[(.pointer none), (.int .i64 5)]) H_6)
 (pGt x22 (.int .i64 0) fun x28 =>
 pAnd x28 (fun J_7 =>
 pAnd loose1 (fun J_9 =>
 CallsH Tryd.prog 83 #[x20] H_6 fun x33 H_11 =>
 J_9 x33 H_11) H_6 fun x34 H_10 => ∀ _ : Env,
 pNot x34 fun x35 =>
 J_7 x35 H_10) H_6 fun x36 H_8 => ∀ _ : Env,
 pCond x36
 (R (.tuple #[(.pointer none), (.int .i64 4)]) H_8)
 (CallsH Tryd.prog 84 #[x20] H_8 fun x38 H_12 =>
 R (.tuple #[x20, (.int .i64 0)]) H_12)))
set_option maxRecDepth 100000 in
theorem canon_New.vc (lengths0 : Value) (loose1 : Value) (H0 : Heap) (R : Value → Heap → Prop) (h : canon_New.res lengths0 loose1 H0 R) : CallsH Tryd.prog 63 #[lengths0, loose1] H0 R := by
  have e : vcFn Tryd.prog Tryd.C Tryd.f63 canon_New.an [lengths0, loose1] H0 R = canon_New.res lengths0 loose1 H0 R := by kernel_rfl
  exact vcFn_sound Tryd.callable Tryd.mixed Tryd.func63 (by kernel_rfl) (e.mpr h)

def canon_Code_find.an : Ann := (.seq (.reg (.op 0 [] (.op 1 [] .nil))) (.seq (.reg (.op 0 [] (.op 1 [] (.op 2 [] .nil)))) (.seq (.seq (.reg (.op 0 [] .nil)) (.block (.loop [1, 8, 9, 10, 11] [1, 6, 7, 8, 9, 10, 11, 12, 13, 14, 15, 16, 17, 18, 19, 20, 21, 22, 23, 24, 25, 26, 27, 28, 29, 30, 31, 32, 33, 34, 35, 36, 37, 38, 39, 40, 41, 42, 43, 44, 45, 46, 47, 48, 49, 50, 51, 52, 53, 54, 55, 56, 57, 58, 59, 60, 61, 62, 63, 64, 65, 66] (.seq (.seq (.reg (.op 0 [] (.op 1 [] (.op 2 [] .nil)))) (.cond .leaf .leaf)) (.seq (.block (.seq (.reg (.op 0 [] (.op 1 [] (.op 2 [] (.op 3 [] (.op 4 [] (.op 5 [] .nil))))))) (.seq (.reg (.op 0 [] (.op 1 [] (.op 2 [] .nil)))) (.seq (.seq (.reg (.op 0 [] (.op 1 [] (.op 2 [] (.op 3 [] (.op 4 [] (.op 5 [] (.op 6 [] .nil)))))))) (.seq (.reg (.op 0 [] (.op 1 [] (.op 2 [] (.op 3 [] (.op 4 [] .nil)))))) (.cond (.seq (.reg (.op 0 [] (.op 1 [] (.op 2 [] (.op 3 [] (.op 4 [] (.op 5 [] (.op 6 [] (.op 7 [] (.op 8 [] (.op 9 [] (.op 10 [] (.op 11 [] (.op 12 [] (.op 13 [] .nil))))))))))))))) .leaf) .leaf))) (.seq (.reg (.op 0 [] (.op 1 [] (.op 2 [] (.op 3 [] (.op 4 [] (.op 5 [] (.op 6 [] (.op 7 [] (.op 8 [] .nil)))))))))) (.seq (.reg (.op 0 [] (.op 1 [] (.op 2 [] (.op 3 [] (.op 4 [] (.op 5 [] (.op 6 [] (.op 7 [] (.op 8 [] (.op 9 [] .nil))))))))))) (.reg (.op 0 [] (.op 1 [] (.op 2 [] .nil)))))))))) (.reg (.op 0 [] (.op 1 [] (.op 2 [] .nil))))))))) (.seq (.reg (.op 0 [] (.op 1 [] .nil))) .leaf))))
/-- (*lighter/canon.Code).find -/
def canon_Code_find.res (c0 : Value) (v1 : Value) (have2 : Value) (H0 : Heap) (R : Value → Heap → Prop) : Prop :=
 ∃ (I_1 : Value → Value → Value → Value → Value → Heap → Prop) (m_2 : Value → Value → Value → Value → Value → Heap → Nat), I_1 v1 (.int .i64 0) (.int .i64 0) (.int .i64 0) (.int .i64 1) H0 ∧
 ∀ _ : Env, ∀ v1' : Value, ∀ word8 : Value, ∀ first9 : Value, ∀ index10 : Value, ∀ n11 : Value, ∀ H_3 : Heap, I_1 v1' word8 first9 index10 n11 H_3 →
 pLe n11 have2 fun x15 =>
 pCond x15
 (pBits .and v1' (.int .u64 1) fun x20 =>
 pConv .i64 x20 fun x21 =>
 pBits .or word8 x21 fun x22 =>
 pShr v1' (.int .u64 1) fun x24 =>
 pNil c0 fun x27 =>
 pFieldAddr 2 x27 fun x28 =>
 pIdxArr 16 1 x28 n11 fun x29 =>
 pLoad H_3 x29 fun x30 =>
 pSub x22 first9 fun x33 =>
 pLt x33 x30 fun x35 =>
 pCond x35
 (pNil c0 fun x37 =>
 pFieldAddr 18 x37 fun x38 =>
 pLoad H_3 x38 fun x39 =>
 pAdd index10 x22 fun x42 =>
 pSub x42 first9 fun x44 =>
 pIdxSl 1 x39 x44 fun x45 =>
 pLoad H_3 x45 fun x46 =>
 R (.tuple #[x46, n11]) H_3)
 (pNil c0 fun x51 =>
 pFieldAddr 2 x51 fun x52 =>
 pIdxArr 16 1 x52 n11 fun x53 =>
 pLoad H_3 x53 fun x54 =>
 pAdd index10 x54 fun x55 =>
 pNil c0 fun x59 =>
 pFieldAddr 2 x59 fun x60 =>
 pIdxArr 16 1 x60 n11 fun x61 =>
 pLoad H_3 x61 fun x62 =>
 pAdd first9 x62 fun x63 =>
 pShl x63 (.int .u64 1) fun x64 =>
 pShl x22 (.int .u64 1) fun x66 =>
 pAdd n11 (.int .i64 1) fun x17 =>
 I_1 x24 x66 x64 x55 x17 H_3 ∧ m_2 x24 x66 x64 x55 x17 H_3 < m_2 v1' word8 first9 index10 n11 H_3))
 (R (.tuple #[(.int .i64 0), (.int .i64 0)]) H_3)
set_option maxRecDepth 100000 in
theorem canon_Code_find.vc (c0 : Value) (v1 : Value) (have2 : Value) (H0 : Heap) (R : Value → Heap → Prop) (h : canon_Code_find.res c0 v1 have2 H0 R) : CallsH Tryd.prog 68 #[c0, v1, have2] H0 R := by
  have e : vcFn Tryd.prog Tryd.C Tryd.f68 canon_Code_find.an [c0, v1, have2] H0 R = canon_Code_find.res c0 v1 have2 H0 R := by kernel_rfl
  exact vcFn_sound Tryd.callable Tryd.mixed Tryd.func68 (by kernel_rfl) (e.mpr h)

def canon_Code_open.an : Ann := (.seq (.reg (.op 0 [] (.op 1 [] (.op 2 [] .nil)))) (.seq (.reg (.op 0 [] (.op 1 [] (.op 2 [] (.op 3 [] (.op 4 [] .nil)))))) (.seq (.reg (.op 0 [] (.op 1 [] (.op 2 [] (.op 3 [] (.op 4 [] (.op 5 [] (.op 6 [] .nil)))))))) .leaf)))
/-- (*lighter/canon.Code).open -/
def canon_Code_open.res (c0 : Value) (v1 : Value) (have2 : Value) (H0 : Heap) (R : Value → Heap → Prop) : Prop :=
 pBox H0 34 v1 fun v4 H_1 =>
 pBox H_1 3 have2 fun have5 H_2 =>
 pLoad H_2 have5 fun x8 =>
 pShl (.int .u64 1) x8 fun x9 =>
 pSub x9 (.int .u64 1) fun x10 =>
 pBox H_2 34 (.int .u64 0) fun mask7 H_3 =>
 pStore H_3 mask7 x10 fun _ H_4 =>
 pNil c0 fun x12 =>
 pFieldAddr 1 x12 fun x13 =>
 pLoad H_4 x13 fun x14 =>
 CallsH Tryd.prog 88 #[x14, (.func (.func 89) #[] #[have5, mask7, v4])] H_4 fun x16 H_5 =>
 R x16 H_5
set_option maxRecDepth 100000 in
theorem canon_Code_open.vc (c0 : Value) (v1 : Value) (have2 : Value) (H0 : Heap) (R : Value → Heap → Prop) (h : canon_Code_open.res c0 v1 have2 H0 R) : CallsH Tryd.prog 69 #[c0, v1, have2] H0 R := by
  have e : vcFn Tryd.prog Tryd.C Tryd.f69 canon_Code_open.an [c0, v1, have2] H0 R = canon_Code_open.res c0 v1 have2 H0 R := by kernel_rfl
  exact vcFn_sound Tryd.callable Tryd.mixed Tryd.func69 (by kernel_rfl) (e.mpr h)

def canon_New_f1.an : Ann := (.seq (.reg (.op 0 [] .nil)) (.seq (.reg (.op 0 [] (.op 1 [] (.op 2 [] (.grp 2 (.op 3 [] (.op 4 [] .nil)) 5 (.op 6 [] .nil)))))) .leaf))
/-- lighter/canon.New$1 -/
def canon_New_f1.res (n0 : Value) (H0 : Heap) (R : Value → Heap → Prop) : Prop :=
 pLt n0 (.int .i64 0) fun x4 =>
 pOr x4 (fun J_1 =>
 pGt n0 (.int .i64 15) fun x7 =>
 J_1 x7 H0) H0 fun x8 H_2 => ∀ _ : Env,
 R x8 H_2
set_option maxRecDepth 100000 in
theorem canon_New_f1.vc (n0 : Value) (H0 : Heap) (R : Value → Heap → Prop) (h : canon_New_f1.res n0 H0 R) : CallsH Tryd.prog 79 #[n0] H0 R := by
  have e : vcFn Tryd.prog Tryd.C Tryd.f79 canon_New_f1.an [n0] H0 R = canon_New_f1.res n0 H0 R := by kernel_rfl
  exact vcFn_sound Tryd.callable Tryd.mixed Tryd.func79 (by kernel_rfl) (e.mpr h)

def canon_Code_fill.an : Ann := (.seq (.reg (.op 0 [] .nil)) (.seq (.seq (.reg (.op 0 [] (.op 1 [] (.op 2 [] (.op 3 [] (.op 4 [] (.op 5 [] .nil))))))) (.block (.loop [12] [4, 12, 13, 14, 15, 16, 17, 18, 19, 20, 21, 22, 23, 24, 25, 26, 27, 28] (.seq (.reg (.op 0 [] .nil)) (.seq (.cond .leaf .leaf) (.seq (.block (.seq (.reg (.op 0 [] (.op 1 [] (.op 2 [] .nil)))) (.seq (.reg (.op 0 [] (.op 1 [] .nil))) (.cond (.drw [0, 0, 1, 5, 15, 31, 63, 1, 129, 511, 1023] (.op 0 [] (.op 1 [] (.op 2 [] (.op 3 [] (.op 4 [] (.op 5 [] (.op 6 [] (.op 7 [] (.op 8 [] (.op 9 [] (.op 10 [] .nil)))))))))))) .leaf)))) (.reg (.op 0 [] (.op 1 [] .nil))))))))) (.seq (.reg (.op 0 [] .nil)) (.seq (.seq (.reg (.op 0 [] .nil)) (.block (.loop [5, 6] [2, 5, 6, 29, 30, 31, 32, 33, 34, 35, 36, 37, 38, 39, 40, 41, 42, 43, 44] (.seq (.seq (.reg (.op 0 [] (.op 1 [] .nil))) (.cond .leaf .leaf)) (.seq (.block (.seq (.reg (.op 0 [] (.op 1 [] (.op 2 [] (.op 3 [] (.op 4 [] (.op 5 [] (.op 6 [] (.op 7 [] (.op 8 [] (.op 9 [] .nil))))))))))) (.seq (.reg (.op 0 [] (.op 1 [] .nil))) (.cond (.seq (.reg (.op 0 [] (.op 1 [] .nil))) .leaf) .leaf)))) (.reg (.op 0 [] (.op 1 [] (.op 2 [] .nil))))))))) (.seq (.reg (.op 0 [] (.op 1 [] .nil))) .leaf)))))
/-- (*lighter/canon.Code).fill -/
def canon_Code_fill.res (c0 : Value) (H0 : Heap) (R : Value → Heap → Prop) : Prop :=
 pNil c0 fun x8 =>
 pFieldAddr 0 x8 fun x9 =>
 pLoad H0 x9 fun x10 =>
 pLen x10 fun x11 =>
 ∃ (I_1 : Value → Heap → Prop) (m_2 : Value → Heap → Nat), I_1 (.int .i64 0) H0 ∧
 ∀ _ : Env, ∀ x12 : Value, ∀ H_3 : Heap, I_1 x12 H_3 →
 pLt x12 x11 fun x13 =>
 pCond x13
 (pIdxSl 1 x10 x12 fun x14 =>
 pLoad H_3 x14 fun x15 =>
 pGt x15 (.int .i64 0) fun x17 =>
 pCond x17
 (pNil c0 fun x20 =>
 pFieldAddr 2 x20 fun x21 =>
 pIdxArr 16 1 x21 x15 fun x22 =>
 pLoad H_3 x22 fun x23 =>
 pAdd x23 (.int .i64 1) fun x24 =>
 pNil c0 fun x25 =>
 pFieldAddr 2 x25 fun x26 =>
 pIdxArr 16 1 x26 x15 fun x27 =>
 pStore H_3 x27 x24 fun _ H_4 =>
 pAdd x12 (.int .i64 1) fun x28 =>
 I_1 x28 H_4 ∧ m_2 x28 H_4 < m_2 x12 H_3)
 (pAdd x12 (.int .i64 1) fun x28 =>
 I_1 x28 H_3 ∧ m_2 x28 H_3 < m_2 x12 H_3))
 (∃ (I_5 : Value → Value → Heap → Prop) (m_6 : Value → Value → Heap → Nat), I_5 (.int .i64 1) (.int .i64 1) H_3 ∧
 ∀ _ : Env, ∀ left5 : Value, ∀ n6 : Value, ∀ H_7 : Heap, I_5 left5 n6 H_7 →
 pLe n6 (.int .i64 15) fun x30 =>
 pCond x30
 (pMul (.int .i64 2) left5 fun x34 =>
 pNil c0 fun x37 =>
 pFieldAddr 2 x37 fun x38 =>
 pIdxArr 16 1 x38 n6 fun x39 =>
 pLoad H_7 x39 fun x40 =>
 pSub x34 x40 fun x41 =>
 pLt x41 (.int .i64 0) fun x43 =>
 pCond x43
 (R x41 H_7)
 (pAdd n6 (.int .i64 1) fun x32 =>
 I_5 x41 x32 H_7 ∧ m_6 x41 x32 H_7 < m_6 left5 n6 H_7))
 (R left5 H_7))
set_option maxRecDepth 100000 in
theorem canon_Code_fill.vc (c0 : Value) (H0 : Heap) (R : Value → Heap → Prop) (h : canon_Code_fill.res c0 H0 R) : CallsH Tryd.prog 82 #[c0] H0 R := by
  have e : vcFn Tryd.prog Tryd.C Tryd.f82 canon_Code_fill.an [c0] H0 R = canon_Code_fill.res c0 H0 R := by kernel_rfl
  exact vcFn_sound Tryd.callable Tryd.mixed Tryd.func82 (by kernel_rfl) (e.mpr h)

def canon_Code_slack.an : Ann := (.seq (.reg (.op 0 [] .nil)) (.seq (.reg (.op 0 [] .nil)) (.seq (.seq (.reg (.op 0 [] (.op 1 [] (.op 2 [] (.op 3 [] (.op 4 [] .nil)))))) (.block (.loop [3, 10] [3, 5, 10, 11, 12, 13, 14, 15, 16] (.seq (.reg (.op 0 [] .nil)) (.seq (.cond .leaf .leaf) (.seq (.block (.seq (.reg (.op 0 [] (.op 1 [] .nil))) (.reg (.op 0 [] (.op 1 [] (.op 2 [] (.op 3 [] .nil))))))) (.reg (.op 0 [] (.op 1 [] .nil))))))))) (.seq (.reg (.op 0 [] (.op 1 [] (.op 2 [] (.grp 2 (.op 3 [] (.op 4 [] (.op 5 [] (.grp 5 (.op 6 [] (.op 7 [] (.op 8 [] (.op 9 [] (.op 10 [] (.op 11 [] .nil)))))) 12 .nil)))) 13 (.op 14 [] .nil)))))) .leaf))))
/-- (*lighter/canon.Code).slack -/
def canon_Code_slack.res (c0 : Value) (H0 : Heap) (R : Value → Heap → Prop) : Prop :=
 pNil c0 fun x7 =>
 pFieldAddr 2 x7 fun x8 =>
 pLoadN H0 16 x8 fun x9 =>
 ∃ (I_1 : Value → Value → Heap → Prop) (m_2 : Value → Value → Heap → Nat), I_1 (.int .i64 0) (.int .i64 0) H0 ∧
 ∀ _ : Env, ∀ all3 : Value, ∀ x10 : Value, ∀ H_3 : Heap, I_1 all3 x10 H_3 →
 pLt x10 (.int .i64 16) fun x11 =>
 pCond x11
 (pIdxAgg 16 x9 x10 fun x12 =>
 pAdd all3 x12 fun x15 =>
 pAdd x10 (.int .i64 1) fun x16 =>
 I_1 x15 x16 H_3 ∧ m_2 x15 x16 H_3 < m_2 all3 x10 H_3)
 (pEq 0 all3 (.int .i64 0) fun x18 =>
 pOr x18 (fun J_4 =>
 pEq 0 all3 (.int .i64 1) fun x21 =>
 pAnd x21 (fun J_6 =>
 pNil c0 fun x24 =>
 pFieldAddr 2 x24 fun x25 =>
 pIdxArr 16 1 x25 (.int .i64 1) fun x26 =>
 pLoad H_3 x26 fun x27 =>
 pEq 0 x27 (.int .i64 1) fun x28 =>
 J_6 x28 H_3) H_3 fun x29 H_7 => ∀ _ : Env,
 J_4 x29 H_7) H_3 fun x30 H_5 => ∀ _ : Env,
 R x30 H_5)
set_option maxRecDepth 100000 in
theorem canon_Code_slack.vc (c0 : Value) (H0 : Heap) (R : Value → Heap → Prop) (h : canon_Code_slack.res c0 H0 R) : CallsH Tryd.prog 83 #[c0] H0 R := by
  have e : vcFn Tryd.prog Tryd.C Tryd.f83 canon_Code_slack.an [c0] H0 R = canon_Code_slack.res c0 H0 R := by kernel_rfl
  exact vcFn_sound Tryd.callable Tryd.mixed Tryd.func83 (by kernel_rfl) (e.mpr h)

def canon_Code_assign.an : Ann := (.seq (.reg (.op 0 [] (.op 1 [] (.op 2 [] (.op 3 [] (.op 4 [] (.op 5 [] (.op 6 [] (.op 7 [] (.op 8 [] (.op 9 [] .nil))))))))))) (.seq (.reg (.op 0 [] .nil)) (.seq (.reg (.op 0 [] .nil)) (.block (.loop [2, 3] [2, 3, 4, 5, 15, 16, 17, 18, 19, 20, 21, 22, 23, 24, 25, 26, 27, 28, 29, 30, 31, 32, 33, 34, 35, 36, 37, 38, 39, 40, 41, 42, 43, 44, 45, 46, 47, 48, 49, 50, 51, 52, 53, 54, 55, 56, 57] (.seq (.seq (.reg (.op 0 [] (.op 1 [] .nil))) (.cond .leaf .leaf)) (.seq (.block (.seq (.reg (.op 0 [] (.op 1 [] (.op 2 [] .nil)))) (.seq (.reg (.op 0 [] (.op 1 [] (.op 2 [] (.op 3 [] (.op 4 [] (.op 5 [] .nil))))))) (.block (.loop [2, 26] [2, 4, 5, 26, 27, 28, 29, 30, 31, 32, 33, 34, 35, 36, 37, 38, 39, 40, 41, 42, 43, 44, 45, 46, 47, 48, 49, 50, 51, 52, 53, 54, 55, 56, 57] (.seq (.reg (.op 0 [] .nil)) (.seq (.cond .leaf .leaf) (.seq (.block (.seq (.reg (.op 0 [] (.op 1 [] (.op 2 [] (.op 3 [] (.op 4 [] .nil)))))) (.seq (.reg (.op 0 [] (.op 1 [] (.op 2 [] .nil)))) (.cond (.seq (.drw [0, 1, 3, 7, 0, 0, 0, 96, 0, 480, 1023, 2047] (.op 0 [] (.op 1 [] (.op 2 [] (.op 3 [] (.op 4 [] (.op 5 [] (.op 6 [] (.op 8 [] (.op 7 [3] (.op 9 [] (.op 10 [] (.op 11 [] .nil))))))))))))) (.seq (.reg (.op 0 [] (.op 1 [] (.op 2 [] (.op 3 [] (.op 4 [] (.op 5 [] (.op 6 [] (.op 7 [] (.op 8 [] (.op 9 [] (.op 10 [] .nil)))))))))))) (.reg (.op 0 [] (.op 1 [] (.op 2 [] .nil)))))) .leaf)))) (.reg (.op 0 [] (.op 1 [] .nil))))))))))) (.reg (.op 0 [] (.op 1 [] (.op 2 [] .nil)))))))))))
/-- (*lighter/canon.Code).assign -/
def canon_Code_assign.res (c0 : Value) (H0 : Heap) (R : Value → Heap → Prop) : Prop :=
 pNil c0 fun x8 =>
 pFieldAddr 0 x8 fun x9 =>
 pLoad H0 x9 fun x10 =>
 pLen x10 fun x11 =>
 pMakeSl H0 147 16 [(.int .u64 0), (.int .i64 0)] x11 x11 fun x12 H_1 =>
 pNil c0 fun x13 =>
 pFieldAddr 1 x13 fun x14 =>
 pStore H_1 x14 x12 fun _ H_2 =>
 ∃ (I_3 : Value → Value → Heap → Prop) (m_4 : Value → Value → Heap → Nat), I_3 (.int .u64 0) (.int .i64 1) H_2 ∧
 ∀ _ : Env, ∀ next2 : Value, ∀ n3 : Value, ∀ H_5 : Heap, I_3 next2 n3 H_5 →
 pLe n3 (.int .i64 15) fun x16 =>
 pCond x16
 (pShl next2 (.int .u64 1) fun x20 =>
 pNil c0 fun x22 =>
 pFieldAddr 0 x22 fun x23 =>
 pLoad H_5 x23 fun x24 =>
 pLen x24 fun x25 =>
 ∃ (I_6 : Value → Value → Heap → Prop) (m_7 : Value → Value → Heap → Nat), I_6 x20 (.int .i64 0) H_5 ∧
 ∀ _ : Env, ∀ next2' : Value, ∀ x26 : Value, ∀ H_8 : Heap, I_6 next2' x26 H_8 →
 pLt x26 x25 fun x27 =>
 pCond x27
 (pIdxSl 1 x24 x26 fun x29 =>
 pLoad H_8 x29 fun x30 =>
 pEq 0 x30 n3 fun x33 =>
 pCond x33
 (pNil c0 fun x35 =>
 pFieldAddr 1 x35 fun x36 =>
 pLoad H_8 x36 fun x37 =>
 CallsH Tryd.prog 97 #[next2', n3] H_8 fun x41 H_9 =>
 (pLoad H_9 x36 fun r_ =>
 r_ = x37) ∧
 pBuild [(.int .u64 0), (.int .i64 0)] [(0, 1, x41), (1, 1, n3)] fun x43 =>
 pIdxSl 2 x37 x26 fun x44 =>
 pStoreN H_9 2 x44 x43 fun _ H_10 =>
 pNil c0 fun x47 =>
 pFieldAddr 18 x47 fun x48 =>
 pLoad H_10 x48 fun x49 =>
 pBuildSl H_10 3 1 [(.int .i64 0)] [(0, 1, x26)] fun x51 H_11 =>
 pAppend H_11 3 1 8 [(.int .i64 0)] x49 x51 fun x52 H_12 =>
 pNil c0 fun x53 =>
 pFieldAddr 18 x53 fun x54 =>
 pStore H_12 x54 x52 fun _ H_13 =>
 pAdd next2' (.int .u64 1) fun x56 =>
 pAdd x26 (.int .i64 1) fun x57 =>
 I_6 x56 x57 H_13 ∧ m_7 x56 x57 H_13 < m_7 next2' x26 H_8)
 (pAdd x26 (.int .i64 1) fun x57 =>
 I_6 next2' x57 H_8 ∧ m_7 next2' x57 H_8 < m_7 next2' x26 H_8))
 (pAdd n3 (.int .i64 1) fun x18 =>
 I_3 next2' x18 H_8 ∧ m_4 next2' x18 H_8 < m_4 next2 n3 H_5))
 (R (.tuple #[]) H_5)
set_option maxRecDepth 100000 in
theorem canon_Code_assign.vc (c0 : Value) (H0 : Heap) (R : Value → Heap → Prop) (h : canon_Code_assign.res c0 H0 R) : CallsH Tryd.prog 84 #[c0] H0 R := by
  have e : vcFn Tryd.prog Tryd.C Tryd.f84 canon_Code_assign.an [c0] H0 R = canon_Code_assign.res c0 H0 R := by kernel_rfl
  exact vcFn_sound Tryd.callable Tryd.mixed Tryd.func84 (by kernel_rfl) (e.mpr h)

def canon_Code_open_f1.an : Ann := (.seq (.reg (.op 0 [] (.op 1 [] .nil))) (.seq (.reg (.op 0 [] (.op 1 [] (.op 2 [] (.op 3 [] (.op 4 [] (.grp 4 (.op 5 [] (.op 6 [] (.op 7 [] (.op 8 [] (.op 9 [] (.op 10 [] .nil)))))) 11 (.op 12 [] .nil)))))))) .leaf))
/-- (*lighter/canon.Code).open$1 -/
def canon_Code_open_f1.res (w0 : Value) (a1 : Value) (a2 : Value) (a3 : Value) (H0 : Heap) (R : Value → Heap → Prop) : Prop :=
 pBox H0 147 w0 fun w4 H_1 =>
 pFieldAddr 1 w4 fun x6 =>
 pLoad H_1 x6 fun x7 =>
 pLoad H_1 a1 fun x8 =>
 pGt x7 x8 fun x9 =>
 pAnd x9 (fun J_2 =>
 pFieldAddr 0 w4 fun x11 =>
 pLoad H_1 x11 fun x12 =>
 pLoad H_1 a2 fun x13 =>
 pBits .and x12 x13 fun x14 =>
 pLoad H_1 a3 fun x15 =>
 pEq 0 x14 x15 fun x16 =>
 J_2 x16 H_1) H_1 fun x17 H_3 => ∀ _ : Env,
 R x17 H_3
set_option maxRecDepth 100000 in
theorem canon_Code_open_f1.vc (w0 : Value) (a1 : Value) (a2 : Value) (a3 : Value) (H0 : Heap) (R : Value → Heap → Prop) (h : canon_Code_open_f1.res w0 a1 a2 a3 H0 R) : CallsH Tryd.prog 89 #[w0, a1, a2, a3] H0 R := by
  have e : vcFn Tryd.prog Tryd.C Tryd.f89 canon_Code_open_f1.an [w0, a1, a2, a3] H0 R = canon_Code_open_f1.res w0 a1 a2 a3 H0 R := by kernel_rfl
  exact vcFn_sound Tryd.callable Tryd.mixed Tryd.func89 (by kernel_rfl) (e.mpr h)

def canon_turned.an : Ann := (.seq (.reg (.op 0 [] .nil)) (.seq (.reg (.op 0 [] .nil)) (.seq (.seq (.reg (.op 0 [] (.op 1 [] .nil))) (.block (.loop [0, 5, 7] [0, 5, 7, 8, 9, 10, 11, 12, 13, 14, 15, 16] (.seq (.reg (.op 0 [] .nil)) (.seq (.cond .leaf .leaf) (.seq (.block (.seq (.reg (.op 0 [] (.op 1 [] (.op 2 [] (.op 3 [] (.op 4 [] (.op 5 [] .nil))))))) (.reg (.op 0 [] (.op 1 [] (.op 2 [] .nil)))))) (.reg (.op 0 [] (.op 1 [] .nil))))))))) (.seq (.reg (.op 0 [] (.op 1 [] .nil))) .leaf))))
/-- lighter/canon.turned -/
def canon_turned.res (v0 : Value) (n1 : Value) (H0 : Heap) (R : Value → Heap → Prop) : Prop :=
 ∃ (I_1 : Value → Value → Value → Heap → Prop) (m_2 : Value → Value → Value → Heap → Nat), I_1 v0 (.int .u64 0) (.int .i64 0) H0 ∧
 ∀ _ : Env, ∀ v0' : Value, ∀ out5 : Value, ∀ x7 : Value, ∀ H_3 : Heap, I_1 v0' out5 x7 H_3 →
 pLt x7 n1 fun x8 =>
 pCond x8
 (pShl out5 (.int .u64 1) fun x10 =>
 pBits .and v0' (.int .u64 1) fun x12 =>
 pBits .or x10 x12 fun x13 =>
 pShr v0' (.int .u64 1) fun x15 =>
 pAdd x7 (.int .i64 1) fun x16 =>
 I_1 x15 x13 x16 H_3 ∧ m_2 x15 x13 x16 H_3 < m_2 v0' out5 x7 H_3)
 (R out5 H_3)
set_option maxRecDepth 100000 in
theorem canon_turned.vc (v0 : Value) (n1 : Value) (H0 : Heap) (R : Value → Heap → Prop) (h : canon_turned.res v0 n1 H0 R) : CallsH Tryd.prog 97 #[v0, n1] H0 R := by
  have e : vcFn Tryd.prog Tryd.C Tryd.f97 canon_turned.an [v0, n1] H0 R = canon_turned.res v0 n1 H0 R := by kernel_rfl
  exact vcFn_sound Tryd.callable Tryd.mixed Tryd.func97 (by kernel_rfl) (e.mpr h)

def lighterref01_Bits.an : Ann := (.seq (.reg (.op 0 [] .nil)) (.seq (.reg (.op 0 [] .nil)) (.seq (.seq (.reg (.op 0 [] .nil)) (.block (.loop [3, 4] [3, 4, 5, 6, 7, 8, 9, 10, 11, 12, 13, 14, 15, 16, 17, 18, 19, 20, 21, 22, 23, 24, 25, 26, 27] (.seq (.seq (.reg (.op 0 [] (.op 1 [] (.op 2 [] (.op 3 [] .nil))))) (.cond .leaf .leaf)) (.seq (.block (.seq (.reg (.op 0 [] (.op 1 [] (.op 2 [] (.op 3 [] (.op 4 [] .nil)))))) (.seq (.reg (.op 0 [] .nil)) (.block (.loop [3, 5, 6] [3, 5, 6, 17, 18, 19, 20, 21, 22, 23, 24, 25, 26, 27] (.seq (.seq (.reg (.op 0 [] (.op 1 [] .nil))) (.cond .leaf .leaf)) (.seq (.block (.seq (.reg (.op 0 [] (.op 1 [] (.op 2 [] (.op 3 [] (.op 4 [] (.op 5 [] .nil))))))) (.reg (.op 0 [] (.op 1 [] (.op 2 [] .nil)))))) (.reg (.op 0 [] (.op 1 [] (.op 2 [] .nil))))))))))) (.reg (.op 0 [] (.op 1 [] (.op 2 [] .nil))))))))) (.seq (.reg (.op 0 [] (.op 1 [] .nil))) .leaf))))
/-- lighter/lighterref01.Bits -/
def lighterref01_Bits.res (s0 : Value) (H0 : Heap) (R : Value → Heap → Prop) : Prop :=
 ∃ (I_1 : Value → Value → Heap → Prop) (m_2 : Value → Value → Heap → Nat), I_1 (.slice none 0 0) (.int .i64 0) H0 ∧
 ∀ _ : Env, ∀ out3 : Value, ∀ i4 : Value, ∀ H_3 : Heap, I_1 out3 i4 H_3 →
 pLenS s0 fun x9 =>
 pLt i4 x9 fun x10 =>
 pCond x10
 (pIdxStr s0 i4 fun x15 =>
 pConv .i64 x15 fun x16 =>
 ∃ (I_4 : Value → Value → Value → Heap → Prop) (m_5 : Value → Value → Value → Heap → Nat), I_4 out3 x16 (.int .i64 0) H_3 ∧
 ∀ _ : Env, ∀ out3' : Value, ∀ v5 : Value, ∀ k6 : Value, ∀ H_6 : Heap, I_4 out3' v5 k6 H_6 →
 pLt k6 (.int .i64 8) fun x18 =>
 pCond x18
 (pRem v5 (.int .i64 2) fun x23 =>
 pBuildSl H_6 3 1 [(.int .i64 0)] [(0, 1, x23)] fun x24 H_7 =>
 pAppend H_7 3 1 8 [(.int .i64 0)] out3' x24 fun x25 H_8 =>
 pQuo v5 (.int .i64 2) fun x27 =>
 pAdd k6 (.int .i64 1) fun x20 =>
 I_4 x25 x27 x20 H_8 ∧ m_5 x25 x27 x20 H_8 < m_5 out3' v5 k6 H_6)
 (pAdd i4 (.int .i64 1) fun x12 =>
 I_1 out3' x12 H_6 ∧ m_2 out3' x12 H_6 < m_2 out3 i4 H_3))
 (R out3 H_3)
set_option maxRecDepth 100000 in
theorem lighterref01_Bits.vc (s0 : Value) (H0 : Heap) (R : Value → Heap → Prop) (h : lighterref01_Bits.res s0 H0 R) : CallsH Tryd.prog 57 #[s0] H0 R := by
  have e : vcFn Tryd.prog Tryd.C Tryd.f57 lighterref01_Bits.an [s0] H0 R = lighterref01_Bits.res s0 H0 R := by kernel_rfl
  exact vcFn_sound Tryd.callable Tryd.mixed Tryd.func57 (by kernel_rfl) (e.mpr h)

def lighterref01_Get.an : Ann := (.seq (.reg (.op 0 [] .nil)) (.seq (.reg (.op 0 [] .nil)) (.seq (.seq (.reg (.op 0 [] (.op 1 [] (.op 2 [] .nil)))) (.block (.loop [3, 4] [3, 4, 7, 8, 9, 10, 11, 12, 13, 14, 15, 16, 17, 18, 19, 20, 21, 22, 23] (.seq (.seq (.reg (.op 0 [] (.op 1 [] (.op 2 [] (.grp 2 (.op 3 [] (.op 4 [] (.op 5 [] .nil))) 6 .nil))))) (.cond .leaf .leaf)) (.seq (.block (.reg (.op 0 [] (.op 1 [] (.op 2 [] (.op 3 [] (.op 4 [] (.op 5 [] (.op 6 [] (.op 7 [] (.op 8 [] .nil))))))))))) (.reg (.op 0 [] (.op 1 [] (.op 2 [] .nil))))))))) (.seq (.reg (.op 0 [] (.op 1 [] .nil))) .leaf))))
/-- lighter/lighterref01.Get -/
def lighterref01_Get.res (s0 : Value) (H0 : Heap) (R : Value → Heap → Prop) : Prop :=
 pLenS s0 fun x6 =>
 ∃ (I_1 : Value → Value → Heap → Prop) (m_2 : Value → Value → Heap → Nat), I_1 (.int .u64 0) x6 H0 ∧
 ∀ _ : Env, ∀ n3 : Value, ∀ i4 : Value, ∀ H_3 : Heap, I_1 n3 i4 H_3 →
 pGt i4 (.int .i64 0) fun x8 =>
 pAnd x8 (fun J_4 =>
 pLenS s0 fun x11 =>
 pLe x11 (.int .i64 8) fun x12 =>
 J_4 x12 H_3) H_3 fun x13 H_5 => ∀ _ : Env,
 pCond x13
 (pMul (.int .u64 256) n3 fun x17 =>
 pSub i4 (.int .i64 1) fun x20 =>
 pIdxStr s0 x20 fun x21 =>
 pConv .u64 x21 fun x22 =>
 pAdd x17 x22 fun x23 =>
 pSub i4 (.int .i64 1) fun x15 =>
 I_1 x23 x15 H_5 ∧ m_2 x23 x15 H_5 < m_2 n3 i4 H_3)
 (R n3 H_5)
set_option maxRecDepth 100000 in
theorem lighterref01_Get.vc (s0 : Value) (H0 : Heap) (R : Value → Heap → Prop) (h : lighterref01_Get.res s0 H0 R) : CallsH Tryd.prog 74 #[s0] H0 R := by
  have e : vcFn Tryd.prog Tryd.C Tryd.f74 lighterref01_Get.an [s0] H0 R = lighterref01_Get.res s0 H0 R := by kernel_rfl
  exact vcFn_sound Tryd.callable Tryd.mixed Tryd.func74 (by kernel_rfl) (e.mpr h)

def lighterref01_Number.an : Ann := (.seq (.reg (.op 0 [] .nil)) (.seq (.reg (.op 0 [] .nil)) (.seq (.seq (.reg (.op 0 [] (.op 1 [] (.op 2 [] (.op 3 [] .nil))))) (.block (.loop [3, 4] [3, 4, 8, 9, 10, 11, 12, 13, 14, 15, 16, 17, 18, 19] (.seq (.seq (.reg (.op 0 [] (.op 1 [] .nil))) (.cond .leaf .leaf)) (.seq (.block (.reg (.op 0 [] (.op 1 [] (.op 2 [] (.op 3 [] (.op 4 [] (.op 5 [] (.op 6 [] (.op 7 [] (.op 8 [] .nil))))))))))) (.reg (.op 0 [] (.op 1 [] (.op 2 [] .nil))))))))) (.seq (.reg (.op 0 [] (.op 1 [] .nil))) .leaf))))
/-- lighter/lighterref01.Number -/
def lighterref01_Number.res (b0 : Value) (H0 : Heap) (R : Value → Heap → Prop) : Prop :=
 pLen b0 fun x6 =>
 pSub x6 (.int .i64 1) fun x7 =>
 ∃ (I_1 : Value → Value → Heap → Prop) (m_2 : Value → Value → Heap → Nat), I_1 (.int .u64 0) x7 H0 ∧
 ∀ _ : Env, ∀ n3 : Value, ∀ i4 : Value, ∀ H_3 : Heap, I_1 n3 i4 H_3 →
 pGe i4 (.int .i64 0) fun x9 =>
 pCond x9
 (pMul (.int .u64 2) n3 fun x13 =>
 pIdxSl 1 b0 i4 fun x16 =>
 pLoad H_3 x16 fun x17 =>
 pConv .u64 x17 fun x18 =>
 pAdd x13 x18 fun x19 =>
 pSub i4 (.int .i64 1) fun x11 =>
 I_1 x19 x11 H_3 ∧ m_2 x19 x11 H_3 < m_2 n3 i4 H_3)
 (R n3 H_3)
set_option maxRecDepth 100000 in
theorem lighterref01_Number.vc (b0 : Value) (H0 : Heap) (R : Value → Heap → Prop) (h : lighterref01_Number.res b0 H0 R) : CallsH Tryd.prog 95 #[b0] H0 R := by
  have e : vcFn Tryd.prog Tryd.C Tryd.f95 lighterref01_Number.an [b0] H0 R = lighterref01_Number.res b0 H0 R := by kernel_rfl
  exact vcFn_sound Tryd.callable Tryd.mixed Tryd.func95 (by kernel_rfl) (e.mpr h)

def lz_LengthOf.an : Ann := (.seq (.reg (.op 0 [] (.op 1 [] (.op 2 [] .nil)))) (.seq (.block (.seq (.reg (.op 0 [] (.op 1 [] (.op 2 [] (.grp 2 (.op 3 [] (.op 4 [] .nil)) 5 (.op 6 [] .nil)))))) (.cond (.seq (.reg (.op 0 [] (.op 1 [] (.op 2 [] .nil)))) .leaf) (.seq (.reg (.op 0 [] (.op 1 [] (.op 2 [] .nil)))) (.cond (.seq (.reg (.op 0 [] (.op 1 [] (.op 2 [] .nil)))) .leaf) .leaf))))) (.seq (.reg (.op 0 [] (.op 1 [] (.op 2 [] (.op 3 [] (.op 4 [] (.op 5 [] (.op 6 [] (.op 7 [] .nil))))))))) (.seq (.reg (.op 0 [] (.op 1 [] (.op 2 [] (.op 3 [] (.op 4 [] .nil)))))) .leaf))))
/-- lighter/lz.LengthOf -/
def lz_LengthOf.res (symbol0 : Value) (H0 : Heap) (R : Value → Heap → Prop) : Prop :=
 pLt symbol0 (.int .i64 257) fun x9 =>
 pOr x9 (fun J_1 =>
 pGt symbol0 (.int .i64 285) fun x12 =>
 J_1 x12 H0) H0 fun x13 H_2 => ∀ _ : Env,
 pCond x13
 (R (.tuple #[(.int .i64 0), (.int .i64 0), (.bool false)]) H_2)
 (pEq 0 symbol0 (.int .i64 285) fun x16 =>
 pCond x16
 (R (.tuple #[(.int .i64 258), (.int .i64 0), (.bool true)]) H_2)
 (pSub symbol0 (.int .i64 257) fun x19 =>
 CallsH Tryd.prog 90 #[x19, (.int .i64 3), (.int .i64 8), (.int .i64 4)] H_2 fun x20 H_3 =>
 pExtract 0 x20 fun x21 =>
 pExtract 1 x20 fun x22 =>
 R (.tuple #[x21, x22, (.bool true)]) H_3))
set_option maxRecDepth 100000 in
theorem lz_LengthOf.vc (symbol0 : Value) (H0 : Heap) (R : Value → Heap → Prop) (h : lz_LengthOf.res symbol0 H0 R) : CallsH Tryd.prog 71 #[symbol0] H0 R := by
  have e : vcFn Tryd.prog Tryd.C Tryd.f71 lz_LengthOf.an [symbol0] H0 R = lz_LengthOf.res symbol0 H0 R := by kernel_rfl
  exact vcFn_sound Tryd.callable Tryd.mixed Tryd.func71 (by kernel_rfl) (e.mpr h)

def lz_DistOf.an : Ann := (.seq (.reg (.op 0 [] (.op 1 [] (.op 2 [] .nil)))) (.seq (.seq (.reg (.op 0 [] (.op 1 [] (.op 2 [] (.grp 2 (.op 3 [] (.op 4 [] .nil)) 5 .nil))))) (.cond (.seq (.reg (.op 0 [] (.op 1 [] (.op 2 [] .nil)))) .leaf) .leaf)) (.seq (.reg (.op 0 [] (.op 1 [] (.op 2 [] (.op 3 [] (.op 4 [] (.op 5 [] (.op 6 [] .nil)))))))) (.seq (.reg (.op 0 [] (.op 1 [] (.op 2 [] (.op 3 [] (.op 4 [] .nil)))))) .leaf))))
/-- lighter/lz.DistOf -/
def lz_DistOf.res (symbol0 : Value) (H0 : Heap) (R : Value → Heap → Prop) : Prop :=
 pLt symbol0 (.int .i64 0) fun x8 =>
 pOr x8 (fun J_1 =>
 pGt symbol0 (.int .i64 29) fun x11 =>
 J_1 x11 H0) H0 fun x12 H_2 => ∀ _ : Env,
 pCond x12
 (R (.tuple #[(.int .i64 0), (.int .i64 0), (.bool false)]) H_2)
 (CallsH Tryd.prog 90 #[symbol0, (.int .i64 1), (.int .i64 4), (.int .i64 2)] H_2 fun x15 H_3 =>
 pExtract 0 x15 fun x16 =>
 pExtract 1 x15 fun x17 =>
 R (.tuple #[x16, x17, (.bool true)]) H_3)
set_option maxRecDepth 100000 in
theorem lz_DistOf.vc (symbol0 : Value) (H0 : Heap) (R : Value → Heap → Prop) (h : lz_DistOf.res symbol0 H0 R) : CallsH Tryd.prog 72 #[symbol0] H0 R := by
  have e : vcFn Tryd.prog Tryd.C Tryd.f72 lz_DistOf.an [symbol0] H0 R = lz_DistOf.res symbol0 H0 R := by kernel_rfl
  exact vcFn_sound Tryd.callable Tryd.mixed Tryd.func72 (by kernel_rfl) (e.mpr h)

def lz_steps.an : Ann := (.seq (.reg (.op 0 [] (.op 1 [] .nil))) (.seq (.seq (.reg (.op 0 [] (.op 1 [] (.op 2 [] .nil)))) (.cond (.seq (.reg (.op 0 [] (.op 1 [] (.op 2 [] (.op 3 [] (.op 4 [] .nil)))))) .leaf) .leaf)) (.seq (.reg (.op 0 [] (.op 1 [] (.op 2 [] (.op 3 [] .nil))))) (.seq (.reg (.op 0 [] .nil)) (.seq (.seq (.reg (.op 0 [] (.op 1 [] (.op 2 [] (.op 3 [] .nil))))) (.block (.loop [0, 10, 11] [0, 10, 11, 24, 25, 26, 27, 28, 29, 30, 31, 32, 33, 34, 35, 36] (.seq (.seq (.reg (.op 0 [] (.op 1 [] (.op 2 [] .nil)))) (.cond .leaf .leaf)) (.seq (.block (.seq (.reg (.op 0 [] (.op 1 [] (.op 2 [] (.op 3 [] (.op 4 [] (.op 5 [] .nil))))))) (.reg (.op 0 [] (.op 1 [] (.op 2 [] .nil)))))) (.reg (.op 0 [] (.op 1 [] (.op 2 [] (.op 3 [] .nil)))))))))) (.seq (.reg (.op 0 [] (.op 1 [] (.op 2 [] (.op 3 [] (.op 4 [] (.op 5 [] (.op 6 [] (.op 7 [] .nil))))))))) .leaf))))))
/-- lighter/lz.steps -/
def lz_steps.res (k0 : Value) (least1 : Value) (free2 : Value) (step3 : Value) (H0 : Heap) (R : Value → Heap → Prop) : Prop :=
 pLt k0 free2 fun x14 =>
 pCond x14
 (pAdd least1 k0 fun x17 =>
 R (.tuple #[x17, (.int .i64 0)]) H0)
 (pAdd least1 free2 fun x20 =>
 pSub k0 free2 fun x23 =>
 ∃ (I_1 : Value → Value → Value → Heap → Prop) (m_2 : Value → Value → Value → Heap → Nat), I_1 x23 x20 (.int .i64 1) H0 ∧
 ∀ _ : Env, ∀ k0' : Value, ∀ at10 : Value, ∀ e11 : Value, ∀ H_3 : Heap, I_1 k0' at10 e11 H_3 →
 pGe k0' step3 fun x26 =>
 pCond x26
 (pShl step3 e11 fun x33 =>
 pAdd at10 x33 fun x34 =>
 pAdd e11 (.int .i64 1) fun x36 =>
 pSub k0' step3 fun x29 =>
 I_1 x29 x34 x36 H_3 ∧ m_2 x29 x34 x36 H_3 < m_2 k0' at10 e11 H_3)
 (pShl k0' e11 fun x40 =>
 pAdd at10 x40 fun x41 =>
 R (.tuple #[x41, e11]) H_3))
set_option maxRecDepth 100000 in
theorem lz_steps.vc (k0 : Value) (least1 : Value) (free2 : Value) (step3 : Value) (H0 : Heap) (R : Value → Heap → Prop) (h : lz_steps.res k0 least1 free2 step3 H0 R) : CallsH Tryd.prog 90 #[k0, least1, free2, step3] H0 R := by
  have e : vcFn Tryd.prog Tryd.C Tryd.f90 lz_steps.an [k0, least1, free2, step3] H0 R = lz_steps.res k0 least1 free2 step3 H0 R := by kernel_rfl
  exact vcFn_sound Tryd.callable Tryd.mixed Tryd.func90 (by kernel_rfl) (e.mpr h)

def lighterref03_Words.an : Ann := (.seq (.reg (.op 0 [] .nil)) (.seq (.reg (.op 0 [] (.op 1 [] (.op 2 [] (.op 3 [] .nil))))) (.seq (.reg (.op 0 [] .nil)) (.seq (.seq (.reg (.op 0 [] .nil)) (.block (.loop [4, 5] [4, 5, 6, 7, 8, 9, 13, 14, 15, 16, 17, 18, 19, 20, 21, 22, 23, 24, 25, 26, 27, 28, 29, 30, 31, 32, 33, 34, 35, 36, 37, 38, 39, 40, 41, 42, 43, 44, 45, 46, 47, 48, 49, 50, 51, 52] (.seq (.seq (.reg (.op 0 [] (.op 1 [] .nil))) (.cond .leaf .leaf)) (.seq (.block (.seq (.reg (.op 0 [] (.op 1 [] (.op 2 [] .nil)))) (.seq (.reg (.op 0 [] .nil)) (.block (.loop [4, 6] [4, 6, 7, 8, 9, 19, 20, 21, 22, 23, 24, 25, 26, 27, 28, 29, 30, 31, 32, 33, 34, 35, 36, 37, 38, 39, 40, 41, 42, 43, 44, 45, 46, 47, 48, 49, 50, 51, 52] (.seq (.seq (.reg (.op 0 [] (.op 1 [] (.op 2 [] (.op 3 [] .nil))))) (.cond .leaf .leaf)) (.cut [4] [4, 7, 8, 9, 25, 26, 27, 28, 29, 30, 31, 32, 33, 34, 35, 36, 37, 38, 39, 40, 41, 42, 43, 44, 45, 46, 47, 48, 49, 50, 51, 52] (.block (.seq (.reg (.op 0 [] (.op 1 [] (.op 2 [] (.op 3 [] (.op 4 [] (.op 5 [] .nil))))))) (.cond (.seq (.reg (.op 0 [] .nil)) (.seq (.reg (.op 0 [] (.op 1 [] .nil))) (.seq (.seq (.reg (.op 0 [] .nil)) (.block (.loop [7, 8, 9] [7, 8, 9, 32, 33, 34, 35, 36, 37, 38, 39, 40, 41, 42, 43, 44, 45, 46] (.seq (.seq (.reg (.op 0 [] (.op 1 [] (.op 2 [] .nil)))) (.cond .leaf .leaf)) (.seq (.block (.seq (.reg (.op 0 [] (.op 1 [] (.op 2 [] (.op 3 [] (.op 4 [] (.op 5 [] (.op 6 [] (.op 7 [] (.op 8 [] .nil)))))))))) (.reg (.op 0 [] (.op 1 [] (.op 2 [] .nil)))))) (.reg (.op 0 [] (.op 1 [] (.op 2 [] .nil))))))))) (.seq (.reg (.op 0 [] (.op 1 [] (.op 2 [] (.op 3 [] (.op 4 [] .nil)))))) (.reg (.op 0 [] (.op 1 [] (.op 2 [] .nil)))))))) .leaf))) (.reg (.op 0 [] (.op 1 [] (.op 2 [] .nil))))))))))) (.reg (.op 0 [] (.op 1 [] (.op 2 [] .nil))))))))) (.seq (.reg (.op 0 [] (.op 1 [] .nil))) .leaf)))))
/-- lighter/lighterref03.Words -/
def lighterref03_Words.res (l0 : Value) (H0 : Heap) (R : Value → Heap → Prop) : Prop :=
 pLen l0 fun x11 =>
 pMakeSl H0 9 16 [(str [])] x11 x11 fun x12 H_1 =>
 ∃ (I_2 : Value → Value → Heap → Prop) (m_3 : Value → Value → Heap → Nat), I_2 (.int .i64 0) (.int .i64 1) H_1 ∧
 ∀ _ : Env, ∀ next4 : Value, ∀ n5 : Value, ∀ H_4 : Heap, I_2 next4 n5 H_4 →
 pLe n5 (.int .i64 15) fun x14 =>
 pCond x14
 (pMul next4 (.int .i64 2) fun x18 =>
 ∃ (I_5 : Value → Value → Heap → Prop) (m_6 : Value → Value → Heap → Nat), I_5 x18 (.int .i64 0) H_4 ∧
 ∀ _ : Env, ∀ next4' : Value, ∀ s6 : Value, ∀ H_7 : Heap, I_5 next4' s6 H_7 →
 pLen l0 fun x21 =>
 pLt s6 x21 fun x22 =>
 pCond x22
 (∃ J_8 : Value → Heap → Prop, (∀ _ : Env, ∀ next4'' : Value, ∀ H_9 : Heap, J_8 next4'' H_9 →
 pAdd s6 (.int .i64 1) fun x24 =>
 I_5 next4'' x24 H_9 ∧ m_6 next4'' x24 H_9 < m_6 next4' s6 H_7) ∧
 pIdxSl 1 l0 s6 fun x27 =>
 pLoad H_7 x27 fun x28 =>
 pEq 0 x28 n5 fun x30 =>
 pCond x30
 (∃ (I_10 : Value → Value → Value → Heap → Prop) (m_11 : Value → Value → Value → Heap → Nat), I_10 (str []) next4' (.int .i64 0) H_7 ∧
 ∀ _ : Env, ∀ w7 : Value, ∀ v8 : Value, ∀ k9 : Value, ∀ H_12 : Heap, I_10 w7 v8 k9 H_12 →
 pLt k9 n5 fun x34 =>
 pCond x34
 (pRem v8 (.int .i64 2) fun x38 =>
 pAdd (.int .i64 48) x38 fun x39 =>
 pConv .u8 x39 fun x40 =>
 pBuildSl H_12 5 1 [(.int .u8 0)] [(0, 1, x40)] fun x41 H_13 =>
 pStrOf H_13 x41 fun x42 =>
 pAdd x42 w7 fun x44 =>
 pQuo v8 (.int .i64 2) fun x46 =>
 pAdd k9 (.int .i64 1) fun x36 =>
 I_10 x44 x46 x36 H_13 ∧ m_11 x44 x46 x36 H_13 < m_11 w7 v8 k9 H_12)
 (pIdxSl 1 x12 s6 fun x50 =>
 pStore H_12 x50 w7 fun _ H_14 =>
 pAdd next4' (.int .i64 1) fun x52 =>
 J_8 x52 H_14))
 (J_8 next4' H_7))
 (pAdd n5 (.int .i64 1) fun x16 =>
 I_2 next4' x16 H_7 ∧ m_3 next4' x16 H_7 < m_3 next4 n5 H_4))
 (R x12 H_4)
set_option maxRecDepth 100000 in
theorem lighterref03_Words.vc (l0 : Value) (H0 : Heap) (R : Value → Heap → Prop) (h : lighterref03_Words.res l0 H0 R) : CallsH Tryd.prog 75 #[l0] H0 R := by
  have e : vcFn Tryd.prog Tryd.C Tryd.f75 lighterref03_Words.an [l0] H0 R = lighterref03_Words.res l0 H0 R := by kernel_rfl
  exact vcFn_sound Tryd.callable Tryd.mixed Tryd.func75 (by kernel_rfl) (e.mpr h)

end Go.Proofs.YtpnkoniomalcpaaDoor
