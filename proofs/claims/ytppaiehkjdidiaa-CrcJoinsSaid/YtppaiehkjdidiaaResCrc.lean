/- The residuals of package crc's functions, printed by resid.py. -/
import Derived.Test.YtppaiehkjdidiaaVcSeat
namespace Go.Proofs.Ytppaiehkjdidiaa
open Go Go.Vc Go.Proofs
set_option linter.unusedVariables false
set_option maxHeartbeats 4000000
def crc_Make.an : Ann := (.seq (.reg (.op 0 [] .nil)) (.seq (.reg (.op 0 [] .nil)) (.seq (.seq (.reg (.op 0 [] .nil)) (.block (.loop [5] [2, 3, 4, 5, 6, 7, 8, 9, 10, 11, 12, 13, 14, 15, 16, 17, 18, 19, 20, 21, 22, 23, 24] (.seq (.reg (.op 0 [] .nil)) (.seq (.cond .leaf .leaf) (.seq (.block (.seq (.reg (.op 0 [] (.op 1 [] .nil))) (.seq (.reg (.op 0 [] (.op 1 [] (.op 2 [] .nil)))) (.seq (.seq (.reg (.op 0 [] .nil)) (.block (.loop [3, 10] [3, 4, 10, 11, 12, 13, 14, 15, 16, 17, 18, 19, 20] (.seq (.reg (.op 0 [] .nil)) (.seq (.cond .leaf .leaf) (.seq (.block (.seq (.reg (.op 0 [] (.op 1 [] (.op 2 [] .nil)))) (.seq (.reg (.op 0 [] (.op 1 [] (.op 2 [] .nil)))) (.seq (.reg (.op 0 [] (.op 1 [] .nil))) (.cond (.reg (.op 0 [] (.op 1 [] (.op 2 [] .nil)))) .leaf))))) (.reg (.op 0 [] (.op 1 [] .nil))))))))) (.reg (.op 0 [] (.op 1 [] (.op 2 [] (.op 3 [] .nil))))))))) (.reg (.op 0 [] (.op 1 [] .nil))))))))) (.seq (.reg (.op 0 [] .nil)) .leaf))))
/-- lighter/crc.Make -/
def crc_Make.res (H0 : Heap) (R : Value → Heap → Prop) : Prop :=
 pBox H0 65 (.agg ((List.replicate 256 (.int .u32 0))).toArray) fun t1 H_1 =>
 ∃ (I_2 : Value → Heap → Prop) (m_3 : Value → Heap → Nat), I_2 (.int .i64 0) H_1 ∧
 ∀ _ : Env, ∀ x5 : Value, ∀ H_4 : Heap, I_2 x5 H_4 →
 pLt x5 (.int .i64 256) fun x6 =>
 pCond x6
 (pConv .u32 x5 fun x9 =>
 ∃ (I_5 : Value → Value → Heap → Prop) (m_6 : Value → Value → Heap → Nat), I_5 x9 (.int .i64 0) H_4 ∧
 ∀ _ : Env, ∀ s3 : Value, ∀ x10 : Value, ∀ H_7 : Heap, I_5 s3 x10 H_7 →
 pLt x10 (.int .i64 8) fun x11 =>
 pCond x11
 (pBits .and s3 (.int .u32 1) fun x13 =>
 pShr s3 (.int .u64 1) fun x15 =>
 pEq 0 x13 (.int .u32 1) fun x17 =>
 pCond x17
 (pBits .xor x15 (.int .u32 3988292384) fun x19 =>
 pAdd x10 (.int .i64 1) fun x20 =>
 I_5 x19 x20 H_7 ∧ m_6 x19 x20 H_7 < m_6 s3 x10 H_7)
 (pAdd x10 (.int .i64 1) fun x20 =>
 I_5 x15 x20 H_7 ∧ m_6 x15 x20 H_7 < m_6 s3 x10 H_7))
 (pIdxArr 256 1 t1 x5 fun x23 =>
 pStore H_7 x23 s3 fun _ H_8 =>
 pAdd x5 (.int .i64 1) fun x24 =>
 I_2 x24 H_8 ∧ m_3 x24 H_8 < m_3 x5 H_4))
 (R t1 H_4)
set_option maxRecDepth 100000 in
theorem crc_Make.vc (H0 : Heap) (R : Value → Heap → Prop) (h : crc_Make.res H0 R) : CallsH Try.prog 11 #[] H0 R := by
  have e : vcFn Try.prog Try.C Try.f11 crc_Make.an [] H0 R = crc_Make.res H0 R := by kernel_rfl
  exact vcFn_sound Try.callable Try.mixed Try.func11 (by kernel_rfl) (e.mpr h)

def crc_Table_Sum.an : Ann := (.seq (.reg (.op 0 [] .nil)) (.seq (.reg (.op 0 [] (.op 1 [] (.op 2 [] (.op 3 [] .nil))))) .leaf))
/-- (*lighter/crc.Table).Sum -/
def crc_Table_Sum.res (t0 : Value) (s1 : Value) (H0 : Heap) (R : Value → Heap → Prop) : Prop :=
 CallsH Try.prog 14 #[t0, (.int .u32 0), s1] H0 fun x7 H_1 =>
 R x7 H_1
set_option maxRecDepth 100000 in
theorem crc_Table_Sum.vc (t0 : Value) (s1 : Value) (H0 : Heap) (R : Value → Heap → Prop) (h : crc_Table_Sum.res t0 s1 H0 R) : CallsH Try.prog 12 #[t0, s1] H0 R := by
  have e : vcFn Try.prog Try.C Try.f12 crc_Table_Sum.an [t0, s1] H0 R = crc_Table_Sum.res t0 s1 H0 R := by kernel_rfl
  exact vcFn_sound Try.callable Try.mixed Try.func12 (by kernel_rfl) (e.mpr h)

def crc_Table_More.an : Ann := (.seq (.reg (.op 0 [] .nil)) (.seq (.seq (.reg (.op 0 [] (.op 1 [] .nil))) (.cond (.seq (.reg (.op 0 [] .nil)) .leaf) .leaf)) (.seq (.reg (.op 0 [] (.op 1 [] (.op 2 [] .nil)))) (.seq (.seq (.reg (.op 0 [] (.op 1 [] (.op 2 [] .nil)))) (.block (.loop [1, 14] [1, 7, 14, 15, 16, 17, 18, 19, 20, 21, 22, 23, 24, 25, 26, 27, 28, 29, 30] (.seq (.reg (.op 0 [] .nil)) (.seq (.cond .leaf .leaf) (.seq (.block (.seq (.reg (.op 0 [] (.op 1 [] .nil))) (.drw [0, 0, 2, 0, 0, 24, 62, 1, 255, 511, 0, 1024, 4095, 8191] (.op 0 [] (.op 1 [] (.op 2 [] (.op 3 [] (.op 4 [] (.op 5 [] (.op 6 [] (.op 7 [] (.op 8 [] (.op 9 [] (.op 10 [] (.op 11 [] (.op 12 [] (.op 13 [] .nil))))))))))))))))) (.reg (.op 0 [] (.op 1 [] .nil))))))))) (.seq (.reg (.op 0 [] (.op 1 [] (.op 2 [] .nil)))) .leaf)))))
/-- (*lighter/crc.Table).More -/
def crc_Table_More.res (t0 : Value) (sum1 : Value) (s2 : Value) (H0 : Heap) (R : Value → Heap → Prop) : Prop :=
 pEq 3 t0 (.pointer none) fun x9 =>
 pCond x9
 (R (.int .u32 0) H0)
 (pCom sum1 fun x11 =>
 pLenS s2 fun x13 =>
 ∃ (I_1 : Value → Value → Heap → Prop) (m_2 : Value → Value → Heap → Nat), I_1 x11 (.int .i64 0) H0 ∧
 ∀ _ : Env, ∀ sum1' : Value, ∀ x14 : Value, ∀ H_3 : Heap, I_1 sum1' x14 H_3 →
 pLt x14 x13 fun x15 =>
 pCond x15
 (pConv .u8 sum1' fun x19 =>
 pIdxStr s2 x14 fun x22 =>
 pBits .xor x19 x22 fun x23 =>
 pNil t0 fun x24 =>
 pIdxArr 256 1 x24 x23 fun x25 =>
 pLoad H_3 x25 fun x26 =>
 pShr sum1' (.int .u64 8) fun x28 =>
 pBits .xor x26 x28 fun x29 =>
 pAdd x14 (.int .i64 1) fun x30 =>
 I_1 x29 x30 H_3 ∧ m_2 x29 x30 H_3 < m_2 sum1' x14 H_3)
 (pCom sum1' fun x32 =>
 R x32 H_3))
set_option maxRecDepth 100000 in
theorem crc_Table_More.vc (t0 : Value) (sum1 : Value) (s2 : Value) (H0 : Heap) (R : Value → Heap → Prop) (h : crc_Table_More.res t0 sum1 s2 H0 R) : CallsH Try.prog 14 #[t0, sum1, s2] H0 R := by
  have e : vcFn Try.prog Try.C Try.f14 crc_Table_More.an [t0, sum1, s2] H0 R = crc_Table_More.res t0 sum1 s2 H0 R := by kernel_rfl
  exact vcFn_sound Try.callable Try.mixed Try.func14 (by kernel_rfl) (e.mpr h)

def crc_Join.an : Ann := (.seq (.reg (.op 0 [] .nil)) (.seq (.seq (.reg (.op 0 [] (.op 1 [] .nil))) (.cond (.seq (.reg (.op 0 [] (.op 1 [] .nil))) .leaf) .leaf)) (.seq (.reg (.op 0 [] (.op 1 [] (.op 2 [] (.op 3 [] (.op 4 [] (.op 5 [] .nil))))))) .leaf)))
/-- lighter/crc.Join -/
def crc_Join.res (a0 : Value) (b1 : Value) (n2 : Value) (H0 : Heap) (R : Value → Heap → Prop) : Prop :=
 pLt n2 (.int .i64 0) fun x8 =>
 pCond x8
 (R a0 H0)
 (CallsH Try.prog 38 #[a0, n2] H0 fun x12 H_1 =>
 pBits .xor x12 b1 fun x14 =>
 R x14 H_1)
set_option maxRecDepth 100000 in
theorem crc_Join.vc (a0 : Value) (b1 : Value) (n2 : Value) (H0 : Heap) (R : Value → Heap → Prop) (h : crc_Join.res a0 b1 n2 H0 R) : CallsH Try.prog 16 #[a0, b1, n2] H0 R := by
  have e : vcFn Try.prog Try.C Try.f16 crc_Join.an [a0, b1, n2] H0 R = crc_Join.res a0 b1 n2 H0 R := by kernel_rfl
  exact vcFn_sound Try.callable Try.mixed Try.func16 (by kernel_rfl) (e.mpr h)

def crc_Noughts.an : Ann := (.seq (.reg (.op 0 [] .nil)) (.seq (.seq (.reg (.op 0 [] (.op 1 [] .nil))) (.cond (.seq (.reg (.op 0 [] (.op 1 [] .nil))) .leaf) .leaf)) (.seq (.reg (.op 0 [] (.op 1 [] (.op 2 [] (.op 3 [] (.op 4 [] (.op 5 [] .nil))))))) .leaf)))
/-- lighter/crc.Noughts -/
def crc_Noughts.res (sum0 : Value) (n1 : Value) (H0 : Heap) (R : Value → Heap → Prop) : Prop :=
 pLt n1 (.int .i64 0) fun x6 =>
 pCond x6
 (R sum0 H0)
 (pCom sum0 fun x9 =>
 CallsH Try.prog 38 #[x9, n1] H0 fun x11 H_1 =>
 pCom x11 fun x12 =>
 R x12 H_1)
set_option maxRecDepth 100000 in
theorem crc_Noughts.vc (sum0 : Value) (n1 : Value) (H0 : Heap) (R : Value → Heap → Prop) (h : crc_Noughts.res sum0 n1 H0 R) : CallsH Try.prog 17 #[sum0, n1] H0 R := by
  have e : vcFn Try.prog Try.C Try.f17 crc_Noughts.an [sum0, n1] H0 R = crc_Noughts.res sum0 n1 H0 R := by kernel_rfl
  exact vcFn_sound Try.callable Try.mixed Try.func17 (by kernel_rfl) (e.mpr h)

def crc_shift.an : Ann := (.seq (.reg (.op 0 [] .nil)) (.seq (.reg (.op 0 [] (.op 1 [] .nil))) (.seq (.seq (.reg (.op 0 [] .nil)) (.block (.loop [5, 7] [5, 7, 8, 9, 10, 11] (.seq (.reg (.op 0 [] .nil)) (.seq (.cond .leaf .leaf) (.seq (.block (.reg (.op 0 [] (.op 1 [] (.op 2 [] .nil))))) (.reg (.op 0 [] (.op 1 [] .nil))))))))) (.seq (.block (.loop [0, 1, 5] [0, 1, 5, 12, 13, 14, 15, 16, 17, 18, 19, 20, 21, 22, 23] (.seq (.seq (.reg (.op 0 [] (.op 1 [] .nil))) (.cond .leaf .leaf)) (.seq (.block (.cut [0] [0, 16, 17, 18, 19, 20, 21] (.seq (.reg (.op 0 [] (.op 1 [] (.op 2 [] .nil)))) (.cond (.reg (.op 0 [] (.op 1 [] (.op 2 [] (.op 3 [] .nil))))) .leaf)) (.reg (.op 0 [] (.op 1 [] (.op 2 [] .nil)))))) (.reg (.op 0 [] (.op 1 [] (.op 2 [] .nil)))))))) (.seq (.reg (.op 0 [] (.op 1 [] .nil))) .leaf)))))
/-- lighter/crc.shift -/
def crc_shift.res (v0 : Value) (n1 : Value) (H0 : Heap) (R : Value → Heap → Prop) : Prop :=
 CallsH Try.prog 42 #[] H0 fun x6 H_1 =>
 ∃ (I_2 : Value → Value → Heap → Prop) (m_3 : Value → Value → Heap → Nat), I_2 x6 (.int .i64 0) H_1 ∧
 ∀ _ : Env, ∀ m5 : Value, ∀ x7 : Value, ∀ H_4 : Heap, I_2 m5 x7 H_4 →
 pLt x7 (.int .i64 3) fun x8 =>
 pCond x8
 (CallsH Try.prog 43 #[m5] H_4 fun x10 H_5 =>
 pAdd x7 (.int .i64 1) fun x11 =>
 I_2 x10 x11 H_5 ∧ m_3 x10 x11 H_5 < m_3 m5 x7 H_4)
 (∃ (I_6 : Value → Value → Value → Heap → Prop) (m_7 : Value → Value → Value → Heap → Nat), I_6 v0 n1 m5 H_4 ∧
 ∀ _ : Env, ∀ v0' : Value, ∀ n1' : Value, ∀ m5' : Value, ∀ H_8 : Heap, I_6 v0' n1' m5' H_8 →
 pGt n1' (.int .i64 0) fun x13 =>
 pCond x13
 (∃ J_9 : Value → Heap → Prop, (∀ _ : Env, ∀ v0'' : Value, ∀ H_10 : Heap, J_9 v0'' H_10 →
 CallsH Try.prog 43 #[m5'] H_10 fun x23 H_11 =>
 pShr n1' (.int .u64 1) fun x15 =>
 I_6 v0'' x15 x23 H_11 ∧ m_7 v0'' x15 x23 H_11 < m_7 v0' n1' m5' H_8) ∧
 pBits .and n1' (.int .i64 1) fun x17 =>
 pEq 0 x17 (.int .i64 1) fun x18 =>
 pCond x18
 (CallsH Try.prog 44 #[m5', v0'] H_8 fun x21 H_12 =>
 J_9 x21 H_12)
 (J_9 v0' H_8))
 (R v0' H_8))
set_option maxRecDepth 100000 in
theorem crc_shift.vc (v0 : Value) (n1 : Value) (H0 : Heap) (R : Value → Heap → Prop) (h : crc_shift.res v0 n1 H0 R) : CallsH Try.prog 38 #[v0, n1] H0 R := by
  have e : vcFn Try.prog Try.C Try.f38 crc_shift.an [v0, n1] H0 R = crc_shift.res v0 n1 H0 R := by kernel_rfl
  exact vcFn_sound Try.callable Try.mixed Try.func38 (by kernel_rfl) (e.mpr h)

def crc_one.an : Ann := (.seq (.reg (.op 0 [] .nil)) (.seq (.reg (.op 0 [] (.op 1 [] (.op 2 [] .nil)))) (.seq (.seq (.reg (.op 0 [] .nil)) (.block (.loop [2] [2, 5, 6, 7, 8, 9, 10, 11, 12, 13, 14, 15] (.seq (.seq (.reg (.op 0 [] (.op 1 [] .nil))) (.cond .leaf .leaf)) (.seq (.block (.drw [0, 0, 0, 4, 12, 1, 63, 127] (.op 0 [] (.op 1 [] (.op 2 [] (.op 3 [] (.op 4 [] (.op 5 [] (.op 6 [] (.op 7 [] .nil)))))))))) (.reg (.op 0 [] (.op 1 [] (.op 2 [] .nil))))))))) (.seq (.reg (.op 0 [] (.op 1 [] .nil))) .leaf))))
/-- lighter/crc.one -/
def crc_one.res (H0 : Heap) (R : Value → Heap → Prop) : Prop :=
 pBuild (List.replicate 32 (.int .u32 0)) [(0, 1, (.int .u32 3988292384))] fun x3 =>
 pBox H0 71 x3 fun x4 H_1 =>
 ∃ (I_2 : Value → Heap → Prop) (m_3 : Value → Heap → Nat), I_2 (.int .i64 1) H_1 ∧
 ∀ _ : Env, ∀ i2 : Value, ∀ H_4 : Heap, I_2 i2 H_4 →
 pLt i2 (.int .i64 32) fun x6 =>
 pCond x6
 (pSub i2 (.int .i64 1) fun x12 =>
 pShl (.int .u32 1) x12 fun x13 =>
 pNil x4 fun x14 =>
 pIdxArr 32 1 x14 i2 fun x15 =>
 pStore H_4 x15 x13 fun _ H_5 =>
 pAdd i2 (.int .i64 1) fun x8 =>
 I_2 x8 H_5 ∧ m_3 x8 H_5 < m_3 i2 H_4)
 (R x4 H_4)
set_option maxRecDepth 100000 in
theorem crc_one.vc (H0 : Heap) (R : Value → Heap → Prop) (h : crc_one.res H0 R) : CallsH Try.prog 42 #[] H0 R := by
  have e : vcFn Try.prog Try.C Try.f42 crc_one.an [] H0 R = crc_one.res H0 R := by kernel_rfl
  exact vcFn_sound Try.callable Try.mixed Try.func42 (by kernel_rfl) (e.mpr h)

def crc_matrix_square.an : Ann := (.seq (.reg (.op 0 [] .nil)) (.seq (.reg (.op 0 [] .nil)) (.seq (.seq (.reg (.op 0 [] .nil)) (.block (.loop [5] [4, 5, 6, 7, 8, 9, 10, 11, 12, 13, 14, 15, 16, 17] (.seq (.reg (.op 0 [] .nil)) (.seq (.cond .leaf .leaf) (.seq (.block (.seq (.reg (.op 0 [] (.op 1 [] .nil))) (.reg (.op 0 [] (.op 1 [] (.op 2 [] (.op 3 [] (.op 4 [] (.op 5 [] (.op 6 [] (.op 7 [] (.op 8 [] (.op 9 [] .nil))))))))))))) (.reg (.op 0 [] (.op 1 [] .nil))))))))) (.seq (.reg (.op 0 [] .nil)) .leaf))))
/-- (*lighter/crc.matrix).square -/
def crc_matrix_square.res (m0 : Value) (H0 : Heap) (R : Value → Heap → Prop) : Prop :=
 pBox H0 71 (.agg ((List.replicate 32 (.int .u32 0))).toArray) fun out3 H_1 =>
 ∃ (I_2 : Value → Heap → Prop) (m_3 : Value → Heap → Nat), I_2 (.int .i64 0) H_1 ∧
 ∀ _ : Env, ∀ x5 : Value, ∀ H_4 : Heap, I_2 x5 H_4 →
 pLt x5 (.int .i64 32) fun x6 =>
 pCond x6
 (pNil m0 fun x12 =>
 pIdxArr 32 1 x12 x5 fun x13 =>
 pLoad H_4 x13 fun x14 =>
 CallsH Try.prog 44 #[m0, x14] H_4 fun x15 H_5 =>
 pIdxArr 32 1 out3 x5 fun x16 =>
 pStore H_5 x16 x15 fun _ H_6 =>
 pAdd x5 (.int .i64 1) fun x17 =>
 I_2 x17 H_6 ∧ m_3 x17 H_6 < m_3 x5 H_4)
 (R out3 H_4)
set_option maxRecDepth 100000 in
theorem crc_matrix_square.vc (m0 : Value) (H0 : Heap) (R : Value → Heap → Prop) (h : crc_matrix_square.res m0 H0 R) : CallsH Try.prog 43 #[m0] H0 R := by
  have e : vcFn Try.prog Try.C Try.f43 crc_matrix_square.an [m0] H0 R = crc_matrix_square.res m0 H0 R := by kernel_rfl
  exact vcFn_sound Try.callable Try.mixed Try.func43 (by kernel_rfl) (e.mpr h)

def crc_matrix_times.an : Ann := (.seq (.reg (.op 0 [] .nil)) (.seq (.reg (.op 0 [] .nil)) (.seq (.seq (.reg (.op 0 [] .nil)) (.block (.loop [1, 5, 6] [1, 5, 6, 7, 8, 9, 10, 11, 12, 13, 14, 15, 16, 17, 18, 19, 20, 21, 22] (.seq (.seq (.reg (.op 0 [] (.op 1 [] .nil))) (.cond .leaf .leaf)) (.seq (.block (.cut [5] [5, 11, 12, 13, 14, 15, 16, 17, 18, 19, 20] (.seq (.reg (.op 0 [] (.op 1 [] (.op 2 [] .nil)))) (.cond (.reg (.op 0 [] (.op 1 [] (.op 2 [] (.op 3 [] (.op 4 [] (.op 5 [] (.op 6 [] (.op 7 [] .nil))))))))) .leaf)) (.reg (.op 0 [] (.op 1 [] (.op 2 [] .nil)))))) (.reg (.op 0 [] (.op 1 [] (.op 2 [] .nil))))))))) (.seq (.reg (.op 0 [] (.op 1 [] .nil))) .leaf))))
/-- (*lighter/crc.matrix).times -/
def crc_matrix_times.res (m0 : Value) (v1 : Value) (H0 : Heap) (R : Value → Heap → Prop) : Prop :=
 ∃ (I_1 : Value → Value → Value → Heap → Prop) (m_2 : Value → Value → Value → Heap → Nat), I_1 v1 (.int .u32 0) (.int .i64 0) H0 ∧
 ∀ _ : Env, ∀ v1' : Value, ∀ out5 : Value, ∀ i6 : Value, ∀ H_3 : Heap, I_1 v1' out5 i6 H_3 →
 pNe 0 v1' (.int .u32 0) fun x8 =>
 pCond x8
 (∃ J_4 : Value → Heap → Prop, (∀ _ : Env, ∀ out5' : Value, ∀ H_5 : Heap, J_4 out5' H_5 →
 pShr v1' (.int .u64 1) fun x22 =>
 pAdd i6 (.int .i64 1) fun x10 =>
 I_1 x22 out5' x10 H_5 ∧ m_2 x22 out5' x10 H_5 < m_2 v1' out5 i6 H_3) ∧
 pBits .and v1' (.int .u32 1) fun x12 =>
 pEq 0 x12 (.int .u32 1) fun x13 =>
 pCond x13
 (pNil m0 fun x17 =>
 pIdxArr 32 1 x17 i6 fun x18 =>
 pLoad H_3 x18 fun x19 =>
 pBits .xor out5 x19 fun x20 =>
 J_4 x20 H_3)
 (J_4 out5 H_3))
 (R out5 H_3)
set_option maxRecDepth 100000 in
theorem crc_matrix_times.vc (m0 : Value) (v1 : Value) (H0 : Heap) (R : Value → Heap → Prop) (h : crc_matrix_times.res m0 v1 H0 R) : CallsH Try.prog 44 #[m0, v1] H0 R := by
  have e : vcFn Try.prog Try.C Try.f44 crc_matrix_times.an [m0, v1] H0 R = crc_matrix_times.res m0 v1 H0 R := by kernel_rfl
  exact vcFn_sound Try.callable Try.mixed Try.func44 (by kernel_rfl) (e.mpr h)

end Go.Proofs.Ytppaiehkjdidiaa
