/- The residuals of package crc's functions, printed by resid.py. -/
import Derived.Test.YtaopejkbnohiiaaVcSeat
namespace Go.Proofs.Ytaopejkbnohiiaa
open Go Go.Vc Go.Proofs
set_option linter.unusedVariables false
set_option maxHeartbeats 4000000
def crc_Make.an : Ann := (.seq (.reg (.op 0 [] .nil)) (.seq (.reg (.op 0 [] .nil)) (.seq (.seq (.reg (.op 0 [] .nil)) (.block (.loop [5] [2, 3, 4, 5, 6, 7, 8, 9, 10, 11, 12, 13, 14, 15, 16, 17, 18, 19, 20, 21, 22, 23, 24] (.seq (.reg (.op 0 [] .nil)) (.seq (.cond .leaf .leaf) (.seq (.block (.seq (.reg (.op 0 [] (.op 1 [] .nil))) (.seq (.reg (.op 0 [] (.op 1 [] (.op 2 [] .nil)))) (.seq (.seq (.reg (.op 0 [] .nil)) (.block (.loop [3, 10] [3, 4, 10, 11, 12, 13, 14, 15, 16, 17, 18, 19, 20] (.seq (.reg (.op 0 [] .nil)) (.seq (.cond .leaf .leaf) (.seq (.block (.seq (.reg (.op 0 [] (.op 1 [] (.op 2 [] .nil)))) (.seq (.reg (.op 0 [] (.op 1 [] (.op 2 [] .nil)))) (.seq (.reg (.op 0 [] (.op 1 [] .nil))) (.cond (.reg (.op 0 [] (.op 1 [] (.op 2 [] .nil)))) .leaf))))) (.reg (.op 0 [] (.op 1 [] .nil))))))))) (.reg (.op 0 [] (.op 1 [] (.op 2 [] (.op 3 [] .nil))))))))) (.reg (.op 0 [] (.op 1 [] .nil))))))))) (.seq (.reg (.op 0 [] .nil)) .leaf))))
/-- lighter/crc.Make -/
def crc_Make.res (H0 : Heap) (R : Value → Heap → Prop) : Prop :=
 pBox H0 93 (.agg ((List.replicate 256 (.int .u32 0))).toArray) fun t1 H_1 =>
 ∃ (I_2 : Value → Heap → Prop) (m_3 : Value → Heap → Nat), I_2 (.int .i64 0) H_1 ∧
 ∀ _ : Env, ∀ x5 : Value, ∀ H_4 : Heap, I_2 x5 H_4 →
 pLt x5 (.int .i64 256) fun x6 =>
 pCond x6
 (pConv .u32 x5 fun x9 =>
 ∃ (I_5 : Value → Value → Heap → Prop) (m_6 : Value → Value → Heap → Nat), I_5 x9 (.int .i64 0) H_4 ∧
 ∀ _ : Env, ∀ s3 : Value, ∀ x10 : Value, ∀ H_7 : Heap, I_5 s3 x10 H_7 →
 pLt x10 (.int .i64 8) fun x11 =>
 pCond x11
 (pBits .and s3 (.int .u32 1) fun x13 =>
 pShr s3 (.int .u64 1) fun x15 =>
 pEq 0 x13 (.int .u32 1) fun x17 =>
 pCond x17
 (pBits .xor x15 (.int .u32 3988292384) fun x19 =>
 pAdd x10 (.int .i64 1) fun x20 =>
 I_5 x19 x20 H_7 ∧ m_6 x19 x20 H_7 < m_6 s3 x10 H_7)
 (pAdd x10 (.int .i64 1) fun x20 =>
 I_5 x15 x20 H_7 ∧ m_6 x15 x20 H_7 < m_6 s3 x10 H_7))
 (pIdxArr 256 1 t1 x5 fun x23 =>
 pStore H_7 x23 s3 fun _ H_8 =>
 pAdd x5 (.int .i64 1) fun x24 =>
 I_2 x24 H_8 ∧ m_3 x24 H_8 < m_3 x5 H_4))
 (R t1 H_4)
set_option maxRecDepth 100000 in
theorem crc_Make.vc (H0 : Heap) (R : Value → Heap → Prop) (h : crc_Make.res H0 R) : CallsH Try.prog 31 #[] H0 R := by
  have e : vcFn Try.prog Try.C Try.f31 crc_Make.an [] H0 R = crc_Make.res H0 R := by kernel_rfl
  exact vcFn_sound Try.callable Try.mixed Try.func31 (by kernel_rfl) (e.mpr h)

def crc_Table_Sum.an : Ann := (.seq (.reg (.op 0 [] .nil)) (.seq (.reg (.op 0 [] (.op 1 [] (.op 2 [] (.op 3 [] .nil))))) .leaf))
/-- (*lighter/crc.Table).Sum -/
def crc_Table_Sum.res (t0 : Value) (s1 : Value) (H0 : Heap) (R : Value → Heap → Prop) : Prop :=
 CallsH Try.prog 48 #[t0, (.int .u32 0), s1] H0 fun x7 H_1 =>
 R x7 H_1
set_option maxRecDepth 100000 in
theorem crc_Table_Sum.vc (t0 : Value) (s1 : Value) (H0 : Heap) (R : Value → Heap → Prop) (h : crc_Table_Sum.res t0 s1 H0 R) : CallsH Try.prog 32 #[t0, s1] H0 R := by
  have e : vcFn Try.prog Try.C Try.f32 crc_Table_Sum.an [t0, s1] H0 R = crc_Table_Sum.res t0 s1 H0 R := by kernel_rfl
  exact vcFn_sound Try.callable Try.mixed Try.func32 (by kernel_rfl) (e.mpr h)

def crc_Table_More.an : Ann := (.seq (.reg (.op 0 [] .nil)) (.seq (.seq (.reg (.op 0 [] (.op 1 [] .nil))) (.cond (.seq (.reg (.op 0 [] .nil)) .leaf) .leaf)) (.seq (.reg (.op 0 [] (.op 1 [] (.op 2 [] .nil)))) (.seq (.seq (.reg (.op 0 [] (.op 1 [] (.op 2 [] .nil)))) (.block (.loop [1, 14] [1, 7, 14, 15, 16, 17, 18, 19, 20, 21, 22, 23, 24, 25, 26, 27, 28, 29, 30] (.seq (.reg (.op 0 [] .nil)) (.seq (.cond .leaf .leaf) (.seq (.block (.seq (.reg (.op 0 [] (.op 1 [] .nil))) (.drw [0, 0, 2, 0, 0, 24, 62, 1, 255, 511, 0, 1024, 4095, 8191] (.op 0 [] (.op 1 [] (.op 2 [] (.op 3 [] (.op 4 [] (.op 5 [] (.op 6 [] (.op 7 [] (.op 8 [] (.op 9 [] (.op 10 [] (.op 11 [] (.op 12 [] (.op 13 [] .nil))))))))))))))))) (.reg (.op 0 [] (.op 1 [] .nil))))))))) (.seq (.reg (.op 0 [] (.op 1 [] (.op 2 [] .nil)))) .leaf)))))
/-- (*lighter/crc.Table).More -/
def crc_Table_More.res (t0 : Value) (sum1 : Value) (s2 : Value) (H0 : Heap) (R : Value → Heap → Prop) : Prop :=
 pEq 3 t0 (.pointer none) fun x9 =>
 pCond x9
 (R (.int .u32 0) H0)
 (pCom sum1 fun x11 =>
 pLenS s2 fun x13 =>
 ∃ (I_1 : Value → Value → Heap → Prop) (m_2 : Value → Value → Heap → Nat), I_1 x11 (.int .i64 0) H0 ∧
 ∀ _ : Env, ∀ sum1' : Value, ∀ x14 : Value, ∀ H_3 : Heap, I_1 sum1' x14 H_3 →
 pLt x14 x13 fun x15 =>
 pCond x15
 (pConv .u8 sum1' fun x19 =>
 pIdxStr s2 x14 fun x22 =>
 pBits .xor x19 x22 fun x23 =>
 pNil t0 fun x24 =>
 pIdxArr 256 1 x24 x23 fun x25 =>
 pLoad H_3 x25 fun x26 =>
 pShr sum1' (.int .u64 8) fun x28 =>
 pBits .xor x26 x28 fun x29 =>
 pAdd x14 (.int .i64 1) fun x30 =>
 I_1 x29 x30 H_3 ∧ m_2 x29 x30 H_3 < m_2 sum1' x14 H_3)
 (pCom sum1' fun x32 =>
 R x32 H_3))
set_option maxRecDepth 100000 in
theorem crc_Table_More.vc (t0 : Value) (sum1 : Value) (s2 : Value) (H0 : Heap) (R : Value → Heap → Prop) (h : crc_Table_More.res t0 sum1 s2 H0 R) : CallsH Try.prog 48 #[t0, sum1, s2] H0 R := by
  have e : vcFn Try.prog Try.C Try.f48 crc_Table_More.an [t0, sum1, s2] H0 R = crc_Table_More.res t0 sum1 s2 H0 R := by kernel_rfl
  exact vcFn_sound Try.callable Try.mixed Try.func48 (by kernel_rfl) (e.mpr h)

end Go.Proofs.Ytaopejkbnohiiaa
