/- The residuals of package dos's functions, printed by resid.py. -/
import Derived.Test.YtabfckcbijinkaaVcSeat
namespace Go.Proofs.Ytabfckcbijinkaa
open Go Go.Vc Go.Proofs
set_option linter.unusedVariables false
set_option maxHeartbeats 4000000
def dos_Unpack.an : Ann := (.seq (.reg (.op 0 [] (.op 1 [] .nil))) (.seq (.seq (.reg (.op 0 [] (.op 1 [] (.op 2 [] (.grp 2 (.op 3 [] (.op 4 [] .nil)) 5 .nil))))) (.cond (.seq (.reg (.op 0 [] (.op 1 [] (.op 2 [] .nil)))) .leaf) .leaf)) (.seq (.reg (.op 0 [] (.op 1 [] (.op 2 [] (.op 3 [] (.op 4 [] (.op 5 [] .nil))))))) (.seq (.reg (.op 0 [] (.op 1 [] (.op 2 [] (.op 3 [] (.op 4 [] (.op 5 [] (.op 6 [] (.op 7 [] (.op 8 [] (.op 9 [] (.op 10 [] (.op 11 [] (.op 12 [] (.op 13 [] (.op 14 [] (.op 15 [] (.op 16 [] (.op 17 [] (.op 18 [] .nil)))))))))))))))))))) (.seq (.seq (.reg (.op 0 [] (.op 1 [] (.op 2 [] .nil)))) (.cond (.seq (.reg (.op 0 [] (.op 1 [] (.op 2 [] .nil)))) .leaf) .leaf)) (.seq (.reg (.op 0 [] (.op 1 [] (.op 2 [] .nil)))) .leaf))))))
/-- lighter/dos.Unpack -/
def dos_Unpack.res (date0 : Value) (time1 : Value) (H0 : Heap) (R : Value → Heap → Prop) : Prop :=
 pBox H0 25 (.agg #[(.int .i64 0), (.int .i64 0), (.int .i64 0), (.int .i64 0), (.int .i64 0), (.int .i64 0)]) fun x4 H_1 =>
 pGe date0 (.int .u64 65536) fun x10 =>
 pOr x10 (fun J_2 =>
 pGe time1 (.int .u64 65536) fun x13 =>
 J_2 x13 H_1) H_1 fun x14 H_3 => ∀ _ : Env,
 pCond x14
 (pBuild [(.int .i64 0), (.int .i64 0), (.int .i64 0), (.int .i64 0), (.int .i64 0), (.int .i64 0)] [] fun x15 =>
 pStoreN H_3 6 x4 x15 fun _ H_4 =>
 pLoadN H_4 6 x4 fun r_5 =>
 R (.tuple #[r_5, (.bool false)]) H_4)
 (pConv .i64 date0 fun x17 =>
 pConv .i64 time1 fun x19 =>
 pShr x17 (.int .u64 9) fun x21 =>
 pAdd x21 (.int .i64 1980) fun x22 =>
 pShr x17 (.int .u64 5) fun x24 =>
 pBits .and x24 (.int .i64 15) fun x25 =>
 pBits .and x17 (.int .i64 31) fun x27 =>
 pShr x19 (.int .u64 11) fun x29 =>
 pShr x19 (.int .u64 5) fun x31 =>
 pBits .and x31 (.int .i64 63) fun x32 =>
 pBits .and x19 (.int .i64 31) fun x34 =>
 pMul x34 (.int .i64 2) fun x35 =>
 pBuild [(.int .i64 0), (.int .i64 0), (.int .i64 0), (.int .i64 0), (.int .i64 0), (.int .i64 0)] [(0, 1, x22), (1, 1, x25), (2, 1, x27), (3, 1, x29), (4, 1, x32), (5, 1, x35)] fun x36 =>
 pBox H_3 25 (.agg #[(.int .i64 0), (.int .i64 0), (.int .i64 0), (.int .i64 0), (.int .i64 0), (.int .i64 0)]) fun t8 H_6 =>
 pStoreN H_6 6 t8 x36 fun _ H_7 =>
 pLoadN H_7 6 t8 fun x37 =>
 CallsH Try.prog 13 #[x37] H_7 fun x38 H_8 =>
 pNot x38 fun x39 =>
 pCond x39
 (pBuild [(.int .i64 0), (.int .i64 0), (.int .i64 0), (.int .i64 0), (.int .i64 0), (.int .i64 0)] [] fun x40 =>
 pStoreN H_8 6 x4 x40 fun _ H_9 =>
 pLoadN H_9 6 x4 fun r_10 =>
 R (.tuple #[r_10, (.bool false)]) H_9)
 (pLoadN H_8 6 t8 fun x41 =>
 pStoreN H_8 6 x4 x41 fun _ H_11 =>
 pLoadN H_11 6 x4 fun r_12 =>
 R (.tuple #[r_12, (.bool true)]) H_11))
set_option maxRecDepth 100000 in
theorem dos_Unpack.vc (date0 : Value) (time1 : Value) (H0 : Heap) (R : Value → Heap → Prop) (h : dos_Unpack.res date0 time1 H0 R) : CallsH Try.prog 9 #[date0, time1] H0 R := by
  have e : vcFn Try.prog Try.C Try.f9 dos_Unpack.an [date0, time1] H0 R = dos_Unpack.res date0 time1 H0 R := by kernel_rfl
  exact vcFn_sound Try.callable Try.mixed Try.func9 (by kernel_rfl) (e.mpr h)

def dos_Time_Pack.an : Ann := (.seq (.reg (.op 0 [] (.op 1 [] (.op 2 [] (.op 3 [] .nil))))) (.seq (.seq (.reg (.op 0 [] (.op 1 [] (.op 2 [] .nil)))) (.cond (.seq (.reg (.op 0 [] (.op 1 [] (.op 2 [] .nil)))) .leaf) .leaf)) (.seq (.drw [0, 1, 0, 4, 12, 31, 0, 64, 192, 448, 1023, 2047, 0, 4096, 12288, 0, 32768, 98304, 258048, 0, 524288, 1572864, 4190208, 8384512, 4095, 33554431, 67108863] (.op 0 [] (.op 1 [] (.op 2 [] (.op 3 [] (.op 4 [] (.op 5 [] (.op 6 [] (.op 7 [] (.op 8 [] (.op 9 [] (.op 10 [] (.op 11 [] (.op 12 [] (.op 13 [] (.op 14 [] (.op 15 [] (.op 16 [] (.op 17 [] (.op 18 [] (.op 19 [] (.op 20 [] (.op 21 [] (.op 22 [] (.op 23 [] (.op 24 [] (.op 25 [] (.op 26 [] .nil)))))))))))))))))))))))))))) .leaf)))
/-- (lighter/dos.Time).Pack -/
def dos_Time_Pack.res (t0 : Value) (H0 : Heap) (R : Value → Heap → Prop) : Prop :=
 pBox H0 25 t0 fun t1 H_1 =>
 pLoadN H_1 6 t1 fun x5 =>
 CallsH Try.prog 13 #[x5] H_1 fun x6 H_2 =>
 pNot x6 fun x7 =>
 pCond x7
 (R (.tuple #[(.int .u64 0), (.int .u64 0), (.bool false)]) H_2)
 (pFieldAddr 2 t1 fun x8 =>
 pLoad H_2 x8 fun x9 =>
 pFieldAddr 1 t1 fun x10 =>
 pLoad H_2 x10 fun x11 =>
 pShl x11 (.int .u64 5) fun x12 =>
 pBits .or x9 x12 fun x13 =>
 pFieldAddr 0 t1 fun x14 =>
 pLoad H_2 x14 fun x15 =>
 pSub x15 (.int .i64 1980) fun x16 =>
 pShl x16 (.int .u64 9) fun x17 =>
 pBits .or x13 x17 fun x18 =>
 pConv .u64 x18 fun x19 =>
 pFieldAddr 5 t1 fun x20 =>
 pLoad H_2 x20 fun x21 =>
 pQuo x21 (.int .i64 2) fun x22 =>
 pFieldAddr 4 t1 fun x23 =>
 pLoad H_2 x23 fun x24 =>
 pShl x24 (.int .u64 5) fun x25 =>
 pBits .or x22 x25 fun x26 =>
 pFieldAddr 3 t1 fun x27 =>
 pLoad H_2 x27 fun x28 =>
 pShl x28 (.int .u64 11) fun x29 =>
 pBits .or x26 x29 fun x30 =>
 pConv .u64 x30 fun x31 =>
 R (.tuple #[x19, x31, (.bool true)]) H_2)
set_option maxRecDepth 100000 in
theorem dos_Time_Pack.vc (t0 : Value) (H0 : Heap) (R : Value → Heap → Prop) (h : dos_Time_Pack.res t0 H0 R) : CallsH Try.prog 10 #[t0] H0 R := by
  have e : vcFn Try.prog Try.C Try.f10 dos_Time_Pack.an [t0] H0 R = dos_Time_Pack.res t0 H0 R := by kernel_rfl
  exact vcFn_sound Try.callable Try.mixed Try.func10 (by kernel_rfl) (e.mpr h)

def dos_Of.an : Ann := (.seq (.reg (.op 0 [] (.op 1 [] .nil))) (.seq (.seq (.reg (.op 0 [] (.op 1 [] .nil))) (.cond (.seq (.reg (.op 0 [] (.op 1 [] (.op 2 [] .nil)))) .leaf) .leaf)) (.seq (.reg (.op 0 [] (.op 1 [] (.op 2 [] (.op 3 [] (.op 4 [] (.op 5 [] .nil))))))) (.seq (.reg (.op 0 [] (.op 1 [] (.op 2 [] (.op 3 [] (.op 4 [] (.op 5 [] (.op 6 [] (.op 7 [] (.op 8 [] (.op 9 [] (.op 10 [] .nil)))))))))))) (.cut [4] [4, 7, 24, 25, 26, 27, 28, 29, 30, 31, 32, 33, 34, 35, 36, 37, 38, 39, 40] (.block (.loop [4] [4, 7, 24, 25, 26, 27, 28, 29, 30, 31, 32, 33, 34, 35, 36, 37, 38, 39, 40] (.seq (.seq (.reg (.op 0 [] (.op 1 [] (.op 2 [] .nil)))) (.cond .leaf .leaf)) (.block (.seq (.reg (.op 0 [] (.op 1 [] (.op 2 [] (.op 3 [] (.op 4 [] .nil)))))) (.seq (.seq (.reg (.op 0 [] (.op 1 [] (.op 2 [] .nil)))) (.cond .leaf .leaf)) (.seq (.reg (.op 0 [] (.op 1 [] (.op 2 [] (.op 3 [] .nil))))) (.reg (.op 0 [] (.op 1 [] (.op 2 [] (.op 3 [] (.op 4 [] .nil))))))))))))) (.seq (.seq (.reg (.op 0 [] (.op 1 [] (.op 2 [] .nil)))) (.cond (.seq (.reg (.op 0 [] (.op 1 [] (.op 2 [] .nil)))) .leaf) .leaf)) (.seq (.block (.loop [4] [4, 45, 46, 47, 48, 49, 50, 51, 52, 53, 54, 55, 56, 57, 58, 59, 60, 61, 62] (.seq (.seq (.reg (.op 0 [] (.op 1 [] (.op 2 [] (.op 3 [] (.op 4 [] (.op 5 [] (.op 6 [] .nil)))))))) (.cond .leaf .leaf)) (.block (.seq (.reg (.op 0 [] (.op 1 [] (.op 2 [] (.op 3 [] (.op 4 [] (.op 5 [] (.op 6 [] (.op 7 [] .nil))))))))) (.reg (.op 0 [] (.op 1 [] (.op 2 [] (.op 3 [] (.op 4 [] .nil))))))))))) (.seq (.reg (.op 0 [] (.op 1 [] (.op 2 [] (.op 3 [] (.op 4 [] (.op 5 [] .nil))))))) (.seq (.reg (.op 0 [] (.op 1 [] (.op 2 [] .nil)))) .leaf)))))))))
/-- lighter/dos.Of -/
def dos_Of.res (n0 : Value) (H0 : Heap) (R : Value → Heap → Prop) : Prop :=
 pBox H0 25 (.agg #[(.int .i64 0), (.int .i64 0), (.int .i64 0), (.int .i64 0), (.int .i64 0), (.int .i64 0)]) fun x2 H_1 =>
 pLt n0 (.int .i64 0) fun x9 =>
 pCond x9
 (pBuild [(.int .i64 0), (.int .i64 0), (.int .i64 0), (.int .i64 0), (.int .i64 0), (.int .i64 0)] [] fun x10 =>
 pStoreN H_1 6 x2 x10 fun _ H_2 =>
 pLoadN H_2 6 x2 fun r_3 =>
 R (.tuple #[r_3, (.bool false)]) H_2)
 (pQuo n0 (.int .i64 43200) fun x12 =>
 pRem n0 (.int .i64 43200) fun x14 =>
 pQuo x14 (.int .i64 1800) fun x16 =>
 pQuo x14 (.int .i64 30) fun x18 =>
 pRem x18 (.int .i64 60) fun x19 =>
 pRem x14 (.int .i64 30) fun x21 =>
 pMul x21 (.int .i64 2) fun x22 =>
 pBuild [(.int .i64 0), (.int .i64 0), (.int .i64 0), (.int .i64 0), (.int .i64 0), (.int .i64 0)] [(0, 1, (.int .i64 1980)), (1, 1, (.int .i64 1)), (2, 1, (.int .i64 1)), (3, 1, x16), (4, 1, x19), (5, 1, x22)] fun x23 =>
 pBox H_1 25 (.agg #[(.int .i64 0), (.int .i64 0), (.int .i64 0), (.int .i64 0), (.int .i64 0), (.int .i64 0)]) fun t6 H_4 =>
 pStoreN H_4 6 t6 x23 fun _ H_5 =>
 ∃ J_6 : Value → Heap → Prop, (∀ _ : Env, ∀ days4 : Value, ∀ H_7 : Heap, J_6 days4 H_7 →
 pFieldAddr 0 t6 fun x41 =>
 pLoad H_7 x41 fun x42 =>
 pGt x42 (.int .i64 2107) fun x43 =>
 pCond x43
 (pBuild [(.int .i64 0), (.int .i64 0), (.int .i64 0), (.int .i64 0), (.int .i64 0), (.int .i64 0)] [] fun x44 =>
 pStoreN H_7 6 x2 x44 fun _ H_8 =>
 pLoadN H_8 6 x2 fun r_9 =>
 R (.tuple #[r_9, (.bool false)]) H_8)
 (∃ (I_10 : Value → Heap → Prop) (m_11 : Value → Heap → Nat), I_10 days4 H_7 ∧
 ∀ _ : Env, ∀ days4' : Value, ∀ H_12 : Heap, I_10 days4' H_12 →
 pFieldAddr 0 t6 fun x46 =>
 pLoad H_12 x46 fun x47 =>
 pFieldAddr 1 t6 fun x48 =>
 pLoad H_12 x48 fun x49 =>
 CallsH Try.prog 24 #[x47, x49] H_12 fun x50 H_13 =>
 pGe days4' x50 fun x51 =>
 pCond x51
 (pFieldAddr 0 t6 fun x53 =>
 pLoad H_13 x53 fun x54 =>
 pFieldAddr 1 t6 fun x55 =>
 pLoad H_13 x55 fun x56 =>
 CallsH Try.prog 24 #[x54, x56] H_13 fun x57 H_14 =>
 pSub days4' x57 fun x58 =>
 pFieldAddr 1 t6 fun x59 =>
 pLoad H_14 x59 fun x60 =>
 pAdd x60 (.int .i64 1) fun x61 =>
 pFieldAddr 1 t6 fun x62 =>
 pStore H_14 x62 x61 fun _ H_15 =>
 I_10 x58 H_15 ∧ m_11 x58 H_15 < m_11 days4' H_12)
 (pFieldAddr 2 t6 fun x63 =>
 pLoad H_13 x63 fun x64 =>
 pAdd x64 days4' fun x66 =>
 pFieldAddr 2 t6 fun x67 =>
 pStore H_13 x67 x66 fun _ H_16 =>
 pLoadN H_16 6 t6 fun x68 =>
 pStoreN H_16 6 x2 x68 fun _ H_17 =>
 pLoadN H_17 6 x2 fun r_18 =>
 R (.tuple #[r_18, (.bool true)]) H_17))) ∧
 ∃ (I_19 : Value → Heap → Prop) (m_20 : Value → Heap → Nat), I_19 x12 H_5 ∧
 ∀ _ : Env, ∀ days4'' : Value, ∀ H_21 : Heap, I_19 days4'' H_21 →
 pFieldAddr 0 t6 fun x24 =>
 pLoad H_21 x24 fun x25 =>
 pLe x25 (.int .i64 2107) fun x26 =>
 pCond x26
 (pFieldAddr 0 t6 fun x27 =>
 pLoad H_21 x27 fun x28 =>
 CallsH Try.prog 24 #[x28, (.int .i64 2)] H_21 fun x29 H_22 =>
 pAdd (.int .i64 337) x29 fun x30 =>
 pLt days4'' x30 fun x33 =>
 pCond x33
 (J_6 days4'' H_22)
 (pSub days4'' x30 fun x36 =>
 pFieldAddr 0 t6 fun x37 =>
 pLoad H_22 x37 fun x38 =>
 pAdd x38 (.int .i64 1) fun x39 =>
 pFieldAddr 0 t6 fun x40 =>
 pStore H_22 x40 x39 fun _ H_23 =>
 I_19 x36 H_23 ∧ m_20 x36 H_23 < m_20 days4'' H_21))
 (J_6 days4'' H_21))
set_option maxRecDepth 100000 in
theorem dos_Of.vc (n0 : Value) (H0 : Heap) (R : Value → Heap → Prop) (h : dos_Of.res n0 H0 R) : CallsH Try.prog 11 #[n0] H0 R := by
  have e : vcFn Try.prog Try.C Try.f11 dos_Of.an [n0] H0 R = dos_Of.res n0 H0 R := by kernel_rfl
  exact vcFn_sound Try.callable Try.mixed Try.func11 (by kernel_rfl) (e.mpr h)

def dos_Time_Number.an : Ann := (.seq (.reg (.op 0 [] (.op 1 [] .nil))) (.seq (.seq (.reg (.op 0 [] (.op 1 [] (.op 2 [] .nil)))) (.cond (.seq (.reg (.op 0 [] .nil)) .leaf) .leaf)) (.seq (.reg (.op 0 [] (.op 1 [] (.op 2 [] (.op 3 [] .nil))))) (.seq (.seq (.reg (.op 0 [] .nil)) (.block (.loop [3, 4] [3, 4, 12, 13, 14, 15, 16, 17, 18, 19, 20, 21, 22] (.seq (.seq (.reg (.op 0 [] (.op 1 [] (.op 2 [] (.op 3 [] .nil))))) (.cond .leaf .leaf)) (.seq (.block (.reg (.op 0 [] (.op 1 [] (.op 2 [] (.op 3 [] (.op 4 [] (.op 5 [] .nil)))))))) (.reg (.op 0 [] (.op 1 [] (.op 2 [] .nil))))))))) (.seq (.seq (.reg (.op 0 [] .nil)) (.block (.loop [3, 5] [3, 5, 23, 24, 25, 26, 27, 28, 29, 30, 31, 32, 33, 34] (.seq (.seq (.reg (.op 0 [] (.op 1 [] (.op 2 [] (.op 3 [] .nil))))) (.cond .leaf .leaf)) (.seq (.block (.reg (.op 0 [] (.op 1 [] (.op 2 [] (.op 3 [] (.op 4 [] (.op 5 [] (.op 6 [] .nil))))))))) (.reg (.op 0 [] (.op 1 [] (.op 2 [] .nil))))))))) (.seq (.reg (.op 0 [] (.op 1 [] (.op 2 [] (.op 3 [] (.op 4 [] (.op 5 [] (.op 6 [] (.op 7 [] (.op 8 [] (.op 9 [] (.op 10 [] (.op 11 [] (.op 12 [] (.op 13 [] (.op 14 [] .nil)))))))))))))))) .leaf))))))
/-- (lighter/dos.Time).Number -/
def dos_Time_Number.res (t0 : Value) (H0 : Heap) (R : Value → Heap → Prop) : Prop :=
 pBox H0 25 t0 fun t1 H_1 =>
 pLoadN H_1 6 t1 fun x6 =>
 CallsH Try.prog 13 #[x6] H_1 fun x7 H_2 =>
 pNot x7 fun x8 =>
 pCond x8
 (R (.int .i64 (-1)) H_2)
 (pFieldAddr 2 t1 fun x9 =>
 pLoad H_2 x9 fun x10 =>
 pSub x10 (.int .i64 1) fun x11 =>
 ∃ (I_3 : Value → Value → Heap → Prop) (m_4 : Value → Value → Heap → Nat), I_3 x11 (.int .i64 1980) H_2 ∧
 ∀ _ : Env, ∀ days3 : Value, ∀ y4 : Value, ∀ H_5 : Heap, I_3 days3 y4 H_5 →
 pFieldAddr 0 t1 fun x13 =>
 pLoad H_5 x13 fun x14 =>
 pLt y4 x14 fun x15 =>
 pCond x15
 (CallsH Try.prog 24 #[y4, (.int .i64 2)] H_5 fun x20 H_6 =>
 pAdd (.int .i64 337) x20 fun x21 =>
 pAdd days3 x21 fun x22 =>
 pAdd y4 (.int .i64 1) fun x17 =>
 I_3 x22 x17 H_6 ∧ m_4 x22 x17 H_6 < m_4 days3 y4 H_5)
 (∃ (I_7 : Value → Value → Heap → Prop) (m_8 : Value → Value → Heap → Nat), I_7 days3 (.int .i64 1) H_5 ∧
 ∀ _ : Env, ∀ days3' : Value, ∀ m5 : Value, ∀ H_9 : Heap, I_7 days3' m5 H_9 →
 pFieldAddr 1 t1 fun x24 =>
 pLoad H_9 x24 fun x25 =>
 pLt m5 x25 fun x26 =>
 pCond x26
 (pFieldAddr 0 t1 fun x30 =>
 pLoad H_9 x30 fun x31 =>
 CallsH Try.prog 24 #[x31, m5] H_9 fun x33 H_10 =>
 pAdd days3' x33 fun x34 =>
 pAdd m5 (.int .i64 1) fun x28 =>
 I_7 x34 x28 H_10 ∧ m_8 x34 x28 H_10 < m_8 days3' m5 H_9)
 (pMul days3' (.int .i64 43200) fun x36 =>
 pFieldAddr 3 t1 fun x37 =>
 pLoad H_9 x37 fun x38 =>
 pMul x38 (.int .i64 60) fun x39 =>
 pFieldAddr 4 t1 fun x40 =>
 pLoad H_9 x40 fun x41 =>
 pAdd x39 x41 fun x42 =>
 pMul x42 (.int .i64 30) fun x43 =>
 pAdd x36 x43 fun x44 =>
 pFieldAddr 5 t1 fun x45 =>
 pLoad H_9 x45 fun x46 =>
 pQuo x46 (.int .i64 2) fun x47 =>
 pAdd x44 x47 fun x48 =>
 R x48 H_9)))
set_option maxRecDepth 100000 in
theorem dos_Time_Number.vc (t0 : Value) (H0 : Heap) (R : Value → Heap → Prop) (h : dos_Time_Number.res t0 H0 R) : CallsH Try.prog 12 #[t0] H0 R := by
  have e : vcFn Try.prog Try.C Try.f12 dos_Time_Number.an [t0] H0 R = dos_Time_Number.res t0 H0 R := by kernel_rfl
  exact vcFn_sound Try.callable Try.mixed Try.func12 (by kernel_rfl) (e.mpr h)

def dos_Time_Good.an : Ann := (.seq (.reg (.op 0 [] (.op 1 [] .nil))) (.seq (.drw [0, 1, 3, 7, 15, 31, 63, 127, 255, 511, 1023, 2047, 4095, 8191, 16383, 32767, 16383, 81919, 16383, 278527, 999423, 2097151, 4194303, 8388607, 16777215, 33554431, 67108863, 134217727, 268435455, 536870911, 1073741823, 2147483647, 4294967295, 8589934591, 17179869183, 34359738367, 68719476735, 137438953471, 274877906943, 549755813887, 1099511627775, 2199023255551, 4398046511103, 8796093022207, 17592186044415, 35184372088831, 70368744177663, 140737488355327, 281474976710655, 562949953421311, 1125899906842623, 2251799813685247, 4503599627370495, 9007199254740991, 18014398509481983, 36028797018963967, 72057594037927935, 144115188075855871, 288230376151711743, 576460752303423487] (.op 0 [] (.op 1 [] (.op 2 [] (.op 3 [] (.grp 3 (.op 4 [] (.op 5 [] (.op 6 [] .nil))) 7 (.op 8 [] (.grp 8 (.op 9 [] (.op 10 [] (.op 11 [] .nil))) 12 (.op 13 [] (.grp 13 (.op 14 [] (.op 15 [] (.op 16 [] (.op 17 [] (.op 18 [] (.op 19 [] (.op 20 [15] (.op 21 [] .nil)))))))) 22 (.op 23 [] (.grp 23 (.op 24 [] (.op 25 [] (.op 26 [] .nil))) 27 (.op 28 [] (.grp 28 (.op 29 [] (.op 30 [] (.op 31 [] .nil))) 32 (.op 33 [] (.grp 33 (.op 34 [] (.op 35 [] (.op 36 [] .nil))) 37 (.op 38 [] (.grp 38 (.op 39 [] (.op 40 [] (.op 41 [] .nil))) 42 (.op 43 [] (.grp 43 (.op 44 [] (.op 45 [] (.op 46 [] .nil))) 47 (.op 48 [] (.grp 48 (.op 49 [] (.op 50 [] (.op 51 [] .nil))) 52 (.op 53 [] (.grp 53 (.op 54 [] (.op 55 [] (.op 56 [] (.op 57 [] .nil)))) 58 (.op 59 [] .nil))))))))))))))))))))))))) .leaf))
/-- (lighter/dos.Time).Good -/
def dos_Time_Good.res (t0 : Value) (H0 : Heap) (R : Value → Heap → Prop) : Prop :=
 pBox H0 25 t0 fun t1 H_1 =>
 pFieldAddr 0 t1 fun x3 =>
 pLoad H_1 x3 fun x4 =>
 pGe x4 (.int .i64 1980) fun x5 =>
 pAnd x5 (fun J_2 =>
 pFieldAddr 0 t1 fun x7 =>
 pLoad H_1 x7 fun x8 =>
 pLe x8 (.int .i64 2107) fun x9 =>
 J_2 x9 H_1) H_1 fun x10 H_3 => ∀ _ : Env,
 pAnd x10 (fun J_4 =>
 pFieldAddr 2 t1 fun x12 =>
 pLoad H_3 x12 fun x13 =>
 pGe x13 (.int .i64 1) fun x14 =>
 J_4 x14 H_3) H_3 fun x15 H_5 => ∀ _ : Env,
 pAnd x15 (fun J_6 =>
 pFieldAddr 2 t1 fun x17 =>
 pLoad H_5 x17 fun x18 =>
 pFieldAddr 0 t1 fun x19 =>
 pLoad H_5 x19 fun x20 =>
 pFieldAddr 1 t1 fun x21 =>
 pLoad H_5 x21 fun x22 =>
 CallsH Try.prog 24 #[x20, x22] H_5 fun x23 H_8 =>
 (pLoad H_8 x17 fun r_ =>
 r_ = x18) ∧
 pLe x18 x23 fun x24 =>
 J_6 x24 H_8) H_5 fun x25 H_7 => ∀ _ : Env,
 pAnd x25 (fun J_9 =>
 pFieldAddr 3 t1 fun x27 =>
 pLoad H_7 x27 fun x28 =>
 pGe x28 (.int .i64 0) fun x29 =>
 J_9 x29 H_7) H_7 fun x30 H_10 => ∀ _ : Env,
 pAnd x30 (fun J_11 =>
 pFieldAddr 3 t1 fun x32 =>
 pLoad H_10 x32 fun x33 =>
 pLt x33 (.int .i64 24) fun x34 =>
 J_11 x34 H_10) H_10 fun x35 H_12 => ∀ _ : Env,
 pAnd x35 (fun J_13 =>
 pFieldAddr 4 t1 fun x37 =>
 pLoad H_12 x37 fun x38 =>
 pGe x38 (.int .i64 0) fun x39 =>
 J_13 x39 H_12) H_12 fun x40 H_14 => ∀ _ : Env,
 pAnd x40 (fun J_15 =>
 pFieldAddr 4 t1 fun x42 =>
 pLoad H_14 x42 fun x43 =>
 pLt x43 (.int .i64 60) fun x44 =>
 J_15 x44 H_14) H_14 fun x45 H_16 => ∀ _ : Env,
 pAnd x45 (fun J_17 =>
 pFieldAddr 5 t1 fun x47 =>
 pLoad H_16 x47 fun x48 =>
 pGe x48 (.int .i64 0) fun x49 =>
 J_17 x49 H_16) H_16 fun x50 H_18 => ∀ _ : Env,
 pAnd x50 (fun J_19 =>
 pFieldAddr 5 t1 fun x52 =>
 pLoad H_18 x52 fun x53 =>
 pLt x53 (.int .i64 60) fun x54 =>
 J_19 x54 H_18) H_18 fun x55 H_20 => ∀ _ : Env,
 pAnd x55 (fun J_21 =>
 pFieldAddr 5 t1 fun x57 =>
 pLoad H_20 x57 fun x58 =>
 pRem x58 (.int .i64 2) fun x59 =>
 pEq 0 x59 (.int .i64 0) fun x60 =>
 J_21 x60 H_20) H_20 fun x61 H_22 => ∀ _ : Env,
 R x61 H_22
set_option maxRecDepth 100000 in
theorem dos_Time_Good.vc (t0 : Value) (H0 : Heap) (R : Value → Heap → Prop) (h : dos_Time_Good.res t0 H0 R) : CallsH Try.prog 13 #[t0] H0 R := by
  have e : vcFn Try.prog Try.C Try.f13 dos_Time_Good.an [t0] H0 R = dos_Time_Good.res t0 H0 R := by kernel_rfl
  exact vcFn_sound Try.callable Try.mixed Try.func13 (by kernel_rfl) (e.mpr h)

def dos_Days.an : Ann := (.seq (.reg (.op 0 [] .nil)) (.seq (.seq (.reg (.op 0 [] .nil)) (.block (.cut [6] [6, 7, 8, 9, 10] (.seq (.reg (.op 0 [] (.op 1 [] .nil))) (.cond .leaf (.seq (.reg (.op 0 [] (.op 1 [] .nil))) (.cond .leaf (.seq (.reg (.op 0 [] (.op 1 [] .nil))) (.cond .leaf (.reg (.op 0 [] (.op 1 [] .nil))))))))) (.cond (.seq (.reg (.op 0 [] .nil)) .leaf) (.seq (.reg (.op 0 [] (.op 1 [] .nil))) (.cond (.seq (.seq (.reg (.op 0 [] (.op 1 [] .nil))) (.cond (.seq (.reg (.op 0 [] .nil)) .leaf) .leaf)) (.seq (.reg (.op 0 [] .nil)) .leaf)) .leaf)))))) (.seq (.seq (.reg (.op 0 [] (.op 1 [] (.op 2 [] (.grp 2 (.op 3 [] (.op 4 [] .nil)) 5 .nil))))) (.cond (.seq (.reg (.op 0 [] .nil)) .leaf) .leaf)) (.seq (.reg (.op 0 [] .nil)) .leaf))))
/-- lighter/dos.Days -/
def dos_Days.res (year0 : Value) (month1 : Value) (H0 : Heap) (R : Value → Heap → Prop) : Prop :=
 ∃ J_1 : Value → Heap → Prop, (∀ _ : Env, ∀ x6 : Value, ∀ H_2 : Heap, J_1 x6 H_2 →
 pCond x6
 (R (.int .i64 30) H_2)
 (pEq 0 month1 (.int .i64 2) fun x12 =>
 pCond x12
 (CallsH Try.prog 29 #[year0] H_2 fun x14 H_3 =>
 pCond x14
 (R (.int .i64 29) H_3)
 (R (.int .i64 28) H_3))
 (pLt month1 (.int .i64 1) fun x16 =>
 pOr x16 (fun J_4 =>
 pGt month1 (.int .i64 12) fun x19 =>
 J_4 x19 H_2) H_2 fun x20 H_5 => ∀ _ : Env,
 pCond x20
 (R (.int .i64 0) H_5)
 (R (.int .i64 31) H_5)))) ∧
 pEq 0 month1 (.int .i64 4) fun x7 =>
 pCond x7
 (J_1 x7 H0)
 (pEq 0 month1 (.int .i64 6) fun x8 =>
 pCond x8
 (J_1 x8 H0)
 (pEq 0 month1 (.int .i64 9) fun x9 =>
 pCond x9
 (J_1 x9 H0)
 (pEq 0 month1 (.int .i64 11) fun x10 =>
 J_1 x10 H0)))
set_option maxRecDepth 100000 in
theorem dos_Days.vc (year0 : Value) (month1 : Value) (H0 : Heap) (R : Value → Heap → Prop) (h : dos_Days.res year0 month1 H0 R) : CallsH Try.prog 24 #[year0, month1] H0 R := by
  have e : vcFn Try.prog Try.C Try.f24 dos_Days.an [year0, month1] H0 R = dos_Days.res year0 month1 H0 R := by kernel_rfl
  exact vcFn_sound Try.callable Try.mixed Try.func24 (by kernel_rfl) (e.mpr h)

def dos_leap.an : Ann := (.seq (.reg (.op 0 [] .nil)) (.seq (.reg (.op 0 [] (.op 1 [] (.op 2 [] (.op 3 [] (.grp 3 (.op 4 [] (.op 5 [] (.op 6 [] (.op 7 [] (.grp 7 (.op 8 [] (.op 9 [] (.op 10 [] .nil))) 11 .nil))))) 12 (.op 13 [] .nil))))))) .leaf))
/-- lighter/dos.leap -/
def dos_leap.res (year0 : Value) (H0 : Heap) (R : Value → Heap → Prop) : Prop :=
 pRem year0 (.int .i64 4) fun x4 =>
 pEq 0 x4 (.int .i64 0) fun x5 =>
 pAnd x5 (fun J_1 =>
 pRem year0 (.int .i64 100) fun x8 =>
 pNe 0 x8 (.int .i64 0) fun x9 =>
 pOr x9 (fun J_3 =>
 pRem year0 (.int .i64 400) fun x12 =>
 pEq 0 x12 (.int .i64 0) fun x13 =>
 J_3 x13 H0) H0 fun x14 H_4 => ∀ _ : Env,
 J_1 x14 H_4) H0 fun x15 H_2 => ∀ _ : Env,
 R x15 H_2
set_option maxRecDepth 100000 in
theorem dos_leap.vc (year0 : Value) (H0 : Heap) (R : Value → Heap → Prop) (h : dos_leap.res year0 H0 R) : CallsH Try.prog 29 #[year0] H0 R := by
  have e : vcFn Try.prog Try.C Try.f29 dos_leap.an [year0] H0 R = dos_leap.res year0 H0 R := by kernel_rfl
  exact vcFn_sound Try.callable Try.mixed Try.func29 (by kernel_rfl) (e.mpr h)

end Go.Proofs.Ytabfckcbijinkaa
