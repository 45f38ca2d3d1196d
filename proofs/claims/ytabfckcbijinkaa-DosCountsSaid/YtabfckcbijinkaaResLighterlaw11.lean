/- The residuals of package lighterlaw11's functions, printed by resid.py. -/
import Derived.Test.YtabfckcbijinkaaVcSeat
namespace Go.Proofs.Ytabfckcbijinkaa
open Go Go.Vc Go.Proofs
set_option linter.unusedVariables false
set_option maxHeartbeats 4000000
def lighterlaw11_DosNumbers.an : Ann := (.seq (.reg (.op 0 [] .nil)) (.seq (.seq (.reg (.op 0 [] (.op 1 [] .nil))) (.cond (.seq (.reg (.op 0 [] .nil)) .leaf) .leaf)) (.seq (.reg (.op 0 [] (.op 1 [] (.op 2 [] (.op 3 [] (.op 4 [] (.op 5 [] (.op 6 [] (.op 7 [] (.op 8 [] .nil)))))))))) (.seq (.seq (.reg (.op 0 [] (.op 1 [] .nil))) (.cond (.seq (.reg (.op 0 [] (.op 1 [] (.op 2 [] (.op 3 [] .nil))))) .leaf) .leaf)) (.seq (.reg (.op 0 [] (.op 1 [] (.op 2 [] (.op 3 [] (.op 4 [] (.op 5 [] (.op 6 [] (.op 7 [] (.op 8 [] .nil)))))))))) (.seq (.reg (.op 0 [] (.op 1 [] (.grp 1 (.op 2 [] (.op 3 [] (.op 4 [] .nil))) 5 (.op 6 [] (.grp 6 (.op 7 [] (.op 8 [] (.op 9 [] .nil))) 10 (.op 11 [] .nil))))))) .leaf))))))
/-- lighter/lighterlaw11.DosNumbers -/
def lighterlaw11_DosNumbers.res (date0 : Value) (time1 : Value) (H0 : Heap) (R : Value → Heap → Prop) : Prop :=
 CallsH Try.prog 8 #[] H0 fun x10 H_1 =>
 pNot x10 fun x11 =>
 pCond x11
 (R (.bool false) H_1)
 (CallsH Try.prog 9 #[date0, time1] H_1 fun x15 H_2 =>
 pExtract 0 x15 fun x16 =>
 pExtract 1 x15 fun x17 =>
 pBox H_2 25 (.agg #[(.int .i64 0), (.int .i64 0), (.int .i64 0), (.int .i64 0), (.int .i64 0), (.int .i64 0)]) fun t5 H_3 =>
 pStoreN H_3 6 t5 x16 fun _ H_4 =>
 pNot x17 fun x19 =>
 pCond x19
 (pLoadN H_4 6 t5 fun x20 =>
 pBuild [(.int .i64 0), (.int .i64 0), (.int .i64 0), (.int .i64 0), (.int .i64 0), (.int .i64 0)] [] fun x21 =>
 pEqA [0, 0, 0, 0, 0, 0] x20 x21 fun x22 =>
 R x22 H_4)
 (pLoadN H_4 6 t5 fun x24 =>
 CallsH Try.prog 10 #[x24] H_4 fun x25 H_5 =>
 pExtract 0 x25 fun x26 =>
 pExtract 1 x25 fun x27 =>
 pExtract 2 x25 fun x28 =>
 pAnd x28 (fun J_6 =>
 pEq 0 x26 date0 fun x33 =>
 J_6 x33 H_5) H_5 fun x34 H_7 => ∀ _ : Env,
 pAnd x34 (fun J_8 =>
 pEq 0 x27 time1 fun x38 =>
 J_8 x38 H_7) H_7 fun x39 H_9 => ∀ _ : Env,
 R x39 H_9))
set_option maxRecDepth 100000 in
theorem lighterlaw11_DosNumbers.vc (date0 : Value) (time1 : Value) (H0 : Heap) (R : Value → Heap → Prop) (h : lighterlaw11_DosNumbers.res date0 time1 H0 R) : CallsH Try.prog 3 #[date0, time1] H0 R := by
  have e : vcFn Try.prog Try.C Try.f3 lighterlaw11_DosNumbers.an [date0, time1] H0 R = lighterlaw11_DosNumbers.res date0 time1 H0 R := by kernel_rfl
  exact vcFn_sound Try.callable Try.mixed Try.func3 (by kernel_rfl) (e.mpr h)

def lighterlaw11_DosCounts.an : Ann := (.seq (.reg (.op 0 [] .nil)) (.seq (.seq (.reg (.op 0 [] (.op 1 [] .nil))) (.cond (.seq (.reg (.op 0 [] .nil)) .leaf) .leaf)) (.seq (.reg (.op 0 [] (.op 1 [] (.op 2 [] (.op 3 [] (.op 4 [] (.op 5 [] (.op 6 [] (.op 7 [] .nil))))))))) (.seq (.seq (.reg (.op 0 [] (.op 1 [] .nil))) (.cond (.seq (.reg (.op 0 [] (.op 1 [] (.op 2 [] (.grp 2 (.op 3 [] (.op 4 [] (.op 5 [] .nil))) 6 (.op 7 [] .nil)))))) .leaf) .leaf)) (.seq (.seq (.reg (.op 0 [] (.op 1 [] .nil))) (.cond (.seq (.reg (.op 0 [] (.op 1 [] (.op 2 [] (.op 3 [] (.grp 3 (.op 4 [] (.op 5 [] .nil)) 6 (.op 7 [] .nil))))))) .leaf) .leaf)) (.seq (.seq (.reg (.op 0 [] (.op 1 [] (.op 2 [] (.op 3 [] (.op 4 [] (.grp 4 (.op 5 [] (.op 6 [] (.op 7 [] .nil))) 8 (.op 9 [] (.grp 9 (.op 10 [] (.op 11 [] .nil)) 12 .nil))))))))) (.cond (.seq (.reg (.op 0 [] .nil)) .leaf) .leaf)) (.seq (.reg (.op 0 [] (.op 1 [] (.op 2 [] .nil)))) (.seq (.seq (.reg (.op 0 [] .nil)) (.block (.loop [8] [4, 8, 9, 10, 52, 53, 54, 55, 56, 57, 58, 59, 60, 61, 62, 63, 64, 65, 66, 67, 68, 69, 70, 71, 72, 73, 74, 75, 76, 77, 78, 79, 80] (.seq (.seq (.reg (.op 0 [] (.op 1 [] (.op 2 [] (.op 3 [] .nil))))) (.cond .leaf .leaf)) (.seq (.block (.seq (.reg (.op 0 [] (.op 1 [] (.op 2 [] .nil)))) (.seq (.reg (.op 0 [] (.op 1 [] (.op 2 [] (.op 3 [] (.op 4 [] (.op 5 [] (.op 6 [] (.op 7 [] (.op 8 [] (.op 9 [] (.op 10 [] (.op 11 [] .nil))))))))))))) (.seq (.seq (.reg (.op 0 [] (.op 1 [] (.op 2 [] .nil)))) (.cond (.seq (.reg (.op 0 [] (.op 1 [] (.op 2 [] .nil)))) .leaf) .leaf)) (.seq (.reg (.op 0 [] (.op 1 [] (.op 2 [] (.grp 2 (.op 3 [] (.op 4 [] (.op 5 [] .nil))) 6 .nil))))) (.cond (.seq (.reg (.op 0 [] .nil)) .leaf) .leaf)))))) (.reg (.op 0 [] (.op 1 [] (.op 2 [] .nil))))))))) (.seq (.reg (.op 0 [] (.op 1 [] (.op 2 [] (.op 3 [] (.op 4 [] (.op 5 [] (.op 6 [] (.op 7 [] (.op 8 [] .nil)))))))))) (.seq (.reg (.op 0 [] (.op 1 [] (.op 2 [] (.grp 2 (.op 3 [] (.op 4 [] (.op 5 [] (.op 6 [] (.op 7 [] (.op 8 [] (.grp 8 (.op 9 [] (.op 10 [] (.op 11 [] (.op 12 [] (.op 13 [] (.op 14 [] (.op 15 [] .nil))))))) 16 .nil))))))) 17 (.op 18 [] .nil)))))) .leaf))))))))))
/-- lighter/lighterlaw11.DosCounts -/
def lighterlaw11_DosCounts.res (n0 : Value) (days1 : Value) (H0 : Heap) (R : Value → Heap → Prop) : Prop :=
 CallsH Try.prog 8 #[] H0 fun x13 H_1 =>
 pNot x13 fun x14 =>
 pCond x14
 (R (.bool false) H_1)
 (CallsH Try.prog 11 #[n0] H_1 fun x17 H_2 =>
 pExtract 0 x17 fun x18 =>
 pExtract 1 x17 fun x19 =>
 pBox H_2 25 (.agg #[(.int .i64 0), (.int .i64 0), (.int .i64 0), (.int .i64 0), (.int .i64 0), (.int .i64 0)]) fun t5 H_3 =>
 pStoreN H_3 6 t5 x18 fun _ H_4 =>
 pLt n0 (.int .i64 0) fun x21 =>
 pCond x21
 (pNot x19 fun x23 =>
 pAnd x23 (fun J_5 =>
 pLoadN H_4 6 t5 fun x25 =>
 pBuild [(.int .i64 0), (.int .i64 0), (.int .i64 0), (.int .i64 0), (.int .i64 0), (.int .i64 0)] [] fun x26 =>
 pEqA [0, 0, 0, 0, 0, 0] x25 x26 fun x27 =>
 J_5 x27 H_4) H_4 fun x28 H_6 => ∀ _ : Env,
 R x28 H_6)
 (pNot x19 fun x30 =>
 pCond x30
 (pLoadN H_4 6 t5 fun x31 =>
 pBuild [(.int .i64 0), (.int .i64 0), (.int .i64 0), (.int .i64 0), (.int .i64 0), (.int .i64 0)] [] fun x32 =>
 pEqA [0, 0, 0, 0, 0, 0] x31 x32 fun x33 =>
 pAnd x33 (fun J_7 =>
 pGe n0 (.int .i64 2019643200) fun x36 =>
 J_7 x36 H_4) H_4 fun x37 H_8 => ∀ _ : Env,
 R x37 H_8)
 (pLoadN H_4 6 t5 fun x38 =>
 CallsH Try.prog 12 #[x38] H_4 fun x39 H_9 =>
 pNe 0 x39 n0 fun x41 =>
 pOr x41 (fun J_10 =>
 pLoadN H_9 6 t5 fun x43 =>
 CallsH Try.prog 13 #[x43] H_9 fun x44 H_12 =>
 pNot x44 fun x45 =>
 J_10 x45 H_12) H_9 fun x46 H_11 => ∀ _ : Env,
 pOr x46 (fun J_13 =>
 pGe n0 (.int .i64 2019643200) fun x49 =>
 J_13 x49 H_11) H_11 fun x50 H_14 => ∀ _ : Env,
 pCond x50
 (R (.bool false) H_14)
 (pLoadN H_14 6 t5 fun x51 =>
 pBox H_14 33 (.agg #[(.int .i64 0), (.int .i64 0), (.int .i64 0), (.int .i64 0), (.int .i64 0), (.int .i64 0)]) fun x7 H_15 =>
 pStoreN H_15 6 x7 x51 fun _ H_16 =>
 ∃ (I_17 : Value → Heap → Prop) (m_18 : Value → Heap → Nat), I_17 (.int .i64 0) H_16 ∧
 ∀ _ : Env, ∀ i8 : Value, ∀ H_19 : Heap, I_17 i8 H_19 →
 pBits .and days1 (.int .i64 127) fun x54 =>
 pLt i8 x54 fun x55 =>
 pCond x55
 (pLoadN H_19 6 x7 fun x58 =>
 CallsH Try.prog 14 #[x58] H_19 fun x59 H_20 =>
 pStoreN H_20 6 x7 x59 fun _ H_21 =>
 pAdd i8 (.int .i64 1) fun x63 =>
 pMul (.int .i64 43200) x63 fun x64 =>
 pAdd n0 x64 fun x65 =>
 CallsH Try.prog 11 #[x65] H_21 fun x66 H_22 =>
 pExtract 0 x66 fun x67 =>
 pExtract 1 x66 fun x68 =>
 pBox H_22 25 (.agg #[(.int .i64 0), (.int .i64 0), (.int .i64 0), (.int .i64 0), (.int .i64 0), (.int .i64 0)]) fun u9 H_23 =>
 pStoreN H_23 6 u9 x67 fun _ H_24 =>
 pFieldAddr 0 x7 fun x69 =>
 pLoad H_24 x69 fun x70 =>
 pGt x70 (.int .i64 2107) fun x71 =>
 pCond x71
 (pNot x68 fun x73 =>
 R x73 H_24)
 (pNot x68 fun x75 =>
 pOr x75 (fun J_25 =>
 pLoadN H_24 6 u9 fun x77 =>
 pLoadN H_24 6 x7 fun x78 =>
 pNeA [0, 0, 0, 0, 0, 0] x77 x78 fun x79 =>
 J_25 x79 H_24) H_24 fun x80 H_26 => ∀ _ : Env,
 pCond x80
 (R (.bool false) H_26)
 (pAdd i8 (.int .i64 1) fun x57 =>
 I_17 x57 H_26 ∧ m_18 x57 H_26 < m_18 i8 H_19)))
 (pAdd n0 (.int .i64 1) fun x83 =>
 CallsH Try.prog 11 #[x83] H_19 fun x84 H_27 =>
 pExtract 0 x84 fun x85 =>
 pExtract 1 x84 fun x86 =>
 pBox H_27 25 (.agg #[(.int .i64 0), (.int .i64 0), (.int .i64 0), (.int .i64 0), (.int .i64 0), (.int .i64 0)]) fun u11 H_28 =>
 pStoreN H_28 6 u11 x85 fun _ H_29 =>
 pNot x86 fun x88 =>
 pOr x88 (fun J_30 =>
 pLoadN H_29 6 u11 fun x90 =>
 CallsH Try.prog 12 #[x90] H_29 fun x91 H_32 =>
 pAdd n0 (.int .i64 1) fun x93 =>
 pEq 0 x91 x93 fun x94 =>
 pAnd x94 (fun J_33 =>
 pFieldAddr 5 u11 fun x96 =>
 pLoad H_32 x96 fun x97 =>
 pFieldAddr 5 t5 fun x98 =>
 pLoad H_32 x98 fun x99 =>
 pAdd x99 (.int .i64 2) fun x100 =>
 pRem x100 (.int .i64 60) fun x101 =>
 pEq 0 x97 x101 fun x102 =>
 J_33 x102 H_32) H_32 fun x103 H_34 => ∀ _ : Env,
 J_30 x103 H_34) H_29 fun x104 H_31 => ∀ _ : Env,
 R x104 H_31)))))
set_option maxRecDepth 100000 in
theorem lighterlaw11_DosCounts.vc (n0 : Value) (days1 : Value) (H0 : Heap) (R : Value → Heap → Prop) (h : lighterlaw11_DosCounts.res n0 days1 H0 R) : CallsH Try.prog 4 #[n0, days1] H0 R := by
  have e : vcFn Try.prog Try.C Try.f4 lighterlaw11_DosCounts.an [n0, days1] H0 R = lighterlaw11_DosCounts.res n0 days1 H0 R := by kernel_rfl
  exact vcFn_sound Try.callable Try.mixed Try.func4 (by kernel_rfl) (e.mpr h)

def lighterlaw11_DosPacks.an : Ann := (.seq (.reg (.op 0 [] (.op 1 [] .nil))) (.seq (.seq (.reg (.op 0 [] (.op 1 [] .nil))) (.cond (.seq (.reg (.op 0 [] .nil)) .leaf) .leaf)) (.seq (.reg (.op 0 [] (.op 1 [] (.op 2 [] .nil)))) (.seq (.reg (.op 0 [] (.op 1 [] (.op 2 [] .nil)))) (.seq (.reg (.op 0 [] (.op 1 [] (.op 2 [] (.op 3 [] (.op 4 [] (.op 5 [] (.op 6 [] (.op 7 [] (.op 8 [] .nil)))))))))) (.seq (.seq (.drw [0, 1, 0, 7, 15, 31, 31, 127, 255, 511, 1023, 2047, 1023, 5119, 16383, 1023, 33791, 1023, 132095, 524287, 1048575, 2097151] (.op 0 [] (.op 2 [] (.op 1 [] (.op 3 [] (.op 4 [] (.grp 4 (.op 5 [] (.op 6 [] (.op 7 [] .nil))) 8 (.op 9 [] (.grp 9 (.op 10 [] (.op 11 [] (.op 12 [] (.op 13 [] (.op 15 [] (.op 16 [] (.op 17 [] (.op 18 [] (.op 14 [16, 18] (.op 19 [] (.op 20 [] .nil))))))))))) 21 .nil))))))))) (.cond (.seq (.reg (.op 0 [] .nil)) .leaf) .leaf)) (.seq (.seq (.reg (.op 0 [] (.op 1 [] .nil))) (.cond (.seq (.reg (.op 0 [] (.op 1 [] (.op 2 [] (.grp 2 (.op 3 [] (.op 4 [] .nil)) 5 (.op 6 [] (.grp 6 (.op 7 [] (.op 8 [] (.op 9 [] .nil))) 10 (.op 11 [] .nil)))))))) .leaf) .leaf)) (.seq (.reg (.op 0 [] (.op 1 [] (.op 2 [] (.op 3 [] (.op 4 [] (.op 5 [] (.op 6 [] (.op 7 [] (.op 8 [] .nil)))))))))) (.seq (.reg (.op 0 [] (.op 1 [] (.op 2 [] (.op 3 [] (.op 4 [] (.op 5 [] (.op 6 [] (.op 7 [] (.op 8 [] .nil)))))))))) (.seq (.reg (.op 0 [] (.op 1 [] (.grp 1 (.op 2 [] .nil) 3 (.op 4 [] (.grp 4 (.op 5 [] (.op 6 [] (.op 7 [] .nil))) 8 (.op 9 [] (.grp 9 (.op 10 [] (.op 11 [] (.op 12 [] .nil))) 13 (.op 14 [] (.grp 14 (.op 15 [] (.op 16 [] (.op 17 [] (.op 18 [] (.op 19 [] (.op 20 [] (.op 21 [] (.op 22 [] (.op 23 [] (.op 24 [] (.op 25 [] (.op 26 [] (.op 27 [] (.op 28 [] .nil)))))))))))))) 29 (.op 30 [] (.grp 30 (.op 31 [] (.op 32 [] (.op 33 [] (.op 34 [] (.op 35 [] (.op 36 [] (.op 37 [] (.op 38 [] (.op 39 [] (.op 40 [] (.op 41 [] (.op 42 [] (.op 43 [] (.op 44 [] .nil)))))))))))))) 45 (.op 46 [] .nil))))))))))))) .leaf))))))))))
/-- lighter/lighterlaw11.DosPacks -/
def lighterlaw11_DosPacks.res (x0 : Value) (H0 : Heap) (R : Value → Heap → Prop) : Prop :=
 pBox H0 47 x0 fun x1 H_1 =>
 CallsH Try.prog 8 #[] H_1 fun x12 H_2 =>
 pNot x12 fun x13 =>
 pCond x13
 (R (.bool false) H_2)
 (pLoadN H_2 6 x1 fun x14 =>
 pBox H_2 25 (.agg #[(.int .i64 0), (.int .i64 0), (.int .i64 0), (.int .i64 0), (.int .i64 0), (.int .i64 0)]) fun t3 H_3 =>
 pStoreN H_3 6 t3 x14 fun _ H_4 =>
 pLoadN H_4 6 x1 fun x15 =>
 CallsH Try.prog 23 #[x15] H_4 fun x16 H_5 =>
 pLoadN H_5 6 t3 fun x18 =>
 CallsH Try.prog 10 #[x18] H_5 fun x19 H_6 =>
 pExtract 0 x19 fun x20 =>
 pExtract 1 x19 fun x21 =>
 pExtract 2 x19 fun x22 =>
 pLoadN H_6 6 t3 fun x23 =>
 CallsH Try.prog 13 #[x23] H_6 fun x24 H_7 =>
 pNe 2 x24 x16 fun x26 =>
 pOr x26 (fun J_8 =>
 pNe 2 x22 x16 fun x30 =>
 J_8 x30 H_7) H_7 fun x31 H_9 => ∀ _ : Env,
 pOr x31 (fun J_10 =>
 pFieldAddr 0 x1 fun x33 =>
 pLoad H_9 x33 fun x34 =>
 pFieldAddr 1 x1 fun x35 =>
 pLoad H_9 x35 fun x36 =>
 pFieldAddr 0 x1 fun x38 =>
 pLoad H_9 x38 fun x39 =>
 pFieldAddr 1 x1 fun x40 =>
 pLoad H_9 x40 fun x41 =>
 CallsH Try.prog 24 #[x34, x36] H_9 fun x37 H_12 =>
 (pLoad H_12 x38 fun r_ =>
 r_ = x39) ∧
 (pLoad H_12 x40 fun r_ =>
 r_ = x41) ∧
 CallsH Try.prog 25 #[x39, x41] H_12 fun x42 H_13 =>
 pNe 0 x37 x42 fun x43 =>
 J_10 x43 H_13) H_9 fun x44 H_11 => ∀ _ : Env,
 pCond x44
 (R (.bool false) H_11)
 (pNot x16 fun x46 =>
 pCond x46
 (pEq 0 x20 (.int .u64 0) fun x48 =>
 pAnd x48 (fun J_14 =>
 pEq 0 x21 (.int .u64 0) fun x51 =>
 J_14 x51 H_11) H_11 fun x52 H_15 => ∀ _ : Env,
 pAnd x52 (fun J_16 =>
 pLoadN H_15 6 t3 fun x54 =>
 CallsH Try.prog 12 #[x54] H_15 fun x55 H_18 =>
 pEq 0 x55 (.int .i64 (-1)) fun x56 =>
 J_16 x56 H_18) H_15 fun x57 H_17 => ∀ _ : Env,
 R x57 H_17)
 (CallsH Try.prog 9 #[x20, x21] H_11 fun x61 H_19 =>
 pExtract 0 x61 fun x62 =>
 pExtract 1 x61 fun x63 =>
 pBox H_19 25 (.agg #[(.int .i64 0), (.int .i64 0), (.int .i64 0), (.int .i64 0), (.int .i64 0), (.int .i64 0)]) fun u8 H_20 =>
 pStoreN H_20 6 u8 x62 fun _ H_21 =>
 pLoadN H_21 6 t3 fun x65 =>
 CallsH Try.prog 12 #[x65] H_21 fun x66 H_22 =>
 CallsH Try.prog 11 #[x66] H_22 fun x67 H_23 =>
 pExtract 0 x67 fun x68 =>
 pExtract 1 x67 fun x69 =>
 pBox H_23 25 (.agg #[(.int .i64 0), (.int .i64 0), (.int .i64 0), (.int .i64 0), (.int .i64 0), (.int .i64 0)]) fun v10 H_24 =>
 pStoreN H_24 6 v10 x68 fun _ H_25 =>
 pAnd x63 (fun J_26 =>
 J_26 x69 H_25) H_25 fun x73 H_27 => ∀ _ : Env,
 pAnd x73 (fun J_28 =>
 pLoadN H_27 6 u8 fun x75 =>
 pLoadN H_27 6 t3 fun x76 =>
 pEqA [0, 0, 0, 0, 0, 0] x75 x76 fun x77 =>
 J_28 x77 H_27) H_27 fun x78 H_29 => ∀ _ : Env,
 pAnd x78 (fun J_30 =>
 pLoadN H_29 6 v10 fun x80 =>
 pLoadN H_29 6 t3 fun x81 =>
 pEqA [0, 0, 0, 0, 0, 0] x80 x81 fun x82 =>
 J_30 x82 H_29) H_29 fun x83 H_31 => ∀ _ : Env,
 pAnd x83 (fun J_32 =>
 pFieldAddr 2 x1 fun x86 =>
 pLoad H_31 x86 fun x87 =>
 pFieldAddr 1 x1 fun x88 =>
 pLoad H_31 x88 fun x89 =>
 pMul (.int .i64 32) x89 fun x90 =>
 pAdd x87 x90 fun x91 =>
 pFieldAddr 0 x1 fun x92 =>
 pLoad H_31 x92 fun x93 =>
 pSub x93 (.int .i64 1980) fun x94 =>
 pMul (.int .i64 512) x94 fun x95 =>
 pAdd x91 x95 fun x96 =>
 pConv .u64 x96 fun x97 =>
 pEq 0 x20 x97 fun x98 =>
 J_32 x98 H_31) H_31 fun x99 H_33 => ∀ _ : Env,
 pAnd x99 (fun J_34 =>
 pFieldAddr 5 x1 fun x102 =>
 pLoad H_33 x102 fun x103 =>
 pQuo x103 (.int .i64 2) fun x104 =>
 pFieldAddr 4 x1 fun x105 =>
 pLoad H_33 x105 fun x106 =>
 pMul (.int .i64 32) x106 fun x107 =>
 pAdd x104 x107 fun x108 =>
 pFieldAddr 3 x1 fun x109 =>
 pLoad H_33 x109 fun x110 =>
 pMul (.int .i64 2048) x110 fun x111 =>
 pAdd x108 x111 fun x112 =>
 pConv .u64 x112 fun x113 =>
 pEq 0 x21 x113 fun x114 =>
 J_34 x114 H_33) H_33 fun x115 H_35 => ∀ _ : Env,
 R x115 H_35)))
set_option maxRecDepth 100000 in
theorem lighterlaw11_DosPacks.vc (x0 : Value) (H0 : Heap) (R : Value → Heap → Prop) (h : lighterlaw11_DosPacks.res x0 H0 R) : CallsH Try.prog 7 #[x0] H0 R := by
  have e : vcFn Try.prog Try.C Try.f7 lighterlaw11_DosPacks.an [x0] H0 R = lighterlaw11_DosPacks.res x0 H0 R := by kernel_rfl
  exact vcFn_sound Try.callable Try.mixed Try.func7 (by kernel_rfl) (e.mpr h)

def lighterlaw11_speaks.an : Ann := (.seq (.reg (.op 0 [] .nil)) (.seq (.reg (.op 0 [] (.op 1 [] (.op 2 [] (.op 3 [] (.op 4 [] (.op 5 [] (.op 6 [] (.op 7 [] (.op 8 [] .nil)))))))))) (.seq (.reg (.op 0 [] (.op 1 [] (.op 2 [] (.op 3 [] (.op 4 [] (.op 5 [] (.op 6 [] .nil)))))))) (.seq (.reg (.op 0 [] (.op 1 [] (.grp 1 (.op 2 [] (.op 3 [] .nil)) 4 (.op 5 [] (.grp 5 (.op 6 [] (.op 7 [] .nil)) 8 (.op 9 [] (.grp 9 (.op 10 [] .nil) 11 (.op 12 [] (.grp 12 (.op 13 [] (.op 14 [] (.op 15 [] .nil))) 16 (.op 17 [] (.grp 17 (.op 18 [] (.op 19 [] .nil)) 20 (.op 21 [] .nil))))))))))))) .leaf))))
/-- lighter/lighterlaw11.speaks -/
def lighterlaw11_speaks.res (H0 : Heap) (R : Value → Heap → Prop) : Prop :=
 pBuild [(.int .i64 0), (.int .i64 0), (.int .i64 0), (.int .i64 0), (.int .i64 0), (.int .i64 0)] [(0, 1, (.int .i64 1980)), (1, 1, (.int .i64 1)), (2, 1, (.int .i64 1))] fun x7 =>
 CallsH Try.prog 10 #[x7] H0 fun x8 H_1 =>
 pExtract 0 x8 fun x9 =>
 pExtract 1 x8 fun x10 =>
 pExtract 2 x8 fun x11 =>
 CallsH Try.prog 11 #[(.int .i64 43200)] H_1 fun x13 H_2 =>
 pExtract 0 x13 fun x14 =>
 pExtract 1 x13 fun x15 =>
 pBox H_2 25 (.agg #[(.int .i64 0), (.int .i64 0), (.int .i64 0), (.int .i64 0), (.int .i64 0), (.int .i64 0)]) fun t4 H_3 =>
 pStoreN H_3 6 t4 x14 fun _ H_4 =>
 pAnd x11 (fun J_5 =>
 pEq 0 x9 (.int .u64 33) fun x19 =>
 J_5 x19 H_4) H_4 fun x20 H_6 => ∀ _ : Env,
 pAnd x20 (fun J_7 =>
 pEq 0 x10 (.int .u64 0) fun x23 =>
 J_7 x23 H_6) H_6 fun x24 H_8 => ∀ _ : Env,
 pAnd x24 (fun J_9 =>
 J_9 x15 H_8) H_8 fun x27 H_10 => ∀ _ : Env,
 pAnd x27 (fun J_11 =>
 pLoadN H_10 6 t4 fun x29 =>
 pBuild [(.int .i64 0), (.int .i64 0), (.int .i64 0), (.int .i64 0), (.int .i64 0), (.int .i64 0)] [(0, 1, (.int .i64 1980)), (1, 1, (.int .i64 1)), (2, 1, (.int .i64 2))] fun x30 =>
 pEqA [0, 0, 0, 0, 0, 0] x29 x30 fun x31 =>
 J_11 x31 H_10) H_10 fun x32 H_12 => ∀ _ : Env,
 pAnd x32 (fun J_13 =>
 CallsH Try.prog 24 #[(.int .i64 2000), (.int .i64 2)] H_12 fun x34 H_15 =>
 pEq 0 x34 (.int .i64 29) fun x35 =>
 J_13 x35 H_15) H_12 fun x36 H_14 => ∀ _ : Env,
 R x36 H_14
set_option maxRecDepth 100000 in
theorem lighterlaw11_speaks.vc (H0 : Heap) (R : Value → Heap → Prop) (h : lighterlaw11_speaks.res H0 R) : CallsH Try.prog 8 #[] H0 R := by
  have e : vcFn Try.prog Try.C Try.f8 lighterlaw11_speaks.an [] H0 R = lighterlaw11_speaks.res H0 R := by kernel_rfl
  exact vcFn_sound Try.callable Try.mixed Try.func8 (by kernel_rfl) (e.mpr h)

end Go.Proofs.Ytabfckcbijinkaa
