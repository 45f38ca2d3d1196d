/- The residuals of package lighterref11's functions, printed by resid.py. -/
import Derived.Test.YtabfckcbijinkaaVcSeat
namespace Go.Proofs.Ytabfckcbijinkaa
open Go Go.Vc Go.Proofs
set_option linter.unusedVariables false
set_option maxHeartbeats 4000000
def lighterref11_Next.an : Ann := (.seq (.reg (.op 0 [] (.op 1 [] .nil))) (.seq (.reg (.op 0 [] (.op 1 [] (.op 2 [] (.op 3 [] (.op 4 [] .nil)))))) (.cut [] [7, 8, 9, 10, 11, 12, 13, 14, 15, 16, 17, 18, 19] (.seq (.drw [0, 1, 0, 4, 0, 16, 60, 127] (.op 0 [] (.op 1 [] (.op 2 [] (.op 3 [] (.op 4 [] (.op 5 [] (.op 6 [1] (.op 7 [] .nil))))))))) (.cond (.seq (.reg (.op 0 [] (.op 1 [] .nil))) (.reg (.op 0 [] (.op 1 [] (.op 2 [] (.op 3 [] (.op 4 [] .nil))))))) .leaf)) (.seq (.seq (.reg (.op 0 [] (.op 1 [] (.op 2 [] .nil)))) (.cond (.seq (.reg (.op 0 [] (.op 1 [] .nil))) (.reg (.op 0 [] (.op 1 [] (.op 2 [] (.op 3 [] (.op 4 [] .nil))))))) .leaf)) (.seq (.reg (.op 0 [] (.op 1 [] .nil))) .leaf)))))
/-- lighter/lighterref11.Next -/
def lighterref11_Next.res (t0 : Value) (H0 : Heap) (R : Value → Heap → Prop) : Prop :=
 pBox H0 33 t0 fun t1 H_1 =>
 pBox H_1 33 (.agg #[(.int .i64 0), (.int .i64 0), (.int .i64 0), (.int .i64 0), (.int .i64 0), (.int .i64 0)]) fun x2 H_2 =>
 pFieldAddr 2 t1 fun x3 =>
 pLoad H_2 x3 fun x4 =>
 pAdd x4 (.int .i64 1) fun x5 =>
 pFieldAddr 2 t1 fun x6 =>
 pStore H_2 x6 x5 fun _ H_3 =>
 ∃ J_4 : Heap → Prop, (∀ _ : Env, ∀ H_5 : Heap, J_4 H_5 →
 pFieldAddr 1 t1 fun x20 =>
 pLoad H_5 x20 fun x21 =>
 pGt x21 (.int .i64 12) fun x22 =>
 pCond x22
 (pFieldAddr 1 t1 fun x23 =>
 pStore H_5 x23 (.int .i64 1) fun _ H_6 =>
 pFieldAddr 0 t1 fun x24 =>
 pLoad H_6 x24 fun x25 =>
 pAdd x25 (.int .i64 1) fun x26 =>
 pFieldAddr 0 t1 fun x27 =>
 pStore H_6 x27 x26 fun _ H_7 =>
 pLoadN H_7 6 t1 fun x28 =>
 pStoreN H_7 6 x2 x28 fun _ H_8 =>
 pLoadN H_8 6 x2 fun r_9 =>
 R r_9 H_8)
 (pLoadN H_5 6 t1 fun x28 =>
 pStoreN H_5 6 x2 x28 fun _ H_10 =>
 pLoadN H_10 6 x2 fun r_11 =>
 R r_11 H_10)) ∧
 pFieldAddr 2 t1 fun x7 =>
 pLoad H_3 x7 fun x8 =>
 pFieldAddr 0 t1 fun x9 =>
 pLoad H_3 x9 fun x10 =>
 pFieldAddr 1 t1 fun x11 =>
 pLoad H_3 x11 fun x12 =>
 CallsH Try.prog 25 #[x10, x12] H_3 fun x13 H_12 =>
 (pLoad H_12 x7 fun r_ =>
 r_ = x8) ∧
 pGt x8 x13 fun x14 =>
 pCond x14
 (pFieldAddr 2 t1 fun x15 =>
 pStore H_12 x15 (.int .i64 1) fun _ H_13 =>
 pFieldAddr 1 t1 fun x16 =>
 pLoad H_13 x16 fun x17 =>
 pAdd x17 (.int .i64 1) fun x18 =>
 pFieldAddr 1 t1 fun x19 =>
 pStore H_13 x19 x18 fun _ H_14 =>
 J_4 H_14)
 (J_4 H_12)
set_option maxRecDepth 100000 in
theorem lighterref11_Next.vc (t0 : Value) (H0 : Heap) (R : Value → Heap → Prop) (h : lighterref11_Next.res t0 H0 R) : CallsH Try.prog 14 #[t0] H0 R := by
  have e : vcFn Try.prog Try.C Try.f14 lighterref11_Next.an [t0] H0 R = lighterref11_Next.res t0 H0 R := by kernel_rfl
  exact vcFn_sound Try.callable Try.mixed Try.func14 (by kernel_rfl) (e.mpr h)

def lighterref11_Good.an : Ann := (.seq (.reg (.op 0 [] (.op 1 [] .nil))) (.seq (.drw [0, 1, 3, 7, 15, 31, 63, 127, 255, 511, 1023, 2047, 4095, 8191, 16383, 32767, 65535, 131071, 262143, 524287, 1048575, 2097151, 4194303, 8388607, 16777215, 33554431, 16777215, 83886079, 16777215, 285212671, 1023410175, 2147483647, 4294967295, 8589934591, 17179869183, 34359738367, 68719476735, 137438953471, 274877906943, 549755813887, 1099511627775, 2199023255551, 4398046511103, 8796093022207, 17592186044415, 35184372088831, 70368744177663, 140737488355327, 281474976710655, 562949953421311, 1125899906842623, 2251799813685247, 4503599627370495, 9007199254740991, 18014398509481983, 36028797018963967, 72057594037927935, 144115188075855871, 288230376151711743, 576460752303423487, 1152921504606846975, 2305843009213693951, 4611686018427387903, 9223372036854775807, 18446744073709551615, 36893488147419103231, 73786976294838206463, 147573952589676412927, 295147905179352825855, 590295810358705651711] (.op 0 [] (.op 1 [] (.op 2 [] (.op 3 [] (.grp 3 (.op 4 [] (.op 5 [] (.op 6 [] .nil))) 7 (.op 8 [] (.grp 8 (.op 9 [] (.op 10 [] (.op 11 [] .nil))) 12 (.op 13 [] (.grp 13 (.op 14 [] (.op 15 [] (.op 16 [] .nil))) 17 (.op 18 [] (.grp 18 (.op 19 [] (.op 20 [] (.op 21 [] .nil))) 22 (.op 23 [] (.grp 23 (.op 24 [] (.op 25 [] (.op 26 [] (.op 27 [] (.op 28 [] (.op 29 [] (.op 30 [25] (.op 31 [] .nil)))))))) 32 (.op 33 [] (.grp 33 (.op 34 [] (.op 35 [] (.op 36 [] .nil))) 37 (.op 38 [] (.grp 38 (.op 39 [] (.op 40 [] (.op 41 [] .nil))) 42 (.op 43 [] (.grp 43 (.op 44 [] (.op 45 [] (.op 46 [] .nil))) 47 (.op 48 [] (.grp 48 (.op 49 [] (.op 50 [] (.op 51 [] .nil))) 52 (.op 53 [] (.grp 53 (.op 54 [] (.op 55 [] (.op 56 [] .nil))) 57 (.op 58 [] (.grp 58 (.op 59 [] (.op 60 [] (.op 61 [] .nil))) 62 (.op 63 [] (.grp 63 (.op 64 [] (.op 65 [] (.op 66 [] (.op 67 [] .nil)))) 68 (.op 69 [] .nil))))))))))))))))))))))))))))) .leaf))
/-- lighter/lighterref11.Good -/
def lighterref11_Good.res (t0 : Value) (H0 : Heap) (R : Value → Heap → Prop) : Prop :=
 pBox H0 33 t0 fun t1 H_1 =>
 pFieldAddr 0 t1 fun x3 =>
 pLoad H_1 x3 fun x4 =>
 pGe x4 (.int .i64 1980) fun x5 =>
 pAnd x5 (fun J_2 =>
 pFieldAddr 0 t1 fun x7 =>
 pLoad H_1 x7 fun x8 =>
 pLe x8 (.int .i64 2107) fun x9 =>
 J_2 x9 H_1) H_1 fun x10 H_3 => ∀ _ : Env,
 pAnd x10 (fun J_4 =>
 pFieldAddr 1 t1 fun x12 =>
 pLoad H_3 x12 fun x13 =>
 pGe x13 (.int .i64 1) fun x14 =>
 J_4 x14 H_3) H_3 fun x15 H_5 => ∀ _ : Env,
 pAnd x15 (fun J_6 =>
 pFieldAddr 1 t1 fun x17 =>
 pLoad H_5 x17 fun x18 =>
 pLe x18 (.int .i64 12) fun x19 =>
 J_6 x19 H_5) H_5 fun x20 H_7 => ∀ _ : Env,
 pAnd x20 (fun J_8 =>
 pFieldAddr 2 t1 fun x22 =>
 pLoad H_7 x22 fun x23 =>
 pGe x23 (.int .i64 1) fun x24 =>
 J_8 x24 H_7) H_7 fun x25 H_9 => ∀ _ : Env,
 pAnd x25 (fun J_10 =>
 pFieldAddr 2 t1 fun x27 =>
 pLoad H_9 x27 fun x28 =>
 pFieldAddr 0 t1 fun x29 =>
 pLoad H_9 x29 fun x30 =>
 pFieldAddr 1 t1 fun x31 =>
 pLoad H_9 x31 fun x32 =>
 CallsH Try.prog 25 #[x30, x32] H_9 fun x33 H_12 =>
 (pLoad H_12 x27 fun r_ =>
 r_ = x28) ∧
 pLe x28 x33 fun x34 =>
 J_10 x34 H_12) H_9 fun x35 H_11 => ∀ _ : Env,
 pAnd x35 (fun J_13 =>
 pFieldAddr 3 t1 fun x37 =>
 pLoad H_11 x37 fun x38 =>
 pGe x38 (.int .i64 0) fun x39 =>
 J_13 x39 H_11) H_11 fun x40 H_14 => ∀ _ : Env,
 pAnd x40 (fun J_15 =>
 pFieldAddr 3 t1 fun x42 =>
 pLoad H_14 x42 fun x43 =>
 pLe x43 (.int .i64 23) fun x44 =>
 J_15 x44 H_14) H_14 fun x45 H_16 => ∀ _ : Env,
 pAnd x45 (fun J_17 =>
 pFieldAddr 4 t1 fun x47 =>
 pLoad H_16 x47 fun x48 =>
 pGe x48 (.int .i64 0) fun x49 =>
 J_17 x49 H_16) H_16 fun x50 H_18 => ∀ _ : Env,
 pAnd x50 (fun J_19 =>
 pFieldAddr 4 t1 fun x52 =>
 pLoad H_18 x52 fun x53 =>
 pLe x53 (.int .i64 59) fun x54 =>
 J_19 x54 H_18) H_18 fun x55 H_20 => ∀ _ : Env,
 pAnd x55 (fun J_21 =>
 pFieldAddr 5 t1 fun x57 =>
 pLoad H_20 x57 fun x58 =>
 pGe x58 (.int .i64 0) fun x59 =>
 J_21 x59 H_20) H_20 fun x60 H_22 => ∀ _ : Env,
 pAnd x60 (fun J_23 =>
 pFieldAddr 5 t1 fun x62 =>
 pLoad H_22 x62 fun x63 =>
 pLe x63 (.int .i64 58) fun x64 =>
 J_23 x64 H_22) H_22 fun x65 H_24 => ∀ _ : Env,
 pAnd x65 (fun J_25 =>
 pFieldAddr 5 t1 fun x67 =>
 pLoad H_24 x67 fun x68 =>
 pRem x68 (.int .i64 2) fun x69 =>
 pEq 0 x69 (.int .i64 0) fun x70 =>
 J_25 x70 H_24) H_24 fun x71 H_26 => ∀ _ : Env,
 R x71 H_26
set_option maxRecDepth 100000 in
theorem lighterref11_Good.vc (t0 : Value) (H0 : Heap) (R : Value → Heap → Prop) (h : lighterref11_Good.res t0 H0 R) : CallsH Try.prog 23 #[t0] H0 R := by
  have e : vcFn Try.prog Try.C Try.f23 lighterref11_Good.an [t0] H0 R = lighterref11_Good.res t0 H0 R := by kernel_rfl
  exact vcFn_sound Try.callable Try.mixed Try.func23 (by kernel_rfl) (e.mpr h)

def lighterref11_Days.an : Ann := (.seq (.reg (.op 0 [] .nil)) (.seq (.reg (.op 0 [] (.op 1 [] .nil))) (.seq (.seq (.reg (.op 0 [] (.op 1 [] (.op 2 [] (.grp 2 (.op 3 [] (.op 4 [] .nil)) 5 .nil))))) (.cond (.seq (.reg (.op 0 [] .nil)) .leaf) .leaf)) (.seq (.reg (.op 0 [] (.op 1 [] (.op 2 [] (.op 3 [] (.op 4 [] (.op 5 [] .nil))))))) (.seq (.seq (.reg (.op 0 [] (.op 1 [] (.op 2 [] (.grp 2 (.op 3 [] (.op 4 [] (.op 5 [] .nil))) 6 (.op 7 [] (.grp 7 (.op 8 [] (.op 9 [] (.op 10 [] (.op 11 [] (.grp 11 (.op 12 [] (.op 13 [] (.op 14 [] .nil))) 15 .nil))))) 16 .nil))))))) (.cond (.reg (.op 0 [] (.op 1 [] (.op 2 [] .nil)))) .leaf)) (.seq (.reg (.op 0 [] (.op 1 [] .nil))) .leaf))))))
/-- lighter/lighterref11.Days -/
def lighterref11_Days.res (year0 : Value) (month1 : Value) (H0 : Heap) (R : Value → Heap → Prop) : Prop :=
 pBuildSl H0 3 12 [(.int .i64 0), (.int .i64 0), (.int .i64 0), (.int .i64 0), (.int .i64 0), (.int .i64 0), (.int .i64 0), (.int .i64 0), (.int .i64 0), (.int .i64 0), (.int .i64 0), (.int .i64 0)] [(0, 1, (.int .i64 31)), (1, 1, (.int .i64 28)), (2, 1, (.int .i64 31)), (3, 1, (.int .i64 30)), (4, 1, (.int .i64 31)), (5, 1, (.int .i64 30)), (6, 1, (.int .i64 31)), (7, 1, (.int .i64 31)), (8, 1, (.int .i64 30)), (9, 1, (.int .i64 31)), (10, 1, (.int .i64 30)), (11, 1, (.int .i64 31))] fun x7 H_1 =>
 pLt month1 (.int .i64 1) fun x9 =>
 pOr x9 (fun J_2 =>
 pGt month1 (.int .i64 12) fun x12 =>
 J_2 x12 H_1) H_1 fun x13 H_3 => ∀ _ : Env,
 pCond x13
 (R (.int .i64 0) H_3)
 (pSub month1 (.int .i64 1) fun x16 =>
 pIdxSl 1 x7 x16 fun x17 =>
 pLoad H_3 x17 fun x18 =>
 pEq 0 month1 (.int .i64 2) fun x20 =>
 pAnd x20 (fun J_4 =>
 pRem year0 (.int .i64 4) fun x23 =>
 pEq 0 x23 (.int .i64 0) fun x24 =>
 J_4 x24 H_3) H_3 fun x25 H_5 => ∀ _ : Env,
 pAnd x25 (fun J_6 =>
 pRem year0 (.int .i64 100) fun x28 =>
 pNe 0 x28 (.int .i64 0) fun x29 =>
 pOr x29 (fun J_8 =>
 pRem year0 (.int .i64 400) fun x32 =>
 pEq 0 x32 (.int .i64 0) fun x33 =>
 J_8 x33 H_5) H_5 fun x34 H_9 => ∀ _ : Env,
 J_6 x34 H_9) H_5 fun x35 H_7 => ∀ _ : Env,
 pCond x35
 (pAdd x18 (.int .i64 1) fun x37 =>
 R x37 H_7)
 (R x18 H_7))
set_option maxRecDepth 100000 in
theorem lighterref11_Days.vc (year0 : Value) (month1 : Value) (H0 : Heap) (R : Value → Heap → Prop) (h : lighterref11_Days.res year0 month1 H0 R) : CallsH Try.prog 25 #[year0, month1] H0 R := by
  have e : vcFn Try.prog Try.C Try.f25 lighterref11_Days.an [year0, month1] H0 R = lighterref11_Days.res year0 month1 H0 R := by kernel_rfl
  exact vcFn_sound Try.callable Try.mixed Try.func25 (by kernel_rfl) (e.mpr h)

end Go.Proofs.Ytabfckcbijinkaa
