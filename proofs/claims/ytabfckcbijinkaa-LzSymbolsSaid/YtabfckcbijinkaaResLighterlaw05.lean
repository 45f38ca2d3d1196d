/- The residuals of package lighterlaw05's functions, printed by resid.py. -/
import Derived.Test.YtabfckcbijinkaaVcSeat
namespace Go.Proofs.Ytabfckcbijinkaa
open Go Go.Vc Go.Proofs
set_option linter.unusedVariables false
set_option maxHeartbeats 4000000
def lighterlaw05_LzSymbols.an : Ann := (.seq (.reg (.op 0 [] .nil)) (.seq (.seq (.reg (.op 0 [] (.op 1 [] .nil))) (.cond (.seq (.reg (.op 0 [] .nil)) .leaf) .leaf)) (.seq (.reg (.op 0 [] (.op 1 [] (.op 2 [] (.op 3 [] .nil))))) (.seq (.reg (.op 0 [] (.op 1 [] (.op 2 [] (.op 3 [] (.op 4 [] (.op 5 [] (.op 6 [] (.op 7 [] .nil))))))))) (.seq (.reg (.op 0 [] (.op 1 [] (.op 2 [] .nil)))) (.cut [] [10, 27, 28, 29, 30, 31, 32, 33, 34, 35, 36, 37, 38, 39, 40, 41, 42, 43, 44, 45] (.seq (.reg (.op 0 [] (.op 1 [] (.op 2 [] (.grp 2 (.op 3 [] (.op 4 [] .nil)) 5 .nil))))) (.cond (.seq (.reg (.op 0 [] (.op 1 [] (.op 2 [] (.op 3 [] (.op 4 [] .nil)))))) (.reg (.op 0 [] (.op 1 [] (.op 2 [] (.op 3 [] (.op 4 [] (.op 5 [] (.op 6 [] (.op 7 [] (.op 8 [] (.op 9 [] (.op 10 [] .nil))))))))))))) .leaf)) (.seq (.reg (.op 0 [] (.op 1 [] (.op 2 [] .nil)))) (.cut [] [12, 47, 48, 49, 50, 51, 52, 53, 54, 55, 56, 57, 58, 59, 60, 61, 62, 63, 64, 65] (.seq (.reg (.op 0 [] (.op 1 [] (.op 2 [] (.grp 2 (.op 3 [] (.op 4 [] .nil)) 5 .nil))))) (.cond (.seq (.reg (.op 0 [] (.op 1 [] (.op 2 [] (.op 3 [] (.op 4 [] .nil)))))) (.reg (.op 0 [] (.op 1 [] (.op 2 [] (.op 3 [] (.op 4 [] (.op 5 [] (.op 6 [] (.op 7 [] (.op 8 [] (.op 9 [] (.op 10 [] .nil))))))))))))) .leaf)) (.seq (.seq (.reg (.op 0 [] (.op 1 [] (.op 2 [] (.op 3 [] (.grp 3 (.op 4 [] (.op 5 [] (.op 6 [] .nil))) 7 .nil)))))) (.cond (.seq (.reg (.op 0 [] .nil)) .leaf) .leaf)) (.seq (.reg (.op 0 [] (.op 1 [] (.op 2 [] (.op 3 [] (.op 4 [] (.op 5 [] (.op 6 [] (.op 7 [] (.op 8 [] .nil)))))))))) (.seq (.seq (.reg (.op 0 [] (.op 1 [] (.op 2 [] (.grp 2 (.op 3 [] (.op 4 [] .nil)) 5 (.op 6 [] .nil)))))) (.seq (.reg (.op 0 [] (.op 1 [] (.op 2 [] (.op 3 [] (.grp 3 (.op 4 [] (.op 5 [] (.grp 5 (.op 6 [] (.op 7 [] (.op 8 [] (.op 9 [] (.op 10 [] (.op 11 [] (.op 12 [] (.op 13 [] (.op 14 [] (.grp 14 (.op 15 [] (.op 16 [] (.op 17 [] (.op 18 [] (.op 19 [] (.op 20 [] (.op 21 [] (.op 22 [] .nil)))))))) 23 .nil)))))))))) 24 .nil))) 25 (.op 26 [] (.grp 26 (.op 27 [] (.op 28 [] (.op 29 [] (.grp 29 (.op 30 [] (.op 31 [] (.op 32 [] (.op 33 [] .nil)))) 34 .nil)))) 35 .nil)))))))) (.cond (.seq (.reg (.op 0 [] .nil)) .leaf) .leaf))) (.seq (.reg (.op 0 [] (.op 1 [] (.op 2 [] (.op 3 [] (.op 4 [] (.op 5 [] (.op 6 [] (.op 7 [] (.op 8 [] .nil)))))))))) (.seq (.reg (.op 0 [] (.op 1 [] (.op 2 [] (.grp 2 (.op 3 [] (.op 4 [] .nil)) 5 (.op 6 [] .nil)))))) (.seq (.reg (.op 0 [] (.op 1 [] (.op 2 [] (.op 3 [] (.grp 3 (.op 4 [] (.op 5 [] (.op 6 [] (.grp 6 (.op 7 [] (.op 8 [] (.op 9 [] (.op 10 [] (.op 11 [] (.op 12 [] (.op 13 [] (.op 14 [] (.grp 14 (.op 15 [] (.op 16 [] (.op 17 [] (.op 18 [] (.op 19 [] (.op 20 [] (.op 21 [] .nil))))))) 22 .nil))))))))) 23 .nil)))) 24 (.op 25 [] (.grp 25 (.op 26 [] (.op 27 [] (.grp 27 (.op 28 [] (.op 29 [] (.op 30 [] (.op 31 [] .nil)))) 32 .nil))) 33 (.op 34 [] .nil))))))))) .leaf))))))))))))))
/-- lighter/lighterlaw05.LzSymbols -/
def lighterlaw05_LzSymbols.res (n0 : Value) (symbol1 : Value) (H0 : Heap) (R : Value → Heap → Prop) : Prop :=
 CallsH Try.prog 15 #[] H0 fun x18 H_1 =>
 pNot x18 fun x19 =>
 pCond x19
 (R (.bool false) H_1)
 (CallsH Try.prog 16 #[] H_1 fun x20 H_2 =>
 CallsH Try.prog 17 #[] H_2 fun x21 H_3 =>
 CallsH Try.prog 18 #[n0] H_3 fun x23 H_4 =>
 CallsH Try.prog 19 #[n0] H_4 fun x25 H_5 =>
 pBox H_5 39 (.agg #[(.int .i64 0), (.int .i64 0), (.int .u64 0)]) fun x7 H_6 =>
 pBox H_6 39 (.agg #[(.int .i64 0), (.int .i64 0), (.int .u64 0)]) fun y8 H_7 =>
 pStoreN H_7 3 x7 x23 fun _ H_8 =>
 pStoreN H_8 3 y8 x25 fun _ H_9 =>
 pBuild [(.int .i64 0), (.int .i64 0), (.int .u64 0)] [] fun x26 =>
 pBox H_9 39 (.agg #[(.int .i64 0), (.int .i64 0), (.int .u64 0)]) fun w9 H_10 =>
 pStoreN H_10 3 w9 x26 fun _ H_11 =>
 ∃ J_12 : Heap → Prop, (∀ _ : Env, ∀ H_13 : Heap, J_12 H_13 →
 pBuild [(.int .i64 0), (.int .i64 0), (.int .u64 0)] [] fun x46 =>
 pBox H_13 39 (.agg #[(.int .i64 0), (.int .i64 0), (.int .u64 0)]) fun v11 H_14 =>
 pStoreN H_14 3 v11 x46 fun _ H_15 =>
 ∃ J_16 : Heap → Prop, (∀ _ : Env, ∀ H_17 : Heap, J_16 H_17 →
 pLoadN H_17 3 x7 fun x66 =>
 pLoadN H_17 3 w9 fun x67 =>
 pNeA [0, 0, 0] x66 x67 fun x68 =>
 pOr x68 (fun J_18 =>
 pLoadN H_17 3 y8 fun x70 =>
 pLoadN H_17 3 v11 fun x71 =>
 pNeA [0, 0, 0] x70 x71 fun x72 =>
 J_18 x72 H_17) H_17 fun x73 H_19 => ∀ _ : Env,
 pCond x73
 (R (.bool false) H_19)
 (CallsH Try.prog 21 #[symbol1] H_19 fun x76 H_20 =>
 pExtract 0 x76 fun x77 =>
 pExtract 1 x76 fun x78 =>
 pExtract 2 x76 fun x79 =>
 pGe symbol1 (.int .i64 257) fun x81 =>
 pAnd x81 (fun J_21 =>
 pLe symbol1 (.int .i64 285) fun x84 =>
 J_21 x84 H_20) H_20 fun x85 H_22 => ∀ _ : Env,
 pNe 2 x85 x79 fun x88 =>
 pOr x88 (fun J_23 =>
 pAnd x85 (fun J_25 =>
 pSub symbol1 (.int .i64 257) fun x95 =>
 pIdxSl 3 x20 x95 fun x96 =>
 pFieldAddr 1 x96 fun x97 =>
 pLoad H_22 x97 fun x98 =>
 pNe 0 x77 x98 fun x99 =>
 pOr x99 (fun J_27 =>
 pSub symbol1 (.int .i64 257) fun x104 =>
 pIdxSl 3 x20 x104 fun x105 =>
 pFieldAddr 2 x105 fun x106 =>
 pLoad H_22 x106 fun x107 =>
 pNe 0 x78 x107 fun x108 =>
 J_27 x108 H_22) H_22 fun x109 H_28 => ∀ _ : Env,
 J_25 x109 H_28) H_22 fun x110 H_26 => ∀ _ : Env,
 J_23 x110 H_26) H_22 fun x111 H_24 => ∀ _ : Env,
 pOr x111 (fun J_29 =>
 pNot x85 fun x114 =>
 pAnd x114 (fun J_31 =>
 pAdd x77 x78 fun x118 =>
 pNe 0 x118 (.int .i64 0) fun x119 =>
 J_31 x119 H_24) H_24 fun x120 H_32 => ∀ _ : Env,
 J_29 x120 H_32) H_24 fun x121 H_30 => ∀ _ : Env,
 pCond x121
 (R (.bool false) H_30)
 (CallsH Try.prog 22 #[symbol1] H_30 fun x124 H_33 =>
 pExtract 0 x124 fun x125 =>
 pExtract 1 x124 fun x126 =>
 pExtract 2 x124 fun x127 =>
 pGe symbol1 (.int .i64 0) fun x129 =>
 pAnd x129 (fun J_34 =>
 pLe symbol1 (.int .i64 29) fun x132 =>
 J_34 x132 H_33) H_33 fun x133 H_35 => ∀ _ : Env,
 pEq 2 x133 x127 fun x136 =>
 pAnd x136 (fun J_36 =>
 pNot x133 fun x139 =>
 pOr x139 (fun J_38 =>
 pIdxSl 3 x21 symbol1 fun x144 =>
 pFieldAddr 1 x144 fun x145 =>
 pLoad H_35 x145 fun x146 =>
 pEq 0 x125 x146 fun x147 =>
 pAnd x147 (fun J_40 =>
 pIdxSl 3 x21 symbol1 fun x152 =>
 pFieldAddr 2 x152 fun x153 =>
 pLoad H_35 x153 fun x154 =>
 pEq 0 x126 x154 fun x155 =>
 J_40 x155 H_35) H_35 fun x156 H_41 => ∀ _ : Env,
 J_38 x156 H_41) H_35 fun x157 H_39 => ∀ _ : Env,
 J_36 x157 H_39) H_35 fun x158 H_37 => ∀ _ : Env,
 pAnd x158 (fun J_42 =>
 pOr x133 (fun J_44 =>
 pAdd x125 x126 fun x164 =>
 pEq 0 x164 (.int .i64 0) fun x165 =>
 J_44 x165 H_37) H_37 fun x166 H_45 => ∀ _ : Env,
 J_42 x166 H_45) H_37 fun x167 H_43 => ∀ _ : Env,
 R x167 H_43))) ∧
 pGe n0 (.int .i64 1) fun x48 =>
 pAnd x48 (fun J_46 =>
 pLe n0 (.int .i64 32768) fun x51 =>
 J_46 x51 H_15) H_15 fun x52 H_47 => ∀ _ : Env,
 pCond x52
 (CallsH Try.prog 20 #[x21, n0] H_47 fun x55 H_48 =>
 pBox H_48 42 (.agg #[(.int .i64 0), (.int .i64 0), (.int .i64 0)]) fun r12 H_49 =>
 pStoreN H_49 3 r12 x55 fun _ H_50 =>
 pFieldAddr 0 r12 fun x56 =>
 pLoad H_50 x56 fun x57 =>
 pFieldAddr 2 r12 fun x58 =>
 pLoad H_50 x58 fun x59 =>
 pFieldAddr 1 r12 fun x61 =>
 pLoad H_50 x61 fun x62 =>
 pSub n0 x62 fun x63 =>
 pConv .u64 x63 fun x64 =>
 pBuild [(.int .i64 0), (.int .i64 0), (.int .u64 0)] [(0, 1, x57), (1, 1, x59), (2, 1, x64)] fun x65 =>
 pStoreN H_50 3 v11 x65 fun _ H_51 =>
 J_16 H_51)
 (J_16 H_47)) ∧
 pGe n0 (.int .i64 3) fun x28 =>
 pAnd x28 (fun J_52 =>
 pLe n0 (.int .i64 258) fun x31 =>
 J_52 x31 H_11) H_11 fun x32 H_53 => ∀ _ : Env,
 pCond x32
 (CallsH Try.prog 20 #[x20, n0] H_53 fun x35 H_54 =>
 pBox H_54 42 (.agg #[(.int .i64 0), (.int .i64 0), (.int .i64 0)]) fun r10 H_55 =>
 pStoreN H_55 3 r10 x35 fun _ H_56 =>
 pFieldAddr 0 r10 fun x36 =>
 pLoad H_56 x36 fun x37 =>
 pFieldAddr 2 r10 fun x38 =>
 pLoad H_56 x38 fun x39 =>
 pFieldAddr 1 r10 fun x41 =>
 pLoad H_56 x41 fun x42 =>
 pSub n0 x42 fun x43 =>
 pConv .u64 x43 fun x44 =>
 pBuild [(.int .i64 0), (.int .i64 0), (.int .u64 0)] [(0, 1, x37), (1, 1, x39), (2, 1, x44)] fun x45 =>
 pStoreN H_56 3 w9 x45 fun _ H_57 =>
 J_12 H_57)
 (J_12 H_53))
set_option maxRecDepth 100000 in
theorem lighterlaw05_LzSymbols.vc (n0 : Value) (symbol1 : Value) (H0 : Heap) (R : Value → Heap → Prop) (h : lighterlaw05_LzSymbols.res n0 symbol1 H0 R) : CallsH Try.prog 5 #[n0, symbol1] H0 R := by
  have e : vcFn Try.prog Try.C Try.f5 lighterlaw05_LzSymbols.an [n0, symbol1] H0 R = lighterlaw05_LzSymbols.res n0 symbol1 H0 R := by kernel_rfl
  exact vcFn_sound Try.callable Try.mixed Try.func5 (by kernel_rfl) (e.mpr h)

def lighterlaw05_LzWhole.an : Ann := (.seq (.reg (.op 0 [] .nil)) (.seq (.seq (.reg (.op 0 [] (.op 1 [] .nil))) (.cond (.seq (.reg (.op 0 [] .nil)) .leaf) .leaf)) (.seq (.reg (.op 0 [] (.op 1 [] (.op 2 [] (.op 3 [] .nil))))) (.seq (.reg (.op 0 [] (.op 1 [] (.op 2 [] (.op 3 [] .nil))))) (.seq (.reg (.op 0 [] (.op 1 [] (.op 2 [] (.op 3 [] (.op 4 [] (.op 5 [] (.op 6 [] (.op 7 [] (.op 8 [] (.op 9 [] .nil))))))))))) (.seq (.seq (.reg (.op 0 [] (.op 1 [] (.op 2 [] (.grp 2 (.op 3 [] (.op 4 [] (.op 5 [] (.op 6 [] .nil)))) 7 (.op 8 [] (.grp 8 (.op 9 [] (.op 10 [] (.op 11 [] (.op 12 [] (.op 13 [] (.op 14 [] (.op 15 [] .nil))))))) 16 (.op 17 [] (.grp 17 (.op 18 [] (.op 19 [] (.op 20 [] (.op 21 [] (.op 22 [] (.op 23 [] .nil)))))) 24 .nil))))))))) (.cond (.seq (.reg (.op 0 [] .nil)) .leaf) .leaf)) (.seq (.reg (.op 0 [] (.op 1 [] (.op 2 [] (.op 3 [] .nil))))) (.seq (.reg (.op 0 [] (.op 1 [] (.op 2 [] (.op 3 [] .nil))))) (.seq (.reg (.op 0 [] (.op 1 [] (.op 2 [] (.op 3 [] (.op 4 [] (.op 5 [] (.op 6 [] (.op 7 [] (.op 8 [] (.op 9 [] .nil))))))))))) (.seq (.reg (.op 0 [] (.op 1 [] (.grp 1 (.op 2 [] (.op 3 [] (.op 4 [] (.op 5 [] .nil)))) 6 (.op 7 [] (.grp 7 (.op 8 [] (.op 9 [] (.op 10 [] (.op 11 [] (.op 12 [] (.op 13 [] (.op 14 [] .nil))))))) 15 (.op 16 [] (.grp 16 (.op 17 [] (.op 18 [] (.op 19 [] (.op 20 [] (.op 21 [] (.op 22 [] .nil)))))) 23 (.op 24 [] .nil))))))))) .leaf))))))))))
/-- lighter/lighterlaw05.LzWhole -/
def lighterlaw05_LzWhole.res (n0 : Value) (H0 : Heap) (R : Value → Heap → Prop) : Prop :=
 CallsH Try.prog 15 #[] H0 fun x9 H_1 =>
 pNot x9 fun x10 =>
 pCond x10
 (R (.bool false) H_1)
 (pBits .and n0 (.int .i64 255) fun x12 =>
 pAdd (.int .i64 3) x12 fun x13 =>
 CallsH Try.prog 18 #[x13] H_1 fun x15 H_2 =>
 pBox H_2 39 (.agg #[(.int .i64 0), (.int .i64 0), (.int .u64 0)]) fun x4 H_3 =>
 pStoreN H_3 3 x4 x15 fun _ H_4 =>
 pFieldAddr 0 x4 fun x17 =>
 pLoad H_4 x17 fun x18 =>
 CallsH Try.prog 21 #[x18] H_4 fun x19 H_5 =>
 pExtract 0 x19 fun x20 =>
 pExtract 1 x19 fun x21 =>
 pExtract 2 x19 fun x22 =>
 pNot x22 fun x24 =>
 pOr x24 (fun J_6 =>
 pFieldAddr 1 x4 fun x27 =>
 pLoad H_5 x27 fun x28 =>
 pNe 0 x21 x28 fun x29 =>
 J_6 x29 H_5) H_5 fun x30 H_7 => ∀ _ : Env,
 pOr x30 (fun J_8 =>
 pFieldAddr 2 x4 fun x33 =>
 pLoad H_7 x33 fun x34 =>
 pConv .i64 x34 fun x35 =>
 pAdd x20 x35 fun x36 =>
 pNe 0 x36 x13 fun x38 =>
 J_8 x38 H_7) H_7 fun x39 H_9 => ∀ _ : Env,
 pOr x39 (fun J_10 =>
 pFieldAddr 2 x4 fun x41 =>
 pLoad H_9 x41 fun x42 =>
 pFieldAddr 1 x4 fun x43 =>
 pLoad H_9 x43 fun x44 =>
 pShr x42 x44 fun x45 =>
 pNe 0 x45 (.int .u64 0) fun x46 =>
 J_10 x46 H_9) H_9 fun x47 H_11 => ∀ _ : Env,
 pCond x47
 (R (.bool false) H_11)
 (pBits .and n0 (.int .i64 32767) fun x49 =>
 pAdd (.int .i64 1) x49 fun x50 =>
 CallsH Try.prog 19 #[x50] H_11 fun x52 H_12 =>
 pBox H_12 39 (.agg #[(.int .i64 0), (.int .i64 0), (.int .u64 0)]) fun y8 H_13 =>
 pStoreN H_13 3 y8 x52 fun _ H_14 =>
 pFieldAddr 0 y8 fun x54 =>
 pLoad H_14 x54 fun x55 =>
 CallsH Try.prog 22 #[x55] H_14 fun x56 H_15 =>
 pExtract 0 x56 fun x57 =>
 pExtract 1 x56 fun x58 =>
 pExtract 2 x56 fun x59 =>
 pAnd x59 (fun J_16 =>
 pFieldAddr 1 y8 fun x63 =>
 pLoad H_15 x63 fun x64 =>
 pEq 0 x58 x64 fun x65 =>
 J_16 x65 H_15) H_15 fun x66 H_17 => ∀ _ : Env,
 pAnd x66 (fun J_18 =>
 pFieldAddr 2 y8 fun x69 =>
 pLoad H_17 x69 fun x70 =>
 pConv .i64 x70 fun x71 =>
 pAdd x57 x71 fun x72 =>
 pEq 0 x72 x50 fun x74 =>
 J_18 x74 H_17) H_17 fun x75 H_19 => ∀ _ : Env,
 pAnd x75 (fun J_20 =>
 pFieldAddr 2 y8 fun x77 =>
 pLoad H_19 x77 fun x78 =>
 pFieldAddr 1 y8 fun x79 =>
 pLoad H_19 x79 fun x80 =>
 pShr x78 x80 fun x81 =>
 pEq 0 x81 (.int .u64 0) fun x82 =>
 J_20 x82 H_19) H_19 fun x83 H_21 => ∀ _ : Env,
 R x83 H_21))
set_option maxRecDepth 100000 in
theorem lighterlaw05_LzWhole.vc (n0 : Value) (H0 : Heap) (R : Value → Heap → Prop) (h : lighterlaw05_LzWhole.res n0 H0 R) : CallsH Try.prog 6 #[n0] H0 R := by
  have e : vcFn Try.prog Try.C Try.f6 lighterlaw05_LzWhole.an [n0] H0 R = lighterlaw05_LzWhole.res n0 H0 R := by kernel_rfl
  exact vcFn_sound Try.callable Try.mixed Try.func6 (by kernel_rfl) (e.mpr h)

def lighterlaw05_speaks.an : Ann := (.seq (.reg (.op 0 [] .nil)) (.seq (.reg (.op 0 [] (.op 1 [] (.op 2 [] (.op 3 [] (.op 4 [] (.op 5 [] (.op 6 [] (.op 7 [] .nil))))))))) (.seq (.reg (.op 0 [] (.op 1 [] (.grp 1 (.op 2 [] (.op 3 [] .nil)) 4 (.op 5 [] (.grp 5 (.op 6 [] (.op 7 [] (.op 8 [] .nil))) 9 (.op 10 [] (.grp 10 (.op 11 [] (.op 12 [] (.op 13 [] .nil))) 14 (.op 15 [] .nil))))))))) .leaf)))
/-- lighter/lighterlaw05.speaks -/
def lighterlaw05_speaks.res (H0 : Heap) (R : Value → Heap → Prop) : Prop :=
 pBuild [(.int .u8 0), (.int .i64 0), (.int .i64 0)] [(1, 1, (.int .i64 3)), (2, 1, (.int .i64 2))] fun x4 =>
 pBuildSl H0 55 1 [(.int .u8 0), (.int .i64 0), (.int .i64 0)] [(0, 3, x4)] fun x5 H_1 =>
 CallsH Try.prog 26 #[(str [97, 98]), x5] H_1 fun x6 H_2 =>
 pExtract 0 x6 fun x7 =>
 pExtract 1 x6 fun x8 =>
 pAnd x8 (fun J_3 =>
 pEq 1 x7 (str [97, 98, 97]) fun x12 =>
 J_3 x12 H_2) H_2 fun x13 H_4 => ∀ _ : Env,
 pAnd x13 (fun J_5 =>
 CallsH Try.prog 18 #[(.int .i64 258)] H_4 fun x15 H_7 =>
 pBuild [(.int .i64 0), (.int .i64 0), (.int .u64 0)] [(0, 1, (.int .i64 285))] fun x16 =>
 pEqA [0, 0, 0] x15 x16 fun x17 =>
 J_5 x17 H_7) H_4 fun x18 H_6 => ∀ _ : Env,
 pAnd x18 (fun J_8 =>
 CallsH Try.prog 19 #[(.int .i64 6)] H_6 fun x20 H_10 =>
 pBuild [(.int .i64 0), (.int .i64 0), (.int .u64 0)] [(0, 1, (.int .i64 4)), (1, 1, (.int .i64 1)), (2, 1, (.int .u64 1))] fun x21 =>
 pEqA [0, 0, 0] x20 x21 fun x22 =>
 J_8 x22 H_10) H_6 fun x23 H_9 => ∀ _ : Env,
 R x23 H_9
set_option maxRecDepth 100000 in
theorem lighterlaw05_speaks.vc (H0 : Heap) (R : Value → Heap → Prop) (h : lighterlaw05_speaks.res H0 R) : CallsH Try.prog 15 #[] H0 R := by
  have e : vcFn Try.prog Try.C Try.f15 lighterlaw05_speaks.an [] H0 R = lighterlaw05_speaks.res H0 R := by kernel_rfl
  exact vcFn_sound Try.callable Try.mixed Try.func15 (by kernel_rfl) (e.mpr h)

end Go.Proofs.Ytabfckcbijinkaa
