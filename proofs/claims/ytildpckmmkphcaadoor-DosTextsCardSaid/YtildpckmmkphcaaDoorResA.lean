/- The residuals of functions, printed by resid.py. -/
import Derived.Test.YtildpckmmkphcaaDoorVcSeat
namespace Go.Proofs.YtildpckmmkphcaaDoor
open Go Go.Vc Go.Proofs
set_option linter.unusedVariables false
set_option maxHeartbeats 4000000
def lighterlaw11_DosTexts.an : Ann := (.seq (.reg (.op 0 [] (.op 1 [] .nil))) (.seq (.seq (.reg (.op 0 [] (.op 1 [] .nil))) (.cond (.seq (.reg (.op 0 [] .nil)) .leaf) .leaf)) (.seq (.reg (.op 0 [] (.op 1 [] (.op 2 [] .nil)))) (.seq (.reg (.op 0 [] (.op 1 [] (.op 2 [] .nil)))) (.cut [] [4, 7, 8, 9, 18, 19, 20, 21, 22, 23, 24, 25, 26, 27, 28, 29, 30, 31, 32, 33, 34, 35, 36, 37, 38, 39, 40, 41, 42, 43, 44, 45, 46, 47, 48, 49, 50, 51, 52, 53, 54, 55, 56, 57, 58, 59, 60, 61, 62, 63, 64, 65, 66, 67, 68] (.seq (.reg (.op 0 [] (.op 1 [] (.op 2 [] .nil)))) (.cond (.seq (.reg (.op 0 [] (.op 1 [] (.op 2 [] (.grp 2 (.op 3 [] (.op 4 [] (.op 5 [] .nil))) 6 .nil))))) (.cond (.seq (.reg (.op 0 [] .nil)) .leaf) .leaf)) (.seq (.reg (.op 0 [] (.op 1 [] (.op 2 [] (.op 3 [] (.op 4 [] (.op 5 [] (.op 6 [] (.op 7 [] .nil))))))))) (.seq (.seq (.reg (.op 0 [] (.op 1 [] (.op 2 [] (.grp 2 (.op 3 [] (.op 4 [] (.op 5 [] .nil))) 6 (.op 7 [] (.grp 7 (.op 8 [] (.op 9 [] (.op 10 [] .nil))) 11 .nil))))))) (.cond (.seq (.reg (.op 0 [] .nil)) .leaf) .leaf)) (.seq (.reg (.op 0 [] (.op 1 [] (.op 2 [] (.op 3 [] .nil))))) (.seq (.drw [0, 1, 3, 7, 15, 7, 63, 127, 255, 511, 1023, 2047, 2047, 8191, 16383, 32767, 65535, 131071, 131071, 524287, 1048575, 2097151] (.op 0 [] (.op 1 [] (.op 2 [] (.grp 2 (.op 3 [] (.op 5 [] (.op 4 [5] (.op 6 [] (.op 7 [] (.op 8 [] (.op 9 [] (.op 10 [] (.grp 10 (.op 11 [] (.op 12 [] (.op 13 [] (.op 14 [] .nil)))) 15 (.op 16 [] (.grp 16 (.op 17 [] (.op 18 [] (.op 19 [] .nil))) 20 .nil))))))))))) 21 .nil))))) (.cond (.seq (.reg (.op 0 [] .nil)) .leaf) .leaf))))))) (.seq (.reg (.op 0 [] (.op 1 [] (.op 2 [] (.op 3 [] (.op 4 [] (.op 5 [] .nil))))))) (.seq (.reg (.op 0 [] (.op 1 [] (.op 2 [] (.op 3 [] (.op 4 [] (.op 5 [] (.op 6 [] (.op 7 [] .nil))))))))) (.seq (.reg (.op 0 [] (.op 1 [] (.op 2 [] .nil)))) (.seq (.reg (.op 0 [] (.op 1 [] (.op 2 [] (.op 3 [] (.op 4 [] (.op 5 [] (.grp 5 (.op 6 [] (.op 7 [] .nil)) 8 (.op 9 [] (.op 10 [] (.grp 10 (.op 11 [] (.op 12 [] (.grp 12 (.op 13 [] (.op 14 [] (.op 15 [] .nil))) 16 .nil))) 17 (.op 18 [] (.grp 18 (.op 19 [] (.op 20 [] (.op 21 [] .nil))) 22 (.op 23 [] (.grp 23 (.op 24 [] (.op 25 [] (.op 26 [] .nil))) 27 (.op 28 [] (.grp 28 (.op 29 [] (.op 30 [] (.op 31 [] (.op 32 [] .nil)))) 33 (.op 34 [] .nil)))))))))))))))))) .leaf)))))))))
/-- lighter/lighterlaw11.DosTexts -/
def lighterlaw11_DosTexts.res (x0 : Value) (s1 : Value) (H0 : Heap) (R : Value → Heap → Prop) : Prop :=
 pBox H0 23 x0 fun x2 H_1 =>
 CallsH Tryd.prog 4 #[] H_1 fun x13 H_2 =>
 pNot x13 fun x14 =>
 pCond x14
 (R (.bool false) H_2)
 (pLoadN H_2 6 x2 fun x15 =>
 pBox H_2 25 (.agg #[(.int .i64 0), (.int .i64 0), (.int .i64 0), (.int .i64 0), (.int .i64 0), (.int .i64 0)]) fun t5 H_3 =>
 pStoreN H_3 6 t5 x15 fun _ H_4 =>
 pLoadN H_4 6 t5 fun x16 =>
 CallsH Tryd.prog 5 #[x16] H_4 fun x17 H_5 =>
 ∃ J_6 : Heap → Prop, (∀ _ : Env, ∀ H_7 : Heap, J_6 H_7 →
 pLenS s1 fun x71 =>
 pMin x71 (.int .i64 30) fun x72 =>
 pSlStr s1 none (some x72) fun x73 =>
 CallsH Tryd.prog 8 #[x73] H_7 fun x76 H_8 =>
 pExtract 0 x76 fun x77 =>
 pExtract 1 x76 fun x78 =>
 pBox H_8 25 (.agg #[(.int .i64 0), (.int .i64 0), (.int .i64 0), (.int .i64 0), (.int .i64 0), (.int .i64 0)]) fun u10 H_9 =>
 pStoreN H_9 6 u10 x77 fun _ H_10 =>
 pBuild [(.int .i64 0), (.int .i64 0), (.int .i64 0), (.int .i64 0), (.int .i64 0), (.int .i64 0)] [(0, 1, (.int .i64 1980)), (1, 1, (.int .i64 1)), (2, 1, (.int .i64 1))] fun x79 =>
 pBox H_10 25 (.agg #[(.int .i64 0), (.int .i64 0), (.int .i64 0), (.int .i64 0), (.int .i64 0), (.int .i64 0)]) fun first12 H_11 =>
 pStoreN H_11 6 first12 x79 fun _ H_12 =>
 pLoadN H_12 6 u10 fun x81 =>
 CallsH Tryd.prog 5 #[x81] H_12 fun x82 H_13 =>
 pEq 1 x82 x73 fun x84 =>
 pAnd x84 (fun J_14 =>
 pNe 1 x73 (str []) fun x87 =>
 J_14 x87 H_13) H_13 fun x88 H_15 => ∀ _ : Env,
 pEq 2 x78 x88 fun x89 =>
 pAnd x89 (fun J_16 =>
 pOr x78 (fun J_18 =>
 pLoadN H_15 6 u10 fun x93 =>
 pBuild [(.int .i64 0), (.int .i64 0), (.int .i64 0), (.int .i64 0), (.int .i64 0), (.int .i64 0)] [] fun x94 =>
 pEqA [0, 0, 0, 0, 0, 0] x93 x94 fun x95 =>
 J_18 x95 H_15) H_15 fun x96 H_19 => ∀ _ : Env,
 J_16 x96 H_19) H_15 fun x97 H_17 => ∀ _ : Env,
 pAnd x97 (fun J_20 =>
 pLoadN H_17 6 first12 fun x99 =>
 CallsH Tryd.prog 7 #[x99] H_17 fun x100 H_22 =>
 pEq 0 x100 (.int .i64 2) fun x101 =>
 J_20 x101 H_22) H_17 fun x102 H_21 => ∀ _ : Env,
 pAnd x102 (fun J_23 =>
 pLoadN H_21 6 first12 fun x104 =>
 CallsH Tryd.prog 5 #[x104] H_21 fun x105 H_25 =>
 pEq 1 x105 (str [49, 57, 56, 48, 45, 48, 49, 45, 48, 49, 32, 48, 48, 58, 48, 48, 58, 48, 48]) fun x106 =>
 J_23 x106 H_25) H_21 fun x107 H_24 => ∀ _ : Env,
 pAnd x107 (fun J_26 =>
 pLoadN H_24 6 t5 fun x109 =>
 pLoadN H_24 6 t5 fun x110 =>
 CallsH Tryd.prog 11 #[x109, x110] H_24 fun x111 H_28 =>
 pNot x111 fun x112 =>
 J_26 x112 H_28) H_24 fun x113 H_27 => ∀ _ : Env,
 R x113 H_27) ∧
 pLoadN H_5 6 x2 fun x18 =>
 CallsH Tryd.prog 6 #[x18] H_5 fun x19 H_29 =>
 pNot x19 fun x20 =>
 pCond x20
 (pNe 1 x17 (str []) fun x22 =>
 pOr x22 (fun J_30 =>
 pLoadN H_29 6 t5 fun x24 =>
 CallsH Tryd.prog 7 #[x24] H_29 fun x25 H_32 =>
 pNe 0 x25 (.int .i64 (-1)) fun x26 =>
 J_30 x26 H_32) H_29 fun x27 H_31 => ∀ _ : Env,
 pCond x27
 (R (.bool false) H_31)
 (J_6 H_31))
 (CallsH Tryd.prog 8 #[x17] H_29 fun x30 H_33 =>
 pExtract 0 x30 fun x31 =>
 pExtract 1 x30 fun x32 =>
 pBox H_33 25 (.agg #[(.int .i64 0), (.int .i64 0), (.int .i64 0), (.int .i64 0), (.int .i64 0), (.int .i64 0)]) fun u7 H_34 =>
 pStoreN H_34 6 u7 x31 fun _ H_35 =>
 pNot x32 fun x34 =>
 pOr x34 (fun J_36 =>
 pLoadN H_35 6 u7 fun x36 =>
 pLoadN H_35 6 t5 fun x37 =>
 pNeA [0, 0, 0, 0, 0, 0] x36 x37 fun x38 =>
 J_36 x38 H_35) H_35 fun x39 H_37 => ∀ _ : Env,
 pOr x39 (fun J_38 =>
 pLenS x17 fun x42 =>
 pNe 0 x42 (.int .i64 19) fun x43 =>
 J_38 x43 H_37) H_37 fun x44 H_39 => ∀ _ : Env,
 pCond x44
 (R (.bool false) H_39)
 (pLoadN H_39 6 x2 fun x45 =>
 CallsH Tryd.prog 9 #[x45] H_39 fun x46 H_40 =>
 pBox H_40 25 (.agg #[(.int .i64 0), (.int .i64 0), (.int .i64 0), (.int .i64 0), (.int .i64 0), (.int .i64 0)]) fun next9 H_41 =>
 pStoreN H_41 6 next9 x46 fun _ H_42 =>
 pLoadN H_42 6 next9 fun x47 =>
 CallsH Tryd.prog 10 #[x47] H_42 fun x48 H_43 =>
 pAnd x48 (fun J_44 =>
 pLoadN H_43 6 next9 fun x50 =>
 pLoadN H_43 6 t5 fun x52 =>
 CallsH Tryd.prog 7 #[x50] H_43 fun x51 H_46 =>
 (pLoadN H_46 6 t5 fun r_ =>
 r_ = x52) ∧
 CallsH Tryd.prog 7 #[x52] H_46 fun x53 H_47 =>
 pAdd x53 (.int .i64 1) fun x54 =>
 pRem x54 (.int .i64 7) fun x55 =>
 pNe 0 x51 x55 fun x56 =>
 pOr x56 (fun J_48 =>
 pLoadN H_47 6 t5 fun x58 =>
 pLoadN H_47 6 next9 fun x59 =>
 CallsH Tryd.prog 11 #[x58, x59] H_47 fun x60 H_50 =>
 pNot x60 fun x61 =>
 J_48 x61 H_50) H_47 fun x62 H_49 => ∀ _ : Env,
 pOr x62 (fun J_51 =>
 pLoadN H_49 6 next9 fun x64 =>
 pLoadN H_49 6 t5 fun x65 =>
 CallsH Tryd.prog 11 #[x64, x65] H_49 fun x66 H_53 =>
 J_51 x66 H_53) H_49 fun x67 H_52 => ∀ _ : Env,
 J_44 x67 H_52) H_43 fun x68 H_45 => ∀ _ : Env,
 pCond x68
 (R (.bool false) H_45)
 (J_6 H_45))))
set_option maxRecDepth 100000 in
theorem lighterlaw11_DosTexts.vc (x0 : Value) (s1 : Value) (H0 : Heap) (R : Value → Heap → Prop) (h : lighterlaw11_DosTexts.res x0 s1 H0 R) : CallsH Tryd.prog 3 #[x0, s1] H0 R := by
  have e : vcFn Tryd.prog Tryd.C Tryd.f3 lighterlaw11_DosTexts.an [x0, s1] H0 R = lighterlaw11_DosTexts.res x0 s1 H0 R := by kernel_rfl
  exact vcFn_sound Tryd.callable Tryd.mixed Tryd.func3 (by kernel_rfl) (e.mpr h)

def lighterlaw11_speaks.an : Ann := (.seq (.reg (.op 0 [] .nil)) (.seq (.reg (.op 0 [] (.op 1 [] (.op 2 [] (.op 3 [] (.op 4 [] (.op 5 [] (.op 6 [] (.op 7 [] (.op 8 [] .nil)))))))))) (.seq (.reg (.op 0 [] (.op 1 [] (.op 2 [] (.op 3 [] (.op 4 [] (.op 5 [] (.op 6 [] .nil)))))))) (.seq (.reg (.op 0 [] (.op 1 [] (.grp 1 (.op 2 [] (.op 3 [] .nil)) 4 (.op 5 [] (.grp 5 (.op 6 [] (.op 7 [] .nil)) 8 (.op 9 [] (.grp 9 (.op 10 [] .nil) 11 (.op 12 [] (.grp 12 (.op 13 [] (.op 14 [] (.op 15 [] .nil))) 16 (.op 17 [] (.grp 17 (.op 18 [] (.op 19 [] .nil)) 20 (.op 21 [] .nil))))))))))))) .leaf))))
/-- lighter/lighterlaw11.speaks -/
def lighterlaw11_speaks.res (H0 : Heap) (R : Value → Heap → Prop) : Prop :=
 pBuild [(.int .i64 0), (.int .i64 0), (.int .i64 0), (.int .i64 0), (.int .i64 0), (.int .i64 0)] [(0, 1, (.int .i64 1980)), (1, 1, (.int .i64 1)), (2, 1, (.int .i64 1))] fun x7 =>
 CallsH Tryd.prog 12 #[x7] H0 fun x8 H_1 =>
 pExtract 0 x8 fun x9 =>
 pExtract 1 x8 fun x10 =>
 pExtract 2 x8 fun x11 =>
 CallsH Tryd.prog 13 #[(.int .i64 43200)] H_1 fun x13 H_2 =>
 pExtract 0 x13 fun x14 =>
 pExtract 1 x13 fun x15 =>
 pBox H_2 25 (.agg #[(.int .i64 0), (.int .i64 0), (.int .i64 0), (.int .i64 0), (.int .i64 0), (.int .i64 0)]) fun t4 H_3 =>
 pStoreN H_3 6 t4 x14 fun _ H_4 =>
 pAnd x11 (fun J_5 =>
 pEq 0 x9 (.int .u64 33) fun x19 =>
 J_5 x19 H_4) H_4 fun x20 H_6 => ∀ _ : Env,
 pAnd x20 (fun J_7 =>
 pEq 0 x10 (.int .u64 0) fun x23 =>
 J_7 x23 H_6) H_6 fun x24 H_8 => ∀ _ : Env,
 pAnd x24 (fun J_9 =>
 J_9 x15 H_8) H_8 fun x27 H_10 => ∀ _ : Env,
 pAnd x27 (fun J_11 =>
 pLoadN H_10 6 t4 fun x29 =>
 pBuild [(.int .i64 0), (.int .i64 0), (.int .i64 0), (.int .i64 0), (.int .i64 0), (.int .i64 0)] [(0, 1, (.int .i64 1980)), (1, 1, (.int .i64 1)), (2, 1, (.int .i64 2))] fun x30 =>
 pEqA [0, 0, 0, 0, 0, 0] x29 x30 fun x31 =>
 J_11 x31 H_10) H_10 fun x32 H_12 => ∀ _ : Env,
 pAnd x32 (fun J_13 =>
 CallsH Tryd.prog 14 #[(.int .i64 2000), (.int .i64 2)] H_12 fun x34 H_15 =>
 pEq 0 x34 (.int .i64 29) fun x35 =>
 J_13 x35 H_15) H_12 fun x36 H_14 => ∀ _ : Env,
 R x36 H_14
set_option maxRecDepth 100000 in
theorem lighterlaw11_speaks.vc (H0 : Heap) (R : Value → Heap → Prop) (h : lighterlaw11_speaks.res H0 R) : CallsH Tryd.prog 4 #[] H0 R := by
  have e : vcFn Tryd.prog Tryd.C Tryd.f4 lighterlaw11_speaks.an [] H0 R = lighterlaw11_speaks.res H0 R := by kernel_rfl
  exact vcFn_sound Tryd.callable Tryd.mixed Tryd.func4 (by kernel_rfl) (e.mpr h)

def dos_Time_Text.an : Ann := (.seq (.reg (.op 0 [] (.op 1 [] .nil))) (.seq (.seq (.reg (.op 0 [] (.op 1 [] (.op 2 [] .nil)))) (.cond (.seq (.reg (.op 0 [] .nil)) .leaf) .leaf)) (.seq (.reg (.op 0 [] (.op 1 [] (.op 2 [] .nil)))) (.seq (.seq (.reg (.op 0 [] (.op 1 [] (.op 2 [] (.op 3 [] (.op 4 [] (.op 5 [] (.op 6 [] (.op 7 [] (.op 8 [] (.op 9 [] (.op 10 [] (.op 11 [] (.op 12 [] (.op 13 [] .nil))))))))))))))) (.block (.loop [25] [4, 5, 6, 25, 26, 27, 28, 29, 30, 31, 32, 33, 34, 35, 36, 37, 38, 39, 40, 41, 42, 43, 44, 45, 46, 47, 48, 49, 50, 51, 52, 53, 54, 55, 56] (.seq (.reg (.op 0 [] .nil)) (.seq (.cond .leaf .leaf) (.seq (.block (.seq (.reg (.op 0 [] (.op 1 [] (.op 2 [] (.op 3 [] .nil))))) (.seq (.drw [0, 1, 3, 7, 0, 16, 48, 112, 255, 511, 1023] (.op 0 [] (.op 1 [] (.op 2 [] (.op 3 [] (.op 4 [] (.op 5 [] (.op 6 [] (.op 7 [] (.op 8 [] (.op 9 [] (.op 10 [] .nil)))))))))))) (.block (.loop [5, 6] [5, 6, 39, 40, 41, 42, 43, 44, 45, 46, 47, 48, 49, 50, 51, 52, 53, 54, 55] (.seq (.seq (.reg (.op 0 [] (.op 1 [] (.op 2 [] (.op 3 [] (.op 4 [] (.op 5 [] .nil))))))) (.cond .leaf .leaf)) (.seq (.block (.seq (.reg (.op 0 [] (.op 1 [] (.op 2 [] (.op 3 [] (.op 4 [] (.op 5 [] (.op 6 [] (.op 7 [] .nil))))))))) (.reg (.op 0 [] (.op 1 [] (.op 2 [] .nil)))))) (.reg (.op 0 [] (.op 1 [] (.op 2 [] .nil))))))))))) (.reg (.op 0 [] (.op 1 [] .nil))))))))) (.seq (.reg (.op 0 [] (.op 1 [] (.op 2 [] .nil)))) .leaf)))))
/-- (lighter/dos.Time).Text -/
def dos_Time_Text.res (t0 : Value) (H0 : Heap) (R : Value → Heap → Prop) : Prop :=
 pBox H0 25 t0 fun t1 H_1 =>
 pLoadN H_1 6 t1 fun x7 =>
 CallsH Tryd.prog 10 #[x7] H_1 fun x8 H_2 =>
 pNot x8 fun x9 =>
 pCond x9
 (R (str []) H_2)
 (pBuildSl H_2 5 19 (List.replicate 19 (.int .u8 0)) [(0, 1, (.int .u8 48)), (1, 1, (.int .u8 48)), (2, 1, (.int .u8 48)), (3, 1, (.int .u8 48)), (4, 1, (.int .u8 45)), (5, 1, (.int .u8 48)), (6, 1, (.int .u8 48)), (7, 1, (.int .u8 45)), (8, 1, (.int .u8 48)), (9, 1, (.int .u8 48)), (10, 1, (.int .u8 32)), (11, 1, (.int .u8 48)), (12, 1, (.int .u8 48)), (13, 1, (.int .u8 58)), (14, 1, (.int .u8 48)), (15, 1, (.int .u8 48)), (16, 1, (.int .u8 58)), (17, 1, (.int .u8 48)), (18, 1, (.int .u8 48))] fun x10 H_3 =>
 pMark H_3 x10 fun x11 H_4 =>
 pFieldAddr 0 t1 fun x12 =>
 pLoad H_4 x12 fun x13 =>
 pFieldAddr 1 t1 fun x14 =>
 pLoad H_4 x14 fun x15 =>
 pFieldAddr 2 t1 fun x16 =>
 pLoad H_4 x16 fun x17 =>
 pFieldAddr 3 t1 fun x18 =>
 pLoad H_4 x18 fun x19 =>
 pFieldAddr 4 t1 fun x20 =>
 pLoad H_4 x20 fun x21 =>
 pFieldAddr 5 t1 fun x22 =>
 pLoad H_4 x22 fun x23 =>
 pBuild [(.int .i64 0), (.int .i64 0), (.int .i64 0), (.int .i64 0), (.int .i64 0), (.int .i64 0)] [(0, 1, x13), (1, 1, x15), (2, 1, x17), (3, 1, x19), (4, 1, x21), (5, 1, x23)] fun x24 =>
 ∃ (I_5 : Value → Heap → Prop) (m_6 : Value → Heap → Nat), I_5 (.int .i64 0) H_4 ∧
 ∀ _ : Env, ∀ x25 : Value, ∀ H_7 : Heap, I_5 x25 H_7 →
 pLt x25 (.int .i64 6) fun x26 =>
 pCond x26
 (pIdxAgg 6 x24 x25 fun x28 =>
 pIdxArr 6 2 (.pointer (some ⟨0, 0, none⟩)) x25 fun x30 =>
 pFieldAddr 0 x30 fun x31 =>
 pLoad H_7 x31 fun x32 =>
 pIdxArr 6 2 (.pointer (some ⟨0, 0, none⟩)) x25 fun x34 =>
 pFieldAddr 1 x34 fun x35 =>
 pLoad H_7 x35 fun x36 =>
 pAdd x32 x36 fun x37 =>
 pSub x37 (.int .i64 1) fun x38 =>
 ∃ (I_8 : Value → Value → Heap → Prop) (m_9 : Value → Value → Heap → Nat), I_8 x28 x38 H_7 ∧
 ∀ _ : Env, ∀ v5 : Value, ∀ k6 : Value, ∀ H_10 : Heap, I_8 v5 k6 H_10 →
 pIdxArr 6 2 (.pointer (some ⟨0, 0, none⟩)) x25 fun x41 =>
 pFieldAddr 0 x41 fun x42 =>
 pLoad H_10 x42 fun x43 =>
 pGe k6 x43 fun x44 =>
 pCond x44
 (pRem v5 (.int .i64 10) fun x50 =>
 pAdd (.int .i64 48) x50 fun x51 =>
 pConv .u8 x51 fun x52 =>
 pIdxSl 1 x11 k6 fun x53 =>
 pStore H_10 x53 x52 fun _ H_11 =>
 pQuo v5 (.int .i64 10) fun x55 =>
 pSub k6 (.int .i64 1) fun x46 =>
 I_8 x55 x46 H_11 ∧ m_9 x55 x46 H_11 < m_9 v5 k6 H_10)
 (pAdd x25 (.int .i64 1) fun x56 =>
 I_5 x56 H_10 ∧ m_6 x56 H_10 < m_6 x25 H_7))
 (pStrOf H_7 x11 fun x58 =>
 R x58 H_7))
set_option maxRecDepth 100000 in
theorem dos_Time_Text.vc (t0 : Value) (H0 : Heap) (R : Value → Heap → Prop) (h : dos_Time_Text.res t0 H0 R) : CallsH Tryd.prog 5 #[t0] H0 R := by
  have e : vcFn Tryd.prog Tryd.C Tryd.f5 dos_Time_Text.an [t0] H0 R = dos_Time_Text.res t0 H0 R := by kernel_rfl
  exact vcFn_sound Tryd.callable Tryd.mixed Tryd.func5 (by kernel_rfl) (e.mpr h)

def dos_Time_Weekday.an : Ann := (.seq (.reg (.op 0 [] (.op 1 [] .nil))) (.seq (.reg (.op 0 [] (.op 1 [] (.op 2 [] .nil)))) (.seq (.seq (.reg (.op 0 [] (.op 1 [] .nil))) (.cond (.seq (.reg (.op 0 [] .nil)) .leaf) .leaf)) (.seq (.reg (.op 0 [] (.op 1 [] (.op 2 [] (.op 3 [] (.op 4 [] .nil)))))) .leaf))))
/-- (lighter/dos.Time).Weekday -/
def dos_Time_Weekday.res (t0 : Value) (H0 : Heap) (R : Value → Heap → Prop) : Prop :=
 pBox H0 25 t0 fun t1 H_1 =>
 pLoadN H_1 6 t1 fun x4 =>
 CallsH Tryd.prog 16 #[x4] H_1 fun x5 H_2 =>
 pLt x5 (.int .i64 0) fun x7 =>
 pCond x7
 (R (.int .i64 (-1)) H_2)
 (pQuo x5 (.int .i64 43200) fun x9 =>
 pAdd x9 (.int .i64 2) fun x10 =>
 pRem x10 (.int .i64 7) fun x11 =>
 R x11 H_2)
set_option maxRecDepth 100000 in
theorem dos_Time_Weekday.vc (t0 : Value) (H0 : Heap) (R : Value → Heap → Prop) (h : dos_Time_Weekday.res t0 H0 R) : CallsH Tryd.prog 7 #[t0] H0 R := by
  have e : vcFn Tryd.prog Tryd.C Tryd.f7 dos_Time_Weekday.an [t0] H0 R = dos_Time_Weekday.res t0 H0 R := by kernel_rfl
  exact vcFn_sound Tryd.callable Tryd.mixed Tryd.func7 (by kernel_rfl) (e.mpr h)

def dos_Parse.an : Ann := (.seq (.reg (.op 0 [] (.op 1 [] .nil))) (.seq (.seq (.reg (.op 0 [] (.op 1 [] (.op 2 [] .nil)))) (.cond (.seq (.reg (.op 0 [] (.op 1 [] (.op 2 [] .nil)))) .leaf) .leaf)) (.seq (.reg (.op 0 [] .nil)) (.seq (.seq (.reg (.op 0 [] (.op 1 [] .nil))) (.block (.loop [14] [5, 6, 7, 14, 15, 16, 17, 18, 19, 20, 21, 22, 23, 24, 25, 26, 27, 28, 29, 30, 31, 32, 33, 34, 35, 36, 37, 38, 39, 40, 41] (.seq (.reg (.op 0 [] .nil)) (.seq (.cond .leaf .leaf) (.seq (.block (.seq (.reg (.op 0 [] (.op 1 [] (.op 2 [] (.op 3 [] (.op 4 [] .nil)))))) (.seq (.reg (.op 0 [] (.op 1 [] (.op 2 [] .nil)))) (.block (.loop [7] [7, 20, 21, 22, 23, 24, 25, 26, 27, 28, 29, 30, 31, 32, 33, 34, 35, 36, 37, 38, 39, 40] (.seq (.seq (.reg (.op 0 [] (.op 1 [] (.op 2 [] (.op 3 [] (.op 4 [] (.op 5 [] (.op 6 [] .nil)))))))) (.cond .leaf .leaf)) (.seq (.block (.drw [0, 0, 2, 6, 14, 0, 0, 96, 224, 510, 1022, 2047, 4095] (.op 0 [] (.op 1 [] (.op 2 [] (.op 3 [] (.op 4 [] (.op 5 [] (.op 6 [] (.op 7 [] (.op 8 [] (.op 9 [] (.op 10 [] (.op 11 [] (.op 12 [] .nil))))))))))))))) (.reg (.op 0 [] (.op 1 [] (.op 2 [] .nil))))))))))) (.reg (.op 0 [] (.op 1 [] .nil))))))))) (.seq (.reg (.op 0 [] (.op 1 [] (.op 2 [] (.op 3 [] (.op 4 [] (.op 5 [] (.op 6 [] (.op 7 [] (.op 8 [] (.op 9 [] (.op 10 [] (.op 11 [] (.op 12 [] (.op 13 [] (.op 14 [] .nil)))))))))))))))) (.seq (.seq (.reg (.op 0 [] (.op 1 [] (.op 2 [] (.op 3 [] .nil))))) (.cond (.seq (.reg (.op 0 [] (.op 1 [] (.op 2 [] .nil)))) .leaf) .leaf)) (.seq (.reg (.op 0 [] (.op 1 [] (.op 2 [] .nil)))) .leaf)))))))
/-- lighter/dos.Parse -/
def dos_Parse.res (s0 : Value) (H0 : Heap) (R : Value → Heap → Prop) : Prop :=
 pBox H0 25 (.agg #[(.int .i64 0), (.int .i64 0), (.int .i64 0), (.int .i64 0), (.int .i64 0), (.int .i64 0)]) fun x2 H_1 =>
 pLenS s0 fun x10 =>
 pNe 0 x10 (.int .i64 19) fun x11 =>
 pCond x11
 (pBuild [(.int .i64 0), (.int .i64 0), (.int .i64 0), (.int .i64 0), (.int .i64 0), (.int .i64 0)] [] fun x12 =>
 pStoreN H_1 6 x2 x12 fun _ H_2 =>
 pLoadN H_2 6 x2 fun r_3 =>
 R (.tuple #[r_3, (.bool false)]) H_2)
 (pBox H_1 41 (.agg #[(.int .i64 0), (.int .i64 0), (.int .i64 0), (.int .i64 0), (.int .i64 0), (.int .i64 0)]) fun v4 H_4 =>
 pLoadN H_4 12 (.pointer (some ⟨0, 0, none⟩)) fun x13 =>
 ∃ (I_5 : Value → Heap → Prop) (m_6 : Value → Heap → Nat), I_5 (.int .i64 0) H_4 ∧
 ∀ _ : Env, ∀ x14 : Value, ∀ H_7 : Heap, I_5 x14 H_7 →
 pLt x14 (.int .i64 6) fun x15 =>
 pCond x15
 (pIdxAggN 6 2 x13 x14 fun x17 =>
 pBox H_7 42 (.agg #[(.int .i64 0), (.int .i64 0)]) fun f6 H_8 =>
 pStoreN H_8 2 f6 x17 fun _ H_9 =>
 pFieldAddr 0 f6 fun x18 =>
 pLoad H_9 x18 fun x19 =>
 ∃ (I_10 : Value → Heap → Prop) (m_11 : Value → Heap → Nat), I_10 x19 H_9 ∧
 ∀ _ : Env, ∀ k7 : Value, ∀ H_12 : Heap, I_10 k7 H_12 →
 pFieldAddr 0 f6 fun x21 =>
 pLoad H_12 x21 fun x22 =>
 pFieldAddr 1 f6 fun x23 =>
 pLoad H_12 x23 fun x24 =>
 pAdd x22 x24 fun x25 =>
 pLt k7 x25 fun x26 =>
 pCond x26
 (pIdxArr 6 1 v4 x14 fun x31 =>
 pLoad H_12 x31 fun x32 =>
 pMul (.int .i64 10) x32 fun x33 =>
 pIdxStr s0 k7 fun x36 =>
 pConv .i64 x36 fun x37 =>
 pAdd x33 x37 fun x38 =>
 pSub x38 (.int .i64 48) fun x39 =>
 pIdxArr 6 1 v4 x14 fun x40 =>
 pStore H_12 x40 x39 fun _ H_13 =>
 pAdd k7 (.int .i64 1) fun x28 =>
 I_10 x28 H_13 ∧ m_11 x28 H_13 < m_11 k7 H_12)
 (pAdd x14 (.int .i64 1) fun x41 =>
 I_5 x41 H_12 ∧ m_6 x41 H_12 < m_6 x14 H_7))
 (pIdxArr 6 1 v4 (.int .i64 0) fun x42 =>
 pLoad H_7 x42 fun x43 =>
 pIdxArr 6 1 v4 (.int .i64 1) fun x44 =>
 pLoad H_7 x44 fun x45 =>
 pIdxArr 6 1 v4 (.int .i64 2) fun x46 =>
 pLoad H_7 x46 fun x47 =>
 pIdxArr 6 1 v4 (.int .i64 3) fun x48 =>
 pLoad H_7 x48 fun x49 =>
 pIdxArr 6 1 v4 (.int .i64 4) fun x50 =>
 pLoad H_7 x50 fun x51 =>
 pIdxArr 6 1 v4 (.int .i64 5) fun x52 =>
 pLoad H_7 x52 fun x53 =>
 pBuild [(.int .i64 0), (.int .i64 0), (.int .i64 0), (.int .i64 0), (.int .i64 0), (.int .i64 0)] [(0, 1, x43), (1, 1, x45), (2, 1, x47), (3, 1, x49), (4, 1, x51), (5, 1, x53)] fun x54 =>
 pBox H_7 25 (.agg #[(.int .i64 0), (.int .i64 0), (.int .i64 0), (.int .i64 0), (.int .i64 0), (.int .i64 0)]) fun t8 H_14 =>
 pStoreN H_14 6 t8 x54 fun _ H_15 =>
 pLoadN H_15 6 t8 fun x55 =>
 CallsH Tryd.prog 5 #[x55] H_15 fun x56 H_16 =>
 pNe 1 x56 s0 fun x58 =>
 pCond x58
 (pBuild [(.int .i64 0), (.int .i64 0), (.int .i64 0), (.int .i64 0), (.int .i64 0), (.int .i64 0)] [] fun x59 =>
 pStoreN H_16 6 x2 x59 fun _ H_17 =>
 pLoadN H_17 6 x2 fun r_18 =>
 R (.tuple #[r_18, (.bool false)]) H_17)
 (pLoadN H_16 6 t8 fun x60 =>
 pStoreN H_16 6 x2 x60 fun _ H_19 =>
 pLoadN H_19 6 x2 fun r_20 =>
 R (.tuple #[r_20, (.bool true)]) H_19)))
set_option maxRecDepth 100000 in
theorem dos_Parse.vc (s0 : Value) (H0 : Heap) (R : Value → Heap → Prop) (h : dos_Parse.res s0 H0 R) : CallsH Tryd.prog 8 #[s0] H0 R := by
  have e : vcFn Tryd.prog Tryd.C Tryd.f8 dos_Parse.an [s0] H0 R = dos_Parse.res s0 H0 R := by kernel_rfl
  exact vcFn_sound Tryd.callable Tryd.mixed Tryd.func8 (by kernel_rfl) (e.mpr h)

def dos_Time_Good.an : Ann := (.seq (.reg (.op 0 [] (.op 1 [] .nil))) (.seq (.drw [0, 1, 3, 7, 15, 31, 63, 127, 255, 511, 1023, 2047, 4095, 8191, 16383, 32767, 16383, 81919, 16383, 278527, 999423, 2097151, 4194303, 8388607, 16777215, 33554431, 67108863, 134217727, 268435455, 536870911, 1073741823, 2147483647, 4294967295, 8589934591, 17179869183, 34359738367, 68719476735, 137438953471, 274877906943, 549755813887, 1099511627775, 2199023255551, 4398046511103, 8796093022207, 17592186044415, 35184372088831, 70368744177663, 140737488355327, 281474976710655, 562949953421311, 1125899906842623, 2251799813685247, 4503599627370495, 9007199254740991, 18014398509481983, 36028797018963967, 72057594037927935, 144115188075855871, 288230376151711743, 576460752303423487] (.op 0 [] (.op 1 [] (.op 2 [] (.op 3 [] (.grp 3 (.op 4 [] (.op 5 [] (.op 6 [] .nil))) 7 (.op 8 [] (.grp 8 (.op 9 [] (.op 10 [] (.op 11 [] .nil))) 12 (.op 13 [] (.grp 13 (.op 14 [] (.op 15 [] (.op 16 [] (.op 17 [] (.op 18 [] (.op 19 [] (.op 20 [15] (.op 21 [] .nil)))))))) 22 (.op 23 [] (.grp 23 (.op 24 [] (.op 25 [] (.op 26 [] .nil))) 27 (.op 28 [] (.grp 28 (.op 29 [] (.op 30 [] (.op 31 [] .nil))) 32 (.op 33 [] (.grp 33 (.op 34 [] (.op 35 [] (.op 36 [] .nil))) 37 (.op 38 [] (.grp 38 (.op 39 [] (.op 40 [] (.op 41 [] .nil))) 42 (.op 43 [] (.grp 43 (.op 44 [] (.op 45 [] (.op 46 [] .nil))) 47 (.op 48 [] (.grp 48 (.op 49 [] (.op 50 [] (.op 51 [] .nil))) 52 (.op 53 [] (.grp 53 (.op 54 [] (.op 55 [] (.op 56 [] (.op 57 [] .nil)))) 58 (.op 59 [] .nil))))))))))))))))))))))))) .leaf))
/-- (lighter/dos.Time).Good -/
def dos_Time_Good.res (t0 : Value) (H0 : Heap) (R : Value → Heap → Prop) : Prop :=
 pBox H0 25 t0 fun t1 H_1 =>
 pFieldAddr 0 t1 fun x3 =>
 pLoad H_1 x3 fun x4 =>
 pGe x4 (.int .i64 1980) fun x5 =>
 pAnd x5 (fun J_2 =>
 pFieldAddr 0 t1 fun x7 =>
 pLoad H_1 x7 fun x8 =>
 pLe x8 (.int .i64 2107) fun x9 =>
 J_2 x9 H_1) H_1 fun x10 H_3 => ∀ _ : Env,
 pAnd x10 (fun J_4 =>
 pFieldAddr 2 t1 fun x12 =>
 pLoad H_3 x12 fun x13 =>
 pGe x13 (.int .i64 1) fun x14 =>
 J_4 x14 H_3) H_3 fun x15 H_5 => ∀ _ : Env,
 pAnd x15 (fun J_6 =>
 pFieldAddr 2 t1 fun x17 =>
 pLoad H_5 x17 fun x18 =>
 pFieldAddr 0 t1 fun x19 =>
 pLoad H_5 x19 fun x20 =>
 pFieldAddr 1 t1 fun x21 =>
 pLoad H_5 x21 fun x22 =>
 CallsH Tryd.prog 14 #[x20, x22] H_5 fun x23 H_8 =>
 (pLoad H_8 x17 fun r_ =>
 r_ = x18) ∧
 pLe x18 x23 fun x24 =>
 J_6 x24 H_8) H_5 fun x25 H_7 => ∀ _ : Env,
 pAnd x25 (fun J_9 =>
 pFieldAddr 3 t1 fun x27 =>
 pLoad H_7 x27 fun x28 =>
 pGe x28 (.int .i64 0) fun x29 =>
 J_9 x29 H_7) H_7 fun x30 H_10 => ∀ _ : Env,
 pAnd x30 (fun J_11 =>
 pFieldAddr 3 t1 fun x32 =>
 pLoad H_10 x32 fun x33 =>
 pLt x33 (.int .i64 24) fun x34 =>
 J_11 x34 H_10) H_10 fun x35 H_12 => ∀ _ : Env,
 pAnd x35 (fun J_13 =>
 pFieldAddr 4 t1 fun x37 =>
 pLoad H_12 x37 fun x38 =>
 pGe x38 (.int .i64 0) fun x39 =>
 J_13 x39 H_12) H_12 fun x40 H_14 => ∀ _ : Env,
 pAnd x40 (fun J_15 =>
 pFieldAddr 4 t1 fun x42 =>
 pLoad H_14 x42 fun x43 =>
 pLt x43 (.int .i64 60) fun x44 =>
 J_15 x44 H_14) H_14 fun x45 H_16 => ∀ _ : Env,
 pAnd x45 (fun J_17 =>
 pFieldAddr 5 t1 fun x47 =>
 pLoad H_16 x47 fun x48 =>
 pGe x48 (.int .i64 0) fun x49 =>
 J_17 x49 H_16) H_16 fun x50 H_18 => ∀ _ : Env,
 pAnd x50 (fun J_19 =>
 pFieldAddr 5 t1 fun x52 =>
 pLoad H_18 x52 fun x53 =>
 pLt x53 (.int .i64 60) fun x54 =>
 J_19 x54 H_18) H_18 fun x55 H_20 => ∀ _ : Env,
 pAnd x55 (fun J_21 =>
 pFieldAddr 5 t1 fun x57 =>
 pLoad H_20 x57 fun x58 =>
 pRem x58 (.int .i64 2) fun x59 =>
 pEq 0 x59 (.int .i64 0) fun x60 =>
 J_21 x60 H_20) H_20 fun x61 H_22 => ∀ _ : Env,
 R x61 H_22
set_option maxRecDepth 100000 in
theorem dos_Time_Good.vc (t0 : Value) (H0 : Heap) (R : Value → Heap → Prop) (h : dos_Time_Good.res t0 H0 R) : CallsH Tryd.prog 10 #[t0] H0 R := by
  have e : vcFn Tryd.prog Tryd.C Tryd.f10 dos_Time_Good.an [t0] H0 R = dos_Time_Good.res t0 H0 R := by kernel_rfl
  exact vcFn_sound Tryd.callable Tryd.mixed Tryd.func10 (by kernel_rfl) (e.mpr h)

def dos_Time_Ahead.an : Ann := (.seq (.reg (.op 0 [] (.op 1 [] (.op 2 [] .nil)))) (.seq (.drw [0, 1, 3, 7, 15, 31, 63, 127, 255, 127, 1023, 2047, 4095, 8191] (.op 0 [] (.op 1 [] (.op 2 [] (.grp 2 (.op 3 [] (.op 4 [] .nil)) 5 (.op 6 [] (.grp 6 (.op 7 [] (.op 9 [] (.op 8 [9] (.op 10 [] (.op 11 [] .nil))))) 12 (.op 13 [] .nil)))))))) .leaf))
/-- (lighter/dos.Time).Ahead -/
def dos_Time_Ahead.res (t0 : Value) (o1 : Value) (H0 : Heap) (R : Value → Heap → Prop) : Prop :=
 pBox H0 25 t0 fun t2 H_1 =>
 pBox H_1 25 o1 fun o3 H_2 =>
 pLoadN H_2 6 t2 fun x5 =>
 CallsH Tryd.prog 10 #[x5] H_2 fun x6 H_3 =>
 pAnd x6 (fun J_4 =>
 pLoadN H_3 6 o3 fun x8 =>
 CallsH Tryd.prog 10 #[x8] H_3 fun x9 H_6 =>
 J_4 x9 H_6) H_3 fun x10 H_5 => ∀ _ : Env,
 pAnd x10 (fun J_7 =>
 pLoadN H_5 6 t2 fun x12 =>
 pLoadN H_5 6 o3 fun x14 =>
 CallsH Tryd.prog 16 #[x12] H_5 fun x13 H_9 =>
 (pLoadN H_9 6 o3 fun r_ =>
 r_ = x14) ∧
 CallsH Tryd.prog 16 #[x14] H_9 fun x15 H_10 =>
 pLt x13 x15 fun x16 =>
 J_7 x16 H_10) H_5 fun x17 H_8 => ∀ _ : Env,
 R x17 H_8
set_option maxRecDepth 100000 in
theorem dos_Time_Ahead.vc (t0 : Value) (o1 : Value) (H0 : Heap) (R : Value → Heap → Prop) (h : dos_Time_Ahead.res t0 o1 H0 R) : CallsH Tryd.prog 11 #[t0, o1] H0 R := by
  have e : vcFn Tryd.prog Tryd.C Tryd.f11 dos_Time_Ahead.an [t0, o1] H0 R = dos_Time_Ahead.res t0 o1 H0 R := by kernel_rfl
  exact vcFn_sound Tryd.callable Tryd.mixed Tryd.func11 (by kernel_rfl) (e.mpr h)

def dos_Time_Pack.an : Ann := (.seq (.reg (.op 0 [] (.op 1 [] (.op 2 [] (.op 3 [] .nil))))) (.seq (.seq (.reg (.op 0 [] (.op 1 [] (.op 2 [] .nil)))) (.cond (.seq (.reg (.op 0 [] (.op 1 [] (.op 2 [] .nil)))) .leaf) .leaf)) (.seq (.drw [0, 1, 0, 4, 12, 31, 0, 64, 192, 448, 1023, 2047, 0, 4096, 12288, 0, 32768, 98304, 258048, 0, 524288, 1572864, 4190208, 8384512, 4095, 33554431, 67108863] (.op 0 [] (.op 1 [] (.op 2 [] (.op 3 [] (.op 4 [] (.op 5 [] (.op 6 [] (.op 7 [] (.op 8 [] (.op 9 [] (.op 10 [] (.op 11 [] (.op 12 [] (.op 13 [] (.op 14 [] (.op 15 [] (.op 16 [] (.op 17 [] (.op 18 [] (.op 19 [] (.op 20 [] (.op 21 [] (.op 22 [] (.op 23 [] (.op 24 [] (.op 25 [] (.op 26 [] .nil)))))))))))))))))))))))))))) .leaf)))
/-- (lighter/dos.Time).Pack -/
def dos_Time_Pack.res (t0 : Value) (H0 : Heap) (R : Value → Heap → Prop) : Prop :=
 pBox H0 25 t0 fun t1 H_1 =>
 pLoadN H_1 6 t1 fun x5 =>
 CallsH Tryd.prog 10 #[x5] H_1 fun x6 H_2 =>
 pNot x6 fun x7 =>
 pCond x7
 (R (.tuple #[(.int .u64 0), (.int .u64 0), (.bool false)]) H_2)
 (pFieldAddr 2 t1 fun x8 =>
 pLoad H_2 x8 fun x9 =>
 pFieldAddr 1 t1 fun x10 =>
 pLoad H_2 x10 fun x11 =>
 pShl x11 (.int .u64 5) fun x12 =>
 pBits .or x9 x12 fun x13 =>
 pFieldAddr 0 t1 fun x14 =>
 pLoad H_2 x14 fun x15 =>
 pSub x15 (.int .i64 1980) fun x16 =>
 pShl x16 (.int .u64 9) fun x17 =>
 pBits .or x13 x17 fun x18 =>
 pConv .u64 x18 fun x19 =>
 pFieldAddr 5 t1 fun x20 =>
 pLoad H_2 x20 fun x21 =>
 pQuo x21 (.int .i64 2) fun x22 =>
 pFieldAddr 4 t1 fun x23 =>
 pLoad H_2 x23 fun x24 =>
 pShl x24 (.int .u64 5) fun x25 =>
 pBits .or x22 x25 fun x26 =>
 pFieldAddr 3 t1 fun x27 =>
 pLoad H_2 x27 fun x28 =>
 pShl x28 (.int .u64 11) fun x29 =>
 pBits .or x26 x29 fun x30 =>
 pConv .u64 x30 fun x31 =>
 R (.tuple #[x19, x31, (.bool true)]) H_2)
set_option maxRecDepth 100000 in
theorem dos_Time_Pack.vc (t0 : Value) (H0 : Heap) (R : Value → Heap → Prop) (h : dos_Time_Pack.res t0 H0 R) : CallsH Tryd.prog 12 #[t0] H0 R := by
  have e : vcFn Tryd.prog Tryd.C Tryd.f12 dos_Time_Pack.an [t0] H0 R = dos_Time_Pack.res t0 H0 R := by kernel_rfl
  exact vcFn_sound Tryd.callable Tryd.mixed Tryd.func12 (by kernel_rfl) (e.mpr h)

def dos_Of.an : Ann := (.seq (.reg (.op 0 [] (.op 1 [] .nil))) (.seq (.seq (.reg (.op 0 [] (.op 1 [] .nil))) (.cond (.seq (.reg (.op 0 [] (.op 1 [] (.op 2 [] .nil)))) .leaf) .leaf)) (.seq (.reg (.op 0 [] (.op 1 [] (.op 2 [] (.op 3 [] (.op 4 [] (.op 5 [] .nil))))))) (.seq (.reg (.op 0 [] (.op 1 [] (.op 2 [] (.op 3 [] (.op 4 [] (.op 5 [] (.op 6 [] (.op 7 [] (.op 8 [] (.op 9 [] (.op 10 [] .nil)))))))))))) (.cut [4] [4, 7, 24, 25, 26, 27, 28, 29, 30, 31, 32, 33, 34, 35, 36, 37, 38, 39, 40] (.block (.loop [4] [4, 7, 24, 25, 26, 27, 28, 29, 30, 31, 32, 33, 34, 35, 36, 37, 38, 39, 40] (.seq (.seq (.reg (.op 0 [] (.op 1 [] (.op 2 [] .nil)))) (.cond .leaf .leaf)) (.block (.seq (.reg (.op 0 [] (.op 1 [] (.op 2 [] (.op 3 [] (.op 4 [] .nil)))))) (.seq (.seq (.reg (.op 0 [] (.op 1 [] (.op 2 [] .nil)))) (.cond .leaf .leaf)) (.seq (.reg (.op 0 [] (.op 1 [] (.op 2 [] (.op 3 [] .nil))))) (.reg (.op 0 [] (.op 1 [] (.op 2 [] (.op 3 [] (.op 4 [] .nil))))))))))))) (.seq (.seq (.reg (.op 0 [] (.op 1 [] (.op 2 [] .nil)))) (.cond (.seq (.reg (.op 0 [] (.op 1 [] (.op 2 [] .nil)))) .leaf) .leaf)) (.seq (.block (.loop [4] [4, 45, 46, 47, 48, 49, 50, 51, 52, 53, 54, 55, 56, 57, 58, 59, 60, 61, 62] (.seq (.seq (.reg (.op 0 [] (.op 1 [] (.op 2 [] (.op 3 [] (.op 4 [] (.op 5 [] (.op 6 [] .nil)))))))) (.cond .leaf .leaf)) (.block (.seq (.reg (.op 0 [] (.op 1 [] (.op 2 [] (.op 3 [] (.op 4 [] (.op 5 [] (.op 6 [] (.op 7 [] .nil))))))))) (.reg (.op 0 [] (.op 1 [] (.op 2 [] (.op 3 [] (.op 4 [] .nil))))))))))) (.seq (.reg (.op 0 [] (.op 1 [] (.op 2 [] (.op 3 [] (.op 4 [] (.op 5 [] .nil))))))) (.seq (.reg (.op 0 [] (.op 1 [] (.op 2 [] .nil)))) .leaf)))))))))
/-- lighter/dos.Of -/
def dos_Of.res (n0 : Value) (H0 : Heap) (R : Value → Heap → Prop) : Prop :=
 pBox H0 25 (.agg #[(.int .i64 0), (.int .i64 0), (.int .i64 0), (.int .i64 0), (.int .i64 0), (.int .i64 0)]) fun x2 H_1 =>
 pLt n0 (.int .i64 0) fun x9 =>
 pCond x9
 (pBuild [(.int .i64 0), (.int .i64 0), (.int .i64 0), (.int .i64 0), (.int .i64 0), (.int .i64 0)] [] fun x10 =>
 pStoreN H_1 6 x2 x10 fun _ H_2 =>
 pLoadN H_2 6 x2 fun r_3 =>
 R (.tuple #[r_3, (.bool false)]) H_2)
 (pQuo n0 (.int .i64 43200) fun x12 =>
 pRem n0 (.int .i64 43200) fun x14 =>
 pQuo x14 (.int .i64 1800) fun x16 =>
 pQuo x14 (.int .i64 30) fun x18 =>
 pRem x18 (.int .i64 60) fun x19 =>
 pRem x14 (.int .i64 30) fun x21 =>
 pMul x21 (.int .i64 2) fun x22 =>
 pBuild [(.int .i64 0), (.int .i64 0), (.int .i64 0), (.int .i64 0), (.int .i64 0), (.int .i64 0)] [(0, 1, (.int .i64 1980)), (1, 1, (.int .i64 1)), (2, 1, (.int .i64 1)), (3, 1, x16), (4, 1, x19), (5, 1, x22)] fun x23 =>
 pBox H_1 25 (.agg #[(.int .i64 0), (.int .i64 0), (.int .i64 0), (.int .i64 0), (.int .i64 0), (.int .i64 0)]) fun t6 H_4 =>
 pStoreN H_4 6 t6 x23 fun _ H_5 =>
 ∃ J_6 : Value → Heap → Prop, (∀ _ : Env, ∀ days4 : Value, ∀ H_7 : Heap, J_6 days4 H_7 →
 pFieldAddr 0 t6 fun x41 =>
 pLoad H_7 x41 fun x42 =>
 pGt x42 (.int .i64 2107) fun x43 =>
 pCond x43
 (pBuild [(.int .i64 0), (.int .i64 0), (.int .i64 0), (.int .i64 0), (.int .i64 0), (.int .i64 0)] [] fun x44 =>
 pStoreN H_7 6 x2 x44 fun _ H_8 =>
 pLoadN H_8 6 x2 fun r_9 =>
 R (.tuple #[r_9, (.bool false)]) H_8)
 (∃ (I_10 : Value → Heap → Prop) (m_11 : Value → Heap → Nat), I_10 days4 H_7 ∧
 ∀ _ : Env, ∀ days4' : Value, ∀ H_12 : Heap, I_10 days4' H_12 →
 pFieldAddr 0 t6 fun x46 =>
 pLoad H_12 x46 fun x47 =>
 pFieldAddr 1 t6 fun x48 =>
 pLoad H_12 x48 fun x49 =>
 CallsH Tryd.prog 14 #[x47, x49] H_12 fun x50 H_13 =>
 pGe days4' x50 fun x51 =>
 pCond x51
 (pFieldAddr 0 t6 fun x53 =>
 pLoad H_13 x53 fun x54 =>
 pFieldAddr 1 t6 fun x55 =>
 pLoad H_13 x55 fun x56 =>
 CallsH Tryd.prog 14 #[x54, x56] H_13 fun x57 H_14 =>
 pSub days4' x57 fun x58 =>
 pFieldAddr 1 t6 fun x59 =>
 pLoad H_14 x59 fun x60 =>
 pAdd x60 (.int .i64 1) fun x61 =>
 pFieldAddr 1 t6 fun x62 =>
 pStore H_14 x62 x61 fun _ H_15 =>
 I_10 x58 H_15 ∧ m_11 x58 H_15 < m_11 days4' H_12)
 (pFieldAddr 2 t6 fun x63 =>
 pLoad H_13 x63 fun x64 =>
 pAdd x64 days4' fun x66 =>
 pFieldAddr 2 t6 fun x67 =>
 pStore H_13 x67 x66 fun _ H_16 =>
 pLoadN H_16 6 t6 fun x68 =>
 pStoreN H_16 6 x2 x68 fun _ H_17 =>
 pLoadN H_17 6 x2 fun r_18 =>
 R (.tuple #[r_18, (.bool true)]) H_17))) ∧
 ∃ (I_19 : Value → Heap → Prop) (m_20 : Value → Heap → Nat), I_19 x12 H_5 ∧
 ∀ _ : Env, ∀ days4'' : Value, ∀ H_21 : Heap, I_19 days4'' H_21 →
 pFieldAddr 0 t6 fun x24 =>
 pLoad H_21 x24 fun x25 =>
 pLe x25 (.int .i64 2107) fun x26 =>
 pCond x26
 (pFieldAddr 0 t6 fun x27 =>
 pLoad H_21 x27 fun x28 =>
 CallsH Tryd.prog 14 #[x28, (.int .i64 2)] H_21 fun x29 H_22 =>
 pAdd (.int .i64 337) x29 fun x30 =>
 pLt days4'' x30 fun x33 =>
 pCond x33
 (J_6 days4'' H_22)
 (pSub days4'' x30 fun x36 =>
 pFieldAddr 0 t6 fun x37 =>
 pLoad H_22 x37 fun x38 =>
 pAdd x38 (.int .i64 1) fun x39 =>
 pFieldAddr 0 t6 fun x40 =>
 pStore H_22 x40 x39 fun _ H_23 =>
 I_19 x36 H_23 ∧ m_20 x36 H_23 < m_20 days4'' H_21))
 (J_6 days4'' H_21))
set_option maxRecDepth 100000 in
theorem dos_Of.vc (n0 : Value) (H0 : Heap) (R : Value → Heap → Prop) (h : dos_Of.res n0 H0 R) : CallsH Tryd.prog 13 #[n0] H0 R := by
  have e : vcFn Tryd.prog Tryd.C Tryd.f13 dos_Of.an [n0] H0 R = dos_Of.res n0 H0 R := by kernel_rfl
  exact vcFn_sound Tryd.callable Tryd.mixed Tryd.func13 (by kernel_rfl) (e.mpr h)

def dos_Days.an : Ann := (.seq (.reg (.op 0 [] .nil)) (.seq (.seq (.reg (.op 0 [] .nil)) (.block (.cut [6] [6, 7, 8, 9, 10] (.seq (.reg (.op 0 [] (.op 1 [] .nil))) (.cond .leaf (.seq (.reg (.op 0 [] (.op 1 [] .nil))) (.cond .leaf (.seq (.reg (.op 0 [] (.op 1 [] .nil))) (.cond .leaf (.reg (.op 0 [] (.op 1 [] .nil))))))))) (.cond (.seq (.reg (.op 0 [] .nil)) .leaf) (.seq (.reg (.op 0 [] (.op 1 [] .nil))) (.cond (.seq (.seq (.reg (.op 0 [] (.op 1 [] .nil))) (.cond (.seq (.reg (.op 0 [] .nil)) .leaf) .leaf)) (.seq (.reg (.op 0 [] .nil)) .leaf)) .leaf)))))) (.seq (.seq (.reg (.op 0 [] (.op 1 [] (.op 2 [] (.grp 2 (.op 3 [] (.op 4 [] .nil)) 5 .nil))))) (.cond (.seq (.reg (.op 0 [] .nil)) .leaf) .leaf)) (.seq (.reg (.op 0 [] .nil)) .leaf))))
/-- lighter/dos.Days -/
def dos_Days.res (year0 : Value) (month1 : Value) (H0 : Heap) (R : Value → Heap → Prop) : Prop :=
 ∃ J_1 : Value → Heap → Prop, (∀ _ : Env, ∀ x6 : Value, ∀ H_2 : Heap, J_1 x6 H_2 →
 pCond x6
 (R (.int .i64 30) H_2)
 (pEq 0 month1 (.int .i64 2) fun x12 =>
 pCond x12
 (CallsH Tryd.prog 17 #[year0] H_2 fun x14 H_3 =>
 pCond x14
 (R (.int .i64 29) H_3)
 (R (.int .i64 28) H_3))
 (pLt month1 (.int .i64 1) fun x16 =>
 pOr x16 (fun J_4 =>
 pGt month1 (.int .i64 12) fun x19 =>
 J_4 x19 H_2) H_2 fun x20 H_5 => ∀ _ : Env,
 pCond x20
 (R (.int .i64 0) H_5)
 (R (.int .i64 31) H_5)))) ∧
 pEq 0 month1 (.int .i64 4) fun x7 =>
 pCond x7
 (J_1 x7 H0)
 (pEq 0 month1 (.int .i64 6) fun x8 =>
 pCond x8
 (J_1 x8 H0)
 (pEq 0 month1 (.int .i64 9) fun x9 =>
 pCond x9
 (J_1 x9 H0)
 (pEq 0 month1 (.int .i64 11) fun x10 =>
 J_1 x10 H0)))
set_option maxRecDepth 100000 in
theorem dos_Days.vc (year0 : Value) (month1 : Value) (H0 : Heap) (R : Value → Heap → Prop) (h : dos_Days.res year0 month1 H0 R) : CallsH Tryd.prog 14 #[year0, month1] H0 R := by
  have e : vcFn Tryd.prog Tryd.C Tryd.f14 dos_Days.an [year0, month1] H0 R = dos_Days.res year0 month1 H0 R := by kernel_rfl
  exact vcFn_sound Tryd.callable Tryd.mixed Tryd.func14 (by kernel_rfl) (e.mpr h)

def dos_Time_Number.an : Ann := (.seq (.reg (.op 0 [] (.op 1 [] .nil))) (.seq (.seq (.reg (.op 0 [] (.op 1 [] (.op 2 [] .nil)))) (.cond (.seq (.reg (.op 0 [] .nil)) .leaf) .leaf)) (.seq (.reg (.op 0 [] (.op 1 [] (.op 2 [] (.op 3 [] .nil))))) (.seq (.seq (.reg (.op 0 [] .nil)) (.block (.loop [3, 4] [3, 4, 12, 13, 14, 15, 16, 17, 18, 19, 20, 21, 22] (.seq (.seq (.reg (.op 0 [] (.op 1 [] (.op 2 [] (.op 3 [] .nil))))) (.cond .leaf .leaf)) (.seq (.block (.reg (.op 0 [] (.op 1 [] (.op 2 [] (.op 3 [] (.op 4 [] (.op 5 [] .nil)))))))) (.reg (.op 0 [] (.op 1 [] (.op 2 [] .nil))))))))) (.seq (.seq (.reg (.op 0 [] .nil)) (.block (.loop [3, 5] [3, 5, 23, 24, 25, 26, 27, 28, 29, 30, 31, 32, 33, 34] (.seq (.seq (.reg (.op 0 [] (.op 1 [] (.op 2 [] (.op 3 [] .nil))))) (.cond .leaf .leaf)) (.seq (.block (.reg (.op 0 [] (.op 1 [] (.op 2 [] (.op 3 [] (.op 4 [] (.op 5 [] (.op 6 [] .nil))))))))) (.reg (.op 0 [] (.op 1 [] (.op 2 [] .nil))))))))) (.seq (.reg (.op 0 [] (.op 1 [] (.op 2 [] (.op 3 [] (.op 4 [] (.op 5 [] (.op 6 [] (.op 7 [] (.op 8 [] (.op 9 [] (.op 10 [] (.op 11 [] (.op 12 [] (.op 13 [] (.op 14 [] .nil)))))))))))))))) .leaf))))))
/-- (lighter/dos.Time).Number -/
def dos_Time_Number.res (t0 : Value) (H0 : Heap) (R : Value → Heap → Prop) : Prop :=
 pBox H0 25 t0 fun t1 H_1 =>
 pLoadN H_1 6 t1 fun x6 =>
 CallsH Tryd.prog 10 #[x6] H_1 fun x7 H_2 =>
 pNot x7 fun x8 =>
 pCond x8
 (R (.int .i64 (-1)) H_2)
 (pFieldAddr 2 t1 fun x9 =>
 pLoad H_2 x9 fun x10 =>
 pSub x10 (.int .i64 1) fun x11 =>
 ∃ (I_3 : Value → Value → Heap → Prop) (m_4 : Value → Value → Heap → Nat), I_3 x11 (.int .i64 1980) H_2 ∧
 ∀ _ : Env, ∀ days3 : Value, ∀ y4 : Value, ∀ H_5 : Heap, I_3 days3 y4 H_5 →
 pFieldAddr 0 t1 fun x13 =>
 pLoad H_5 x13 fun x14 =>
 pLt y4 x14 fun x15 =>
 pCond x15
 (CallsH Tryd.prog 14 #[y4, (.int .i64 2)] H_5 fun x20 H_6 =>
 pAdd (.int .i64 337) x20 fun x21 =>
 pAdd days3 x21 fun x22 =>
 pAdd y4 (.int .i64 1) fun x17 =>
 I_3 x22 x17 H_6 ∧ m_4 x22 x17 H_6 < m_4 days3 y4 H_5)
 (∃ (I_7 : Value → Value → Heap → Prop) (m_8 : Value → Value → Heap → Nat), I_7 days3 (.int .i64 1) H_5 ∧
 ∀ _ : Env, ∀ days3' : Value, ∀ m5 : Value, ∀ H_9 : Heap, I_7 days3' m5 H_9 →
 pFieldAddr 1 t1 fun x24 =>
 pLoad H_9 x24 fun x25 =>
 pLt m5 x25 fun x26 =>
 pCond x26
 (pFieldAddr 0 t1 fun x30 =>
 pLoad H_9 x30 fun x31 =>
 CallsH Tryd.prog 14 #[x31, m5] H_9 fun x33 H_10 =>
 pAdd days3' x33 fun x34 =>
 pAdd m5 (.int .i64 1) fun x28 =>
 I_7 x34 x28 H_10 ∧ m_8 x34 x28 H_10 < m_8 days3' m5 H_9)
 (pMul days3' (.int .i64 43200) fun x36 =>
 pFieldAddr 3 t1 fun x37 =>
 pLoad H_9 x37 fun x38 =>
 pMul x38 (.int .i64 60) fun x39 =>
 pFieldAddr 4 t1 fun x40 =>
 pLoad H_9 x40 fun x41 =>
 pAdd x39 x41 fun x42 =>
 pMul x42 (.int .i64 30) fun x43 =>
 pAdd x36 x43 fun x44 =>
 pFieldAddr 5 t1 fun x45 =>
 pLoad H_9 x45 fun x46 =>
 pQuo x46 (.int .i64 2) fun x47 =>
 pAdd x44 x47 fun x48 =>
 R x48 H_9)))
set_option maxRecDepth 100000 in
theorem dos_Time_Number.vc (t0 : Value) (H0 : Heap) (R : Value → Heap → Prop) (h : dos_Time_Number.res t0 H0 R) : CallsH Tryd.prog 16 #[t0] H0 R := by
  have e : vcFn Tryd.prog Tryd.C Tryd.f16 dos_Time_Number.an [t0] H0 R = dos_Time_Number.res t0 H0 R := by kernel_rfl
  exact vcFn_sound Tryd.callable Tryd.mixed Tryd.func16 (by kernel_rfl) (e.mpr h)

def dos_leap.an : Ann := (.seq (.reg (.op 0 [] .nil)) (.seq (.reg (.op 0 [] (.op 1 [] (.op 2 [] (.op 3 [] (.grp 3 (.op 4 [] (.op 5 [] (.op 6 [] (.op 7 [] (.grp 7 (.op 8 [] (.op 9 [] (.op 10 [] .nil))) 11 .nil))))) 12 (.op 13 [] .nil))))))) .leaf))
/-- lighter/dos.leap -/
def dos_leap.res (year0 : Value) (H0 : Heap) (R : Value → Heap → Prop) : Prop :=
 pRem year0 (.int .i64 4) fun x4 =>
 pEq 0 x4 (.int .i64 0) fun x5 =>
 pAnd x5 (fun J_1 =>
 pRem year0 (.int .i64 100) fun x8 =>
 pNe 0 x8 (.int .i64 0) fun x9 =>
 pOr x9 (fun J_3 =>
 pRem year0 (.int .i64 400) fun x12 =>
 pEq 0 x12 (.int .i64 0) fun x13 =>
 J_3 x13 H0) H0 fun x14 H_4 => ∀ _ : Env,
 J_1 x14 H_4) H0 fun x15 H_2 => ∀ _ : Env,
 R x15 H_2
set_option maxRecDepth 100000 in
theorem dos_leap.vc (year0 : Value) (H0 : Heap) (R : Value → Heap → Prop) (h : dos_leap.res year0 H0 R) : CallsH Tryd.prog 17 #[year0] H0 R := by
  have e : vcFn Tryd.prog Tryd.C Tryd.f17 dos_leap.an [year0] H0 R = dos_leap.res year0 H0 R := by kernel_rfl
  exact vcFn_sound Tryd.callable Tryd.mixed Tryd.func17 (by kernel_rfl) (e.mpr h)

def lighterref11_Good.an : Ann := (.seq (.reg (.op 0 [] (.op 1 [] .nil))) (.seq (.drw [0, 1, 3, 7, 15, 31, 63, 127, 255, 511, 1023, 2047, 4095, 8191, 16383, 32767, 65535, 131071, 262143, 524287, 1048575, 2097151, 4194303, 8388607, 16777215, 33554431, 16777215, 83886079, 16777215, 285212671, 1023410175, 2147483647, 4294967295, 8589934591, 17179869183, 34359738367, 68719476735, 137438953471, 274877906943, 549755813887, 1099511627775, 2199023255551, 4398046511103, 8796093022207, 17592186044415, 35184372088831, 70368744177663, 140737488355327, 281474976710655, 562949953421311, 1125899906842623, 2251799813685247, 4503599627370495, 9007199254740991, 18014398509481983, 36028797018963967, 72057594037927935, 144115188075855871, 288230376151711743, 576460752303423487, 1152921504606846975, 2305843009213693951, 4611686018427387903, 9223372036854775807, 18446744073709551615, 36893488147419103231, 73786976294838206463, 147573952589676412927, 295147905179352825855, 590295810358705651711] (.op 0 [] (.op 1 [] (.op 2 [] (.op 3 [] (.grp 3 (.op 4 [] (.op 5 [] (.op 6 [] .nil))) 7 (.op 8 [] (.grp 8 (.op 9 [] (.op 10 [] (.op 11 [] .nil))) 12 (.op 13 [] (.grp 13 (.op 14 [] (.op 15 [] (.op 16 [] .nil))) 17 (.op 18 [] (.grp 18 (.op 19 [] (.op 20 [] (.op 21 [] .nil))) 22 (.op 23 [] (.grp 23 (.op 24 [] (.op 25 [] (.op 26 [] (.op 27 [] (.op 28 [] (.op 29 [] (.op 30 [25] (.op 31 [] .nil)))))))) 32 (.op 33 [] (.grp 33 (.op 34 [] (.op 35 [] (.op 36 [] .nil))) 37 (.op 38 [] (.grp 38 (.op 39 [] (.op 40 [] (.op 41 [] .nil))) 42 (.op 43 [] (.grp 43 (.op 44 [] (.op 45 [] (.op 46 [] .nil))) 47 (.op 48 [] (.grp 48 (.op 49 [] (.op 50 [] (.op 51 [] .nil))) 52 (.op 53 [] (.grp 53 (.op 54 [] (.op 55 [] (.op 56 [] .nil))) 57 (.op 58 [] (.grp 58 (.op 59 [] (.op 60 [] (.op 61 [] .nil))) 62 (.op 63 [] (.grp 63 (.op 64 [] (.op 65 [] (.op 66 [] (.op 67 [] .nil)))) 68 (.op 69 [] .nil))))))))))))))))))))))))))))) .leaf))
/-- lighter/lighterref11.Good -/
def lighterref11_Good.res (t0 : Value) (H0 : Heap) (R : Value → Heap → Prop) : Prop :=
 pBox H0 28 t0 fun t1 H_1 =>
 pFieldAddr 0 t1 fun x3 =>
 pLoad H_1 x3 fun x4 =>
 pGe x4 (.int .i64 1980) fun x5 =>
 pAnd x5 (fun J_2 =>
 pFieldAddr 0 t1 fun x7 =>
 pLoad H_1 x7 fun x8 =>
 pLe x8 (.int .i64 2107) fun x9 =>
 J_2 x9 H_1) H_1 fun x10 H_3 => ∀ _ : Env,
 pAnd x10 (fun J_4 =>
 pFieldAddr 1 t1 fun x12 =>
 pLoad H_3 x12 fun x13 =>
 pGe x13 (.int .i64 1) fun x14 =>
 J_4 x14 H_3) H_3 fun x15 H_5 => ∀ _ : Env,
 pAnd x15 (fun J_6 =>
 pFieldAddr 1 t1 fun x17 =>
 pLoad H_5 x17 fun x18 =>
 pLe x18 (.int .i64 12) fun x19 =>
 J_6 x19 H_5) H_5 fun x20 H_7 => ∀ _ : Env,
 pAnd x20 (fun J_8 =>
 pFieldAddr 2 t1 fun x22 =>
 pLoad H_7 x22 fun x23 =>
 pGe x23 (.int .i64 1) fun x24 =>
 J_8 x24 H_7) H_7 fun x25 H_9 => ∀ _ : Env,
 pAnd x25 (fun J_10 =>
 pFieldAddr 2 t1 fun x27 =>
 pLoad H_9 x27 fun x28 =>
 pFieldAddr 0 t1 fun x29 =>
 pLoad H_9 x29 fun x30 =>
 pFieldAddr 1 t1 fun x31 =>
 pLoad H_9 x31 fun x32 =>
 CallsH Tryd.prog 15 #[x30, x32] H_9 fun x33 H_12 =>
 (pLoad H_12 x27 fun r_ =>
 r_ = x28) ∧
 pLe x28 x33 fun x34 =>
 J_10 x34 H_12) H_9 fun x35 H_11 => ∀ _ : Env,
 pAnd x35 (fun J_13 =>
 pFieldAddr 3 t1 fun x37 =>
 pLoad H_11 x37 fun x38 =>
 pGe x38 (.int .i64 0) fun x39 =>
 J_13 x39 H_11) H_11 fun x40 H_14 => ∀ _ : Env,
 pAnd x40 (fun J_15 =>
 pFieldAddr 3 t1 fun x42 =>
 pLoad H_14 x42 fun x43 =>
 pLe x43 (.int .i64 23) fun x44 =>
 J_15 x44 H_14) H_14 fun x45 H_16 => ∀ _ : Env,
 pAnd x45 (fun J_17 =>
 pFieldAddr 4 t1 fun x47 =>
 pLoad H_16 x47 fun x48 =>
 pGe x48 (.int .i64 0) fun x49 =>
 J_17 x49 H_16) H_16 fun x50 H_18 => ∀ _ : Env,
 pAnd x50 (fun J_19 =>
 pFieldAddr 4 t1 fun x52 =>
 pLoad H_18 x52 fun x53 =>
 pLe x53 (.int .i64 59) fun x54 =>
 J_19 x54 H_18) H_18 fun x55 H_20 => ∀ _ : Env,
 pAnd x55 (fun J_21 =>
 pFieldAddr 5 t1 fun x57 =>
 pLoad H_20 x57 fun x58 =>
 pGe x58 (.int .i64 0) fun x59 =>
 J_21 x59 H_20) H_20 fun x60 H_22 => ∀ _ : Env,
 pAnd x60 (fun J_23 =>
 pFieldAddr 5 t1 fun x62 =>
 pLoad H_22 x62 fun x63 =>
 pLe x63 (.int .i64 58) fun x64 =>
 J_23 x64 H_22) H_22 fun x65 H_24 => ∀ _ : Env,
 pAnd x65 (fun J_25 =>
 pFieldAddr 5 t1 fun x67 =>
 pLoad H_24 x67 fun x68 =>
 pRem x68 (.int .i64 2) fun x69 =>
 pEq 0 x69 (.int .i64 0) fun x70 =>
 J_25 x70 H_24) H_24 fun x71 H_26 => ∀ _ : Env,
 R x71 H_26
set_option maxRecDepth 100000 in
theorem lighterref11_Good.vc (t0 : Value) (H0 : Heap) (R : Value → Heap → Prop) (h : lighterref11_Good.res t0 H0 R) : CallsH Tryd.prog 6 #[t0] H0 R := by
  have e : vcFn Tryd.prog Tryd.C Tryd.f6 lighterref11_Good.an [t0] H0 R = lighterref11_Good.res t0 H0 R := by kernel_rfl
  exact vcFn_sound Tryd.callable Tryd.mixed Tryd.func6 (by kernel_rfl) (e.mpr h)

def lighterref11_Next.an : Ann := (.seq (.reg (.op 0 [] (.op 1 [] .nil))) (.seq (.reg (.op 0 [] (.op 1 [] (.op 2 [] (.op 3 [] (.op 4 [] .nil)))))) (.cut [] [7, 8, 9, 10, 11, 12, 13, 14, 15, 16, 17, 18, 19] (.seq (.drw [0, 1, 0, 4, 0, 16, 60, 127] (.op 0 [] (.op 1 [] (.op 2 [] (.op 3 [] (.op 4 [] (.op 5 [] (.op 6 [1] (.op 7 [] .nil))))))))) (.cond (.seq (.reg (.op 0 [] (.op 1 [] .nil))) (.reg (.op 0 [] (.op 1 [] (.op 2 [] (.op 3 [] (.op 4 [] .nil))))))) .leaf)) (.seq (.seq (.reg (.op 0 [] (.op 1 [] (.op 2 [] .nil)))) (.cond (.seq (.reg (.op 0 [] (.op 1 [] .nil))) (.reg (.op 0 [] (.op 1 [] (.op 2 [] (.op 3 [] (.op 4 [] .nil))))))) .leaf)) (.seq (.reg (.op 0 [] (.op 1 [] .nil))) .leaf)))))
/-- lighter/lighterref11.Next -/
def lighterref11_Next.res (t0 : Value) (H0 : Heap) (R : Value → Heap → Prop) : Prop :=
 pBox H0 28 t0 fun t1 H_1 =>
 pBox H_1 28 (.agg #[(.int .i64 0), (.int .i64 0), (.int .i64 0), (.int .i64 0), (.int .i64 0), (.int .i64 0)]) fun x2 H_2 =>
 pFieldAddr 2 t1 fun x3 =>
 pLoad H_2 x3 fun x4 =>
 pAdd x4 (.int .i64 1) fun x5 =>
 pFieldAddr 2 t1 fun x6 =>
 pStore H_2 x6 x5 fun _ H_3 =>
 ∃ J_4 : Heap → Prop, (∀ _ : Env, ∀ H_5 : Heap, J_4 H_5 →
 pFieldAddr 1 t1 fun x20 =>
 pLoad H_5 x20 fun x21 =>
 pGt x21 (.int .i64 12) fun x22 =>
 pCond x22
 (pFieldAddr 1 t1 fun x23 =>
 pStore H_5 x23 (.int .i64 1) fun _ H_6 =>
 pFieldAddr 0 t1 fun x24 =>
 pLoad H_6 x24 fun x25 =>
 pAdd x25 (.int .i64 1) fun x26 =>
 pFieldAddr 0 t1 fun x27 =>
 pStore H_6 x27 x26 fun _ H_7 =>
 pLoadN H_7 6 t1 fun x28 =>
 pStoreN H_7 6 x2 x28 fun _ H_8 =>
 pLoadN H_8 6 x2 fun r_9 =>
 R r_9 H_8)
 (pLoadN H_5 6 t1 fun x28 =>
 pStoreN H_5 6 x2 x28 fun _ H_10 =>
 pLoadN H_10 6 x2 fun r_11 =>
 R r_11 H_10)) ∧
 pFieldAddr 2 t1 fun x7 =>
 pLoad H_3 x7 fun x8 =>
 pFieldAddr 0 t1 fun x9 =>
 pLoad H_3 x9 fun x10 =>
 pFieldAddr 1 t1 fun x11 =>
 pLoad H_3 x11 fun x12 =>
 CallsH Tryd.prog 15 #[x10, x12] H_3 fun x13 H_12 =>
 (pLoad H_12 x7 fun r_ =>
 r_ = x8) ∧
 pGt x8 x13 fun x14 =>
 pCond x14
 (pFieldAddr 2 t1 fun x15 =>
 pStore H_12 x15 (.int .i64 1) fun _ H_13 =>
 pFieldAddr 1 t1 fun x16 =>
 pLoad H_13 x16 fun x17 =>
 pAdd x17 (.int .i64 1) fun x18 =>
 pFieldAddr 1 t1 fun x19 =>
 pStore H_13 x19 x18 fun _ H_14 =>
 J_4 H_14)
 (J_4 H_12)
set_option maxRecDepth 100000 in
theorem lighterref11_Next.vc (t0 : Value) (H0 : Heap) (R : Value → Heap → Prop) (h : lighterref11_Next.res t0 H0 R) : CallsH Tryd.prog 9 #[t0] H0 R := by
  have e : vcFn Tryd.prog Tryd.C Tryd.f9 lighterref11_Next.an [t0] H0 R = lighterref11_Next.res t0 H0 R := by kernel_rfl
  exact vcFn_sound Tryd.callable Tryd.mixed Tryd.func9 (by kernel_rfl) (e.mpr h)

def lighterref11_Days.an : Ann := (.seq (.reg (.op 0 [] .nil)) (.seq (.reg (.op 0 [] (.op 1 [] .nil))) (.seq (.seq (.reg (.op 0 [] (.op 1 [] (.op 2 [] (.grp 2 (.op 3 [] (.op 4 [] .nil)) 5 .nil))))) (.cond (.seq (.reg (.op 0 [] .nil)) .leaf) .leaf)) (.seq (.reg (.op 0 [] (.op 1 [] (.op 2 [] (.op 3 [] (.op 4 [] (.op 5 [] .nil))))))) (.seq (.seq (.reg (.op 0 [] (.op 1 [] (.op 2 [] (.grp 2 (.op 3 [] (.op 4 [] (.op 5 [] .nil))) 6 (.op 7 [] (.grp 7 (.op 8 [] (.op 9 [] (.op 10 [] (.op 11 [] (.grp 11 (.op 12 [] (.op 13 [] (.op 14 [] .nil))) 15 .nil))))) 16 .nil))))))) (.cond (.reg (.op 0 [] (.op 1 [] (.op 2 [] .nil)))) .leaf)) (.seq (.reg (.op 0 [] (.op 1 [] .nil))) .leaf))))))
/-- lighter/lighterref11.Days -/
def lighterref11_Days.res (year0 : Value) (month1 : Value) (H0 : Heap) (R : Value → Heap → Prop) : Prop :=
 pBuildSl H0 3 12 [(.int .i64 0), (.int .i64 0), (.int .i64 0), (.int .i64 0), (.int .i64 0), (.int .i64 0), (.int .i64 0), (.int .i64 0), (.int .i64 0), (.int .i64 0), (.int .i64 0), (.int .i64 0)] [(0, 1, (.int .i64 31)), (1, 1, (.int .i64 28)), (2, 1, (.int .i64 31)), (3, 1, (.int .i64 30)), (4, 1, (.int .i64 31)), (5, 1, (.int .i64 30)), (6, 1, (.int .i64 31)), (7, 1, (.int .i64 31)), (8, 1, (.int .i64 30)), (9, 1, (.int .i64 31)), (10, 1, (.int .i64 30)), (11, 1, (.int .i64 31))] fun x7 H_1 =>
 pLt month1 (.int .i64 1) fun x9 =>
 pOr x9 (fun J_2 =>
 pGt month1 (.int .i64 12) fun x12 =>
 J_2 x12 H_1) H_1 fun x13 H_3 => ∀ _ : Env,
 pCond x13
 (R (.int .i64 0) H_3)
 (pSub month1 (.int .i64 1) fun x16 =>
 pIdxSl 1 x7 x16 fun x17 =>
 pLoad H_3 x17 fun x18 =>
 pEq 0 month1 (.int .i64 2) fun x20 =>
 pAnd x20 (fun J_4 =>
 pRem year0 (.int .i64 4) fun x23 =>
 pEq 0 x23 (.int .i64 0) fun x24 =>
 J_4 x24 H_3) H_3 fun x25 H_5 => ∀ _ : Env,
 pAnd x25 (fun J_6 =>
 pRem year0 (.int .i64 100) fun x28 =>
 pNe 0 x28 (.int .i64 0) fun x29 =>
 pOr x29 (fun J_8 =>
 pRem year0 (.int .i64 400) fun x32 =>
 pEq 0 x32 (.int .i64 0) fun x33 =>
 J_8 x33 H_5) H_5 fun x34 H_9 => ∀ _ : Env,
 J_6 x34 H_9) H_5 fun x35 H_7 => ∀ _ : Env,
 pCond x35
 (pAdd x18 (.int .i64 1) fun x37 =>
 R x37 H_7)
 (R x18 H_7))
set_option maxRecDepth 100000 in
theorem lighterref11_Days.vc (year0 : Value) (month1 : Value) (H0 : Heap) (R : Value → Heap → Prop) (h : lighterref11_Days.res year0 month1 H0 R) : CallsH Tryd.prog 15 #[year0, month1] H0 R := by
  have e : vcFn Tryd.prog Tryd.C Tryd.f15 lighterref11_Days.an [year0, month1] H0 R = lighterref11_Days.res year0 month1 H0 R := by kernel_rfl
  exact vcFn_sound Tryd.callable Tryd.mixed Tryd.func15 (by kernel_rfl) (e.mpr h)

end Go.Proofs.YtildpckmmkphcaaDoor
