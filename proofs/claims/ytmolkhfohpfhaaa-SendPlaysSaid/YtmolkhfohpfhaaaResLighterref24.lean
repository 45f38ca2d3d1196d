/- The residuals of package lighterref24's functions, printed by resid.py. -/
import Derived.Test.YtmolkhfohpfhaaaVcSeat
namespace Go.Proofs.Ytmolkhfohpfhaaa
open Go Go.Vc Go.Proofs
set_option linter.unusedVariables false
set_option maxHeartbeats 4000000
def lighterref24_Base.an : Ann := (.seq (.reg (.op 0 [] (.op 1 [] .nil))) (.seq (.seq (.reg (.op 0 [] .nil)) (.block (.loop [3] [2, 3, 4, 5, 6, 7, 8, 9, 10, 11, 12, 13, 14, 15, 16, 17] (.seq (.seq (.reg (.op 0 [] (.op 1 [] (.op 2 [] (.op 3 [] (.op 4 [] .nil)))))) (.cond .leaf .leaf)) (.seq (.block (.seq (.reg (.op 0 [] (.op 1 [] (.op 2 [] (.op 3 [] (.op 4 [] (.op 5 [] .nil))))))) (.cond (.seq (.reg (.op 0 [] (.op 1 [] .nil))) .leaf) .leaf))) (.reg (.op 0 [] (.op 1 [] (.op 2 [] .nil))))))))) (.seq (.reg (.op 0 [] (.op 1 [] (.op 2 [] (.op 3 [] .nil))))) .leaf)))
/-- lighter/lighterref24.Base -/
def lighterref24_Base.res (w0 : Value) (H0 : Heap) (R : Value → Heap → Prop) : Prop :=
 pBox H0 67 w0 fun w1 H_1 =>
 ∃ (I_2 : Value → Heap → Prop) (m_3 : Value → Heap → Nat), I_2 (.int .i64 0) H_1 ∧
 ∀ _ : Env, ∀ i3 : Value, ∀ H_4 : Heap, I_2 i3 H_4 →
 pFieldAddr 3 w1 fun x5 =>
 pLoad H_4 x5 fun x6 =>
 pLen x6 fun x7 =>
 pLt i3 x7 fun x8 =>
 pCond x8
 (pFieldAddr 3 w1 fun x11 =>
 pLoad H_4 x11 fun x12 =>
 pIdxSl 1 x12 i3 fun x14 =>
 pLoad H_4 x14 fun x15 =>
 pNot x15 fun x16 =>
 pCond x16
 (R i3 H_4)
 (pAdd i3 (.int .i64 1) fun x10 =>
 I_2 x10 H_4 ∧ m_3 x10 H_4 < m_3 i3 H_4))
 (pFieldAddr 3 w1 fun x18 =>
 pLoad H_4 x18 fun x19 =>
 pLen x19 fun x20 =>
 R x20 H_4)
set_option maxRecDepth 100000 in
theorem lighterref24_Base.vc (w0 : Value) (H0 : Heap) (R : Value → Heap → Prop) (h : lighterref24_Base.res w0 H0 R) : CallsH Try.prog 29 #[w0] H0 R := by
  have e : vcFn Try.prog Try.C Try.f29 lighterref24_Base.an [w0] H0 R = lighterref24_Base.res w0 H0 R := by kernel_rfl
  exact vcFn_sound Try.callable Try.mixed Try.func29 (by kernel_rfl) (e.mpr h)

def lighterref24_Fresh.an : Ann := (.seq (.reg (.op 0 [] (.op 1 [] (.op 2 [] .nil)))) (.seq (.reg (.op 0 [] .nil)) (.seq (.reg (.op 0 [] (.op 1 [] (.op 2 [] .nil)))) (.seq (.reg (.op 0 [] (.op 1 [] (.op 2 [] (.op 3 [] (.op 4 [] .nil)))))) (.seq (.seq (.reg (.op 0 [] (.op 1 [] .nil))) (.block (.loop [4, 7] [4, 7, 15, 16, 17, 18, 19, 20, 21, 22, 23, 24, 25, 26, 27, 28, 29, 30, 31, 32, 33, 34, 35, 36, 37, 38, 39, 40, 41] (.seq (.seq (.reg (.op 0 [] (.op 1 [] (.op 2 [] (.op 3 [] (.op 4 [] (.op 5 [] (.grp 5 (.op 6 [] (.op 7 [] (.op 8 [] (.op 9 [] (.op 10 [] (.op 11 [] .nil)))))) 12 .nil)))))))) (.cond .leaf .leaf)) (.cut [4] [4, 30, 31, 32, 33, 34, 35, 36, 37, 38, 39, 40, 41] (.block (.seq (.reg (.op 0 [] (.op 1 [] (.op 2 [] (.op 3 [] (.op 4 [] .nil)))))) (.cond (.seq (.reg (.op 0 [] (.op 1 [] (.op 2 [] (.op 3 [] .nil))))) (.reg (.op 0 [] (.op 1 [] (.op 2 [] (.op 3 [] (.op 4 [] .nil))))))) .leaf))) (.reg (.op 0 [] (.op 1 [] (.op 2 [] .nil))))))))) (.seq (.reg (.op 0 [] (.op 1 [] (.op 2 [] .nil)))) (.seq (.reg (.op 0 [] (.op 1 [] (.op 2 [] (.op 3 [] .nil))))) .leaf)))))))
/-- lighter/lighterref24.Fresh -/
def lighterref24_Fresh.res (w0 : Value) (H0 : Heap) (R : Value → Heap → Prop) : Prop :=
 pBox H0 67 w0 fun w1 H_1 =>
 pBox H_1 67 (.agg #[(.int .u32 0), (.int .i64 0), (.slice none 0 0), (.slice none 0 0)]) fun x2 H_2 =>
 pLoadN H_2 4 w1 fun x8 =>
 CallsH Try.prog 29 #[x8] H_2 fun x9 H_3 =>
 pBuildSl H_3 4 0 [] [] fun x10 H_4 =>
 pFieldAddr 2 w1 fun x11 =>
 pLoad H_4 x11 fun x12 =>
 pAppend H_4 4 1 1 [(.bool false)] x10 x12 fun x13 H_5 =>
 ∃ (I_6 : Value → Value → Heap → Prop) (m_7 : Value → Value → Heap → Nat), I_6 (.slice none 0 0) x9 H_5 ∧
 ∀ _ : Env, ∀ out4 : Value, ∀ i7 : Value, ∀ H_8 : Heap, I_6 out4 i7 H_8 →
 pFieldAddr 2 w1 fun x16 =>
 pLoad H_8 x16 fun x17 =>
 pLen x17 fun x18 =>
 pLt i7 x18 fun x19 =>
 pAnd x19 (fun J_9 =>
 pFieldAddr 1 w1 fun x23 =>
 pLoad H_8 x23 fun x24 =>
 pAdd x9 x24 fun x25 =>
 pLt i7 x25 fun x26 =>
 J_9 x26 H_8) H_8 fun x27 H_10 => ∀ _ : Env,
 pCond x27
 (∃ J_11 : Value → Heap → Prop, (∀ _ : Env, ∀ out4' : Value, ∀ H_12 : Heap, J_11 out4' H_12 →
 pAdd i7 (.int .i64 1) fun x29 =>
 I_6 out4' x29 H_12 ∧ m_7 out4' x29 H_12 < m_7 out4 i7 H_8) ∧
 pIdxSl 1 x13 i7 fun x32 =>
 pLoad H_10 x32 fun x33 =>
 pNot x33 fun x34 =>
 pCond x34
 (pIdxSl 1 x13 i7 fun x37 =>
 pStore H_10 x37 (.bool true) fun _ H_13 =>
 pBuildSl H_13 3 1 [(.int .i64 0)] [(0, 1, i7)] fun x40 H_14 =>
 pAppend H_14 3 1 8 [(.int .i64 0)] out4 x40 fun x41 H_15 =>
 J_11 x41 H_15)
 (J_11 out4 H_10))
 (pFieldAddr 2 w1 fun x43 =>
 pStore H_10 x43 x13 fun _ H_16 =>
 pLoadN H_16 4 w1 fun x44 =>
 pStoreN H_16 4 x2 x44 fun _ H_17 =>
 pLoadN H_17 4 x2 fun r_18 =>
 R (.tuple #[r_18, out4]) H_17)
set_option maxRecDepth 100000 in
theorem lighterref24_Fresh.vc (w0 : Value) (H0 : Heap) (R : Value → Heap → Prop) (h : lighterref24_Fresh.res w0 H0 R) : CallsH Try.prog 30 #[w0] H0 R := by
  have e : vcFn Try.prog Try.C Try.f30 lighterref24_Fresh.an [w0] H0 R = lighterref24_Fresh.res w0 H0 R := by kernel_rfl
  exact vcFn_sound Try.callable Try.mixed Try.func30 (by kernel_rfl) (e.mpr h)

def lighterref24_Forget.an : Ann := (.seq (.reg (.op 0 [] (.op 1 [] .nil))) (.seq (.reg (.op 0 [] (.op 1 [] (.op 2 [] (.op 3 [] (.op 4 [] .nil)))))) (.seq (.seq (.reg (.op 0 [] (.op 1 [] (.op 2 [] .nil)))) (.block (.loop [4] [4, 11, 12, 13, 14, 15, 16, 17, 18, 19] (.seq (.seq (.reg (.op 0 [] (.op 1 [] (.op 2 [] (.op 3 [] .nil))))) (.cond .leaf .leaf)) (.seq (.block (.reg (.op 0 [] (.op 1 [] (.op 2 [] (.op 3 [] .nil)))))) (.reg (.op 0 [] (.op 1 [] (.op 2 [] .nil))))))))) (.seq (.reg (.op 0 [] (.op 1 [] (.op 2 [] .nil)))) (.seq (.reg (.op 0 [] (.op 1 [] .nil))) .leaf)))))
/-- lighter/lighterref24.Forget -/
def lighterref24_Forget.res (w0 : Value) (H0 : Heap) (R : Value → Heap → Prop) : Prop :=
 pBox H0 67 w0 fun w1 H_1 =>
 pBox H_1 67 (.agg #[(.int .u32 0), (.int .i64 0), (.slice none 0 0), (.slice none 0 0)]) fun x2 H_2 =>
 pBuildSl H_2 4 0 [] [] fun x5 H_3 =>
 pFieldAddr 3 w1 fun x6 =>
 pLoad H_3 x6 fun x7 =>
 pAppend H_3 4 1 1 [(.bool false)] x5 x7 fun x8 H_4 =>
 pLoadN H_4 4 w1 fun x9 =>
 CallsH Try.prog 29 #[x9] H_4 fun x10 H_5 =>
 ∃ (I_6 : Value → Heap → Prop) (m_7 : Value → Heap → Nat), I_6 x10 H_5 ∧
 ∀ _ : Env, ∀ i4 : Value, ∀ H_8 : Heap, I_6 i4 H_8 →
 pLen x8 fun x13 =>
 pLt i4 x13 fun x14 =>
 pCond x14
 (pIdxSl 1 x8 i4 fun x19 =>
 pStore H_8 x19 (.bool false) fun _ H_9 =>
 pAdd i4 (.int .i64 1) fun x16 =>
 I_6 x16 H_9 ∧ m_7 x16 H_9 < m_7 i4 H_8)
 (pFieldAddr 3 w1 fun x21 =>
 pStore H_8 x21 x8 fun _ H_10 =>
 pLoadN H_10 4 w1 fun x22 =>
 pStoreN H_10 4 x2 x22 fun _ H_11 =>
 pLoadN H_11 4 x2 fun r_12 =>
 R r_12 H_11)
set_option maxRecDepth 100000 in
theorem lighterref24_Forget.vc (w0 : Value) (H0 : Heap) (R : Value → Heap → Prop) (h : lighterref24_Forget.res w0 H0 R) : CallsH Try.prog 33 #[w0] H0 R := by
  have e : vcFn Try.prog Try.C Try.f33 lighterref24_Forget.an [w0] H0 R = lighterref24_Forget.res w0 H0 R := by kernel_rfl
  exact vcFn_sound Try.callable Try.mixed Try.func33 (by kernel_rfl) (e.mpr h)

def lighterref24_Ack.an : Ann := (.seq (.reg (.op 0 [] (.op 1 [] (.op 2 [] .nil)))) (.seq (.reg (.op 0 [] (.op 1 [] (.op 2 [] .nil)))) (.seq (.reg (.op 0 [] .nil)) (.seq (.seq (.reg (.op 0 [] (.op 1 [] .nil))) (.block (.loop [9, 10] [9, 10, 21, 22, 23, 24, 25, 26, 27, 28, 29, 30, 31, 32, 33, 34, 35, 36] (.seq (.seq (.reg (.op 0 [] (.op 1 [] (.op 2 [] (.op 3 [] .nil))))) (.cond .leaf .leaf)) (.cut [9] [9, 27, 28, 29, 30, 31, 32, 33, 34, 35, 36] (.block (.seq (.reg (.op 0 [] (.op 1 [] (.op 2 [] (.op 3 [] (.op 4 [] (.op 5 [] (.grp 5 (.op 6 [] (.op 7 [] .nil)) 8 .nil)))))))) (.cond (.reg (.op 0 [] (.op 1 [] .nil))) .leaf))) (.reg (.op 0 [] (.op 1 [] (.op 2 [] .nil))))))))) (.seq (.seq (.reg (.op 0 [] (.op 1 [] .nil))) (.cond (.seq (.reg (.op 0 [] (.op 1 [] (.op 2 [] .nil)))) .leaf) .leaf)) (.seq (.reg (.op 0 [] (.op 1 [] (.op 2 [] (.op 3 [] (.op 4 [] .nil)))))) (.seq (.reg (.op 0 [] .nil)) (.seq (.seq (.reg (.op 0 [] (.op 1 [] .nil))) (.block (.loop [12, 13] [12, 13, 14, 15, 16, 17, 45, 46, 47, 48, 49, 50, 51, 52, 53, 54, 55, 56, 57, 58, 59, 60, 61, 62, 63, 64, 65, 66, 67, 68, 69, 70, 71, 72, 73, 74, 75, 76, 77, 78, 79, 80, 81, 82, 83, 84, 85] (.seq (.seq (.reg (.op 0 [] (.op 1 [] (.op 2 [] (.op 3 [] .nil))))) (.cond .leaf .leaf)) (.cut [12] [12, 14, 15, 16, 17, 51, 52, 53, 54, 55, 56, 57, 58, 59, 60, 61, 62, 63, 64, 65, 66, 67, 68, 69, 70, 71, 72, 73, 74, 75, 76, 77, 78, 79, 80, 81, 82, 83, 84, 85] (.block (.seq (.reg (.op 0 [] (.op 1 [] (.op 2 [] (.op 3 [] .nil))))) (.cut [14] [14, 15, 16, 17, 54, 55, 56, 57, 58, 59, 60, 61, 62, 63, 64, 65, 66, 67, 68, 69, 70, 71, 72, 73, 74] (.seq (.reg (.op 0 [] (.op 1 [] (.op 2 [] (.op 3 [] (.op 4 [] .nil)))))) (.seq (.reg (.op 0 [] (.op 1 [] (.op 2 [] (.grp 2 (.op 3 [] (.op 4 [] .nil)) 5 .nil))))) (.cond (.seq (.reg (.op 0 [] (.op 1 [] .nil))) (.seq (.seq (.reg (.op 0 [] .nil)) (.block (.loop [16, 17] [16, 17, 65, 66, 67, 68, 69, 70, 71] (.seq (.seq (.reg (.op 0 [] (.op 1 [] (.op 2 [] .nil)))) (.cond .leaf .leaf)) (.seq (.block (.reg (.op 0 [] (.op 1 [] (.op 2 [] .nil))))) (.reg (.op 0 [] (.op 1 [] (.op 2 [] .nil))))))))) (.reg (.op 0 [] (.op 1 [] (.op 2 [] (.op 3 [] .nil))))))) .leaf))) (.seq (.reg (.op 0 [] (.op 1 [] (.grp 1 (.op 2 [] (.op 3 [] (.op 4 [] (.op 5 [] (.op 6 [] .nil))))) 7 .nil)))) (.cond (.seq (.reg (.op 0 [] (.op 1 [] (.op 2 [] (.op 3 [] .nil))))) (.reg (.op 0 [] .nil))) .leaf))))) (.reg (.op 0 [] (.op 1 [] (.op 2 [] .nil))))))))) (.cut [] [86, 87, 88, 89, 90, 91, 92] (.seq (.reg (.op 0 [] (.op 1 [] (.op 2 [] (.op 3 [] .nil))))) (.cond (.reg (.op 0 [] (.op 1 [] (.op 2 [] (.op 3 [] .nil))))) .leaf)) (.seq (.reg (.op 0 [] (.op 1 [] (.op 2 [] .nil)))) (.seq (.reg (.op 0 [] (.op 1 [] (.op 2 [] (.op 3 [] .nil))))) .leaf)))))))))))
/-- lighter/lighterref24.Ack -/
def lighterref24_Ack.res (w0 : Value) (upto1 : Value) (bits2 : Value) (H0 : Heap) (R : Value → Heap → Prop) : Prop :=
 pBox H0 67 w0 fun w3 H_1 =>
 pBox H_1 67 (.agg #[(.int .u32 0), (.int .i64 0), (.slice none 0 0), (.slice none 0 0)]) fun x6 H_2 =>
 pLoadN H_2 4 w3 fun x18 =>
 CallsH Try.prog 29 #[x18] H_2 fun x19 H_3 =>
 ∃ (I_4 : Value → Value → Heap → Prop) (m_5 : Value → Value → Heap → Nat), I_4 (.int .i64 (-1)) x19 H_3 ∧
 ∀ _ : Env, ∀ at9 : Value, ∀ i10 : Value, ∀ H_6 : Heap, I_4 at9 i10 H_6 →
 pLoadN H_6 4 w3 fun x22 =>
 CallsH Try.prog 40 #[x22] H_6 fun x23 H_7 =>
 pLe i10 x23 fun x24 =>
 pCond x24
 (∃ J_8 : Value → Heap → Prop, (∀ _ : Env, ∀ at9' : Value, ∀ H_9 : Heap, J_8 at9' H_9 →
 pAdd i10 (.int .i64 1) fun x26 =>
 I_4 at9' x26 H_9 ∧ m_5 at9' x26 H_9 < m_5 at9 i10 H_6) ∧
 pLoadN H_7 4 w3 fun x27 =>
 CallsH Try.prog 39 #[x27, i10] H_7 fun x29 H_10 =>
 pEq 0 x29 upto1 fun x31 =>
 pAnd x31 (fun J_11 =>
 pLt at9 (.int .i64 0) fun x34 =>
 J_11 x34 H_10) H_10 fun x35 H_12 => ∀ _ : Env,
 pCond x35
 (J_8 i10 H_12)
 (J_8 at9 H_12))
 (pLt at9 (.int .i64 0) fun x38 =>
 pCond x38
 (pLoadN H_7 4 w3 fun x39 =>
 pStoreN H_7 4 x6 x39 fun _ H_13 =>
 pLoadN H_13 4 x6 fun r_14 =>
 R (.tuple #[r_14, (.bool false)]) H_13)
 (pBuildSl H_7 4 0 [] [] fun x40 H_15 =>
 pFieldAddr 3 w3 fun x41 =>
 pLoad H_15 x41 fun x42 =>
 pAppend H_15 4 1 1 [(.bool false)] x40 x42 fun x43 H_16 =>
 ∃ (I_17 : Value → Value → Heap → Prop) (m_18 : Value → Value → Heap → Nat), I_17 (.bool false) x19 H_16 ∧
 ∀ _ : Env, ∀ news12 : Value, ∀ i13 : Value, ∀ H_19 : Heap, I_17 news12 i13 H_19 →
 pLoadN H_19 4 w3 fun x46 =>
 CallsH Try.prog 40 #[x46] H_19 fun x47 H_20 =>
 pLt i13 x47 fun x48 =>
 pCond x48
 (∃ J_21 : Value → Heap → Prop, (∀ _ : Env, ∀ news12' : Value, ∀ H_22 : Heap, J_21 news12' H_22 →
 pAdd i13 (.int .i64 1) fun x50 =>
 I_17 news12' x50 H_22 ∧ m_18 news12' x50 H_22 < m_18 news12 i13 H_19) ∧
 pLt i13 at9 fun x53 =>
 ∃ J_23 : Value → Heap → Prop, (∀ _ : Env, ∀ set14 : Value, ∀ H_24 : Heap, J_23 set14 H_24 →
 pAnd set14 (fun J_25 =>
 pIdxSl 1 x43 i13 fun x79 =>
 pLoad H_24 x79 fun x80 =>
 pNot x80 fun x81 =>
 J_25 x81 H_24) H_24 fun x82 H_26 => ∀ _ : Env,
 pCond x82
 (pIdxSl 1 x43 i13 fun x85 =>
 pStore H_26 x85 (.bool true) fun _ H_27 =>
 J_21 (.bool true) H_27)
 (J_21 news12 H_26)) ∧
 pSub i13 at9 fun x56 =>
 pSub x56 (.int .i64 1) fun x57 =>
 pGe x57 (.int .i64 0) fun x59 =>
 pAnd x59 (fun J_28 =>
 pLt x57 (.int .i64 32) fun x62 =>
 J_28 x62 H_20) H_20 fun x63 H_29 => ∀ _ : Env,
 pCond x63
 (∃ (I_30 : Value → Value → Heap → Prop) (m_31 : Value → Value → Heap → Nat), I_30 bits2 (.int .i64 0) H_29 ∧
 ∀ _ : Env, ∀ v16 : Value, ∀ j17 : Value, ∀ H_32 : Heap, I_30 v16 j17 H_32 →
 pLt j17 x57 fun x67 =>
 pCond x67
 (pQuo v16 (.int .u32 2) fun x71 =>
 pAdd j17 (.int .i64 1) fun x69 =>
 I_30 x71 x69 H_32 ∧ m_31 x71 x69 H_32 < m_31 v16 j17 H_32)
 (pRem v16 (.int .u32 2) fun x73 =>
 pEq 0 x73 (.int .u32 1) fun x74 =>
 J_23 x74 H_32))
 (J_23 x53 H_29))
 (∃ J_33 : Heap → Prop, (∀ _ : Env, ∀ H_34 : Heap, J_33 H_34 →
 pFieldAddr 3 w3 fun x94 =>
 pStore H_34 x94 x43 fun _ H_35 =>
 pLoadN H_35 4 w3 fun x95 =>
 pStoreN H_35 4 x6 x95 fun _ H_36 =>
 pLoadN H_36 4 x6 fun r_37 =>
 R (.tuple #[r_37, news12]) H_36) ∧
 pLen x43 fun x88 =>
 pLt at9 x88 fun x89 =>
 pCond x89
 (pIdxSl 1 x43 at9 fun x92 =>
 pStore H_20 x92 (.bool false) fun _ H_38 =>
 J_33 H_38)
 (J_33 H_20))))
set_option maxRecDepth 100000 in
theorem lighterref24_Ack.vc (w0 : Value) (upto1 : Value) (bits2 : Value) (H0 : Heap) (R : Value → Heap → Prop) (h : lighterref24_Ack.res w0 upto1 bits2 H0 R) : CallsH Try.prog 34 #[w0, upto1, bits2] H0 R := by
  have e : vcFn Try.prog Try.C Try.f34 lighterref24_Ack.an [w0, upto1, bits2] H0 R = lighterref24_Ack.res w0 upto1 bits2 H0 R := by kernel_rfl
  exact vcFn_sound Try.callable Try.mixed Try.func34 (by kernel_rfl) (e.mpr h)

def lighterref24_Number.an : Ann := (.seq (.reg (.op 0 [] (.op 1 [] .nil))) (.seq (.reg (.op 0 [] (.op 1 [] (.op 2 [] (.op 3 [] (.op 4 [] (.op 5 [] .nil))))))) .leaf))
/-- lighter/lighterref24.Number -/
def lighterref24_Number.res (w0 : Value) (i1 : Value) (H0 : Heap) (R : Value → Heap → Prop) : Prop :=
 pBox H0 67 w0 fun w2 H_1 =>
 pFieldAddr 0 w2 fun x5 =>
 pLoad H_1 x5 fun x6 =>
 pConv .u32 i1 fun x8 =>
 pAdd x6 x8 fun x9 =>
 R x9 H_1
set_option maxRecDepth 100000 in
theorem lighterref24_Number.vc (w0 : Value) (i1 : Value) (H0 : Heap) (R : Value → Heap → Prop) (h : lighterref24_Number.res w0 i1 H0 R) : CallsH Try.prog 39 #[w0, i1] H0 R := by
  have e : vcFn Try.prog Try.C Try.f39 lighterref24_Number.an [w0, i1] H0 R = lighterref24_Number.res w0 i1 H0 R := by kernel_rfl
  exact vcFn_sound Try.callable Try.mixed Try.func39 (by kernel_rfl) (e.mpr h)

def lighterref24_Sent.an : Ann := (.seq (.reg (.op 0 [] (.op 1 [] .nil))) (.seq (.reg (.op 0 [] .nil)) (.seq (.block (.loop [3] [3, 4, 5, 6, 7, 8, 9, 10, 11, 12, 13, 14, 15, 16, 17] (.seq (.seq (.reg (.op 0 [] (.op 1 [] (.op 2 [] (.op 3 [] (.op 4 [] (.op 5 [] (.grp 5 (.op 6 [] (.op 7 [] (.op 8 [] (.op 9 [] (.op 10 [] .nil))))) 11 .nil)))))))) (.cond .leaf .leaf)) (.block (.reg (.op 0 [] (.op 1 [] (.op 2 [] .nil)))))))) (.seq (.reg (.op 0 [] (.op 1 [] .nil))) .leaf))))
/-- lighter/lighterref24.Sent -/
def lighterref24_Sent.res (w0 : Value) (H0 : Heap) (R : Value → Heap → Prop) : Prop :=
 pBox H0 67 w0 fun w1 H_1 =>
 ∃ (I_2 : Value → Heap → Prop) (m_3 : Value → Heap → Nat), I_2 (.int .i64 0) H_1 ∧
 ∀ _ : Env, ∀ n3 : Value, ∀ H_4 : Heap, I_2 n3 H_4 →
 pFieldAddr 2 w1 fun x5 =>
 pLoad H_4 x5 fun x6 =>
 pLen x6 fun x7 =>
 pLt n3 x7 fun x8 =>
 pAnd x8 (fun J_5 =>
 pFieldAddr 2 w1 fun x10 =>
 pLoad H_4 x10 fun x11 =>
 pIdxSl 1 x11 n3 fun x13 =>
 pLoad H_4 x13 fun x14 =>
 J_5 x14 H_4) H_4 fun x15 H_6 => ∀ _ : Env,
 pCond x15
 (pAdd n3 (.int .i64 1) fun x17 =>
 I_2 x17 H_6 ∧ m_3 x17 H_6 < m_3 n3 H_4)
 (R n3 H_6)
set_option maxRecDepth 100000 in
theorem lighterref24_Sent.vc (w0 : Value) (H0 : Heap) (R : Value → Heap → Prop) (h : lighterref24_Sent.res w0 H0 R) : CallsH Try.prog 40 #[w0] H0 R := by
  have e : vcFn Try.prog Try.C Try.f40 lighterref24_Sent.an [w0] H0 R = lighterref24_Sent.res w0 H0 R := by kernel_rfl
  exact vcFn_sound Try.callable Try.mixed Try.func40 (by kernel_rfl) (e.mpr h)

end Go.Proofs.Ytmolkhfohpfhaaa
