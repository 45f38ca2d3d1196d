/- The residuals of package lighterlaw23's functions, printed by resid.py. -/
import Derived.Test.YtbacjejffmeckaaVcSeat
namespace Go.Proofs.Ytbacjejffmeckaa
open Go Go.Vc Go.Proofs
set_option linter.unusedVariables false
set_option maxHeartbeats 4000000
def lighterlaw23_TimerBounds.an : Ann := (.seq (.reg (.op 0 [] .nil)) (.seq (.seq (.reg (.op 0 [] (.op 1 [] .nil))) (.cond (.seq (.reg (.op 0 [] .nil)) .leaf) .leaf)) (.seq (.reg (.op 0 [] (.op 1 [] (.op 2 [] (.op 3 [] .nil))))) (.seq (.reg (.op 0 [] (.op 1 [] .nil))) (.seq (.reg (.op 0 [] (.op 1 [] (.op 2 [] (.op 3 [] (.op 4 [] (.op 5 [] (.op 6 [] .nil)))))))) (.seq (.reg (.op 0 [] .nil)) (.seq (.seq (.reg (.op 0 [] .nil)) (.block (.loop [9, 10] [6, 9, 10, 24, 25, 26, 27, 28, 29, 30, 31, 32, 33, 34, 35, 36, 37, 38, 39, 40, 41, 42, 43, 44, 45, 46, 47, 48, 49, 50, 51, 52] (.seq (.seq (.reg (.op 0 [] (.op 1 [] (.op 2 [] (.op 3 [] .nil))))) (.cond .leaf .leaf)) (.seq (.block (.seq (.reg (.op 0 [] (.op 1 [] (.op 2 [] .nil)))) (.cut [9] [9, 32, 33] (.seq (.reg (.op 0 [] (.op 1 [] .nil))) (.cond (.reg (.op 0 [] .nil)) .leaf)) (.seq (.reg (.op 0 [] (.op 1 [] (.op 2 [] (.op 3 [] (.grp 3 (.op 4 [] (.op 5 [] (.op 6 [] (.op 7 [] .nil)))) 8 (.op 9 [] (.grp 9 (.op 10 [] (.op 11 [] (.op 12 [] .nil))) 13 (.op 14 [] (.grp 14 (.op 15 [] (.op 16 [] (.op 17 [] .nil))) 18 .nil)))))))))) (.cond (.seq (.reg (.op 0 [] .nil)) .leaf) .leaf))))) (.reg (.op 0 [] (.op 1 [] (.op 2 [] .nil))))))))) (.seq (.reg (.op 0 [] .nil)) .leaf))))))))
/-- lighter/lighterlaw23.TimerBounds -/
def lighterlaw23_TimerBounds.res (first0 : Value) (most1 : Value) (n2 : Value) (H0 : Heap) (R : Value → Heap → Prop) : Prop :=
 CallsH Try.prog 6 #[] H0 fun x11 H_1 =>
 pNot x11 fun x12 =>
 pCond x12
 (R (.bool false) H_1)
 (CallsH Try.prog 7 #[first0, most1] H_1 fun x15 H_2 =>
 CallsH Try.prog 8 #[x15] H_2 fun x17 H_3 =>
 pMax first0 (.int .i64 1) fun x20 =>
 pMin x20 (.int .i64 64) fun x21 =>
 pMax most1 x21 fun x22 =>
 pMin x22 (.int .i64 64) fun x23 =>
 ∃ (I_4 : Value → Value → Heap → Prop) (m_5 : Value → Value → Heap → Nat), I_4 (.int .i64 0) (.int .i64 0) H_3 ∧
 ∀ _ : Env, ∀ since9 : Value, ∀ i10 : Value, ∀ H_6 : Heap, I_4 since9 i10 H_6 →
 pBits .and n2 (.int .i64 1023) fun x26 =>
 pLt i10 x26 fun x27 =>
 pCond x27
 (pAdd since9 (.int .i64 1) fun x31 =>
 ∃ J_7 : Value → Heap → Prop, (∀ _ : Env, ∀ since9' : Value, ∀ H_8 : Heap, J_7 since9' H_8 →
 pGe since9' x23 fun x36 =>
 pOr x36 (fun J_9 =>
 CallsH Try.prog 10 #[x15] H_8 fun x39 H_11 =>
 pGt x39 x23 fun x41 =>
 J_9 x41 H_11) H_8 fun x42 H_10 => ∀ _ : Env,
 pOr x42 (fun J_12 =>
 CallsH Try.prog 10 #[x15] H_10 fun x45 H_14 =>
 pLt x45 (.int .i64 1) fun x46 =>
 J_12 x46 H_14) H_10 fun x47 H_13 => ∀ _ : Env,
 pOr x47 (fun J_15 =>
 CallsH Try.prog 11 #[x15] H_13 fun x50 H_17 =>
 pNot x50 fun x51 =>
 J_15 x51 H_17) H_13 fun x52 H_16 => ∀ _ : Env,
 pCond x52
 (R (.bool false) H_16)
 (pAdd i10 (.int .i64 1) fun x29 =>
 I_4 since9' x29 H_16 ∧ m_5 since9' x29 H_16 < m_5 since9 i10 H_6)) ∧
 CallsH Try.prog 9 #[x15] H_6 fun x33 H_18 =>
 pCond x33
 (J_7 (.int .i64 0) H_18)
 (J_7 x31 H_18))
 (R (.bool true) H_6))
set_option maxRecDepth 100000 in
theorem lighterlaw23_TimerBounds.vc (first0 : Value) (most1 : Value) (n2 : Value) (H0 : Heap) (R : Value → Heap → Prop) (h : lighterlaw23_TimerBounds.res first0 most1 n2 H0 R) : CallsH Try.prog 3 #[first0, most1, n2] H0 R := by
  have e : vcFn Try.prog Try.C Try.f3 lighterlaw23_TimerBounds.an [first0, most1, n2] H0 R = lighterlaw23_TimerBounds.res first0 most1 n2 H0 R := by kernel_rfl
  exact vcFn_sound Try.callable Try.mixed Try.func3 (by kernel_rfl) (e.mpr h)

def lighterlaw23_TimerPlays.an : Ann := (.seq (.reg (.op 0 [] .nil)) (.seq (.seq (.reg (.op 0 [] (.op 1 [] .nil))) (.cond (.seq (.reg (.op 0 [] .nil)) .leaf) .leaf)) (.seq (.reg (.op 0 [] (.op 1 [] (.op 2 [] (.op 3 [] (.op 4 [] (.op 5 [] (.op 6 [] (.op 7 [] (.op 8 [] .nil)))))))))) (.seq (.seq (.reg (.op 0 [] .nil)) (.block (.loop [9] [6, 9, 10, 11, 20, 21, 22, 23, 24, 25, 26, 27, 28, 29, 30, 31, 32, 33, 34, 35, 36, 37, 38, 39, 40, 41, 42, 43, 44, 45, 46, 47, 48, 49, 50, 51, 52, 53, 54, 55, 56, 57, 58, 59, 60, 61, 62, 63, 64, 65, 66, 67, 68, 69, 70, 71, 72, 73, 74, 75, 76, 77, 78] (.seq (.seq (.reg (.op 0 [] (.op 1 [] (.op 2 [] (.op 3 [] (.op 4 [] (.grp 4 (.op 5 [] (.op 6 [] .nil)) 7 .nil))))))) (.cond .leaf .leaf)) (.seq (.block (.cut [] [6, 10, 11, 30, 31, 32, 33, 34, 35, 36, 37, 38, 39, 40, 41, 42, 43, 44, 45, 46, 47, 48, 49, 50, 51, 52, 53, 54, 55, 56, 57, 58, 59, 60, 61, 62, 63, 64, 65] (.seq (.reg (.op 0 [] (.op 1 [] (.op 2 [] (.op 3 [] (.op 4 [] (.op 5 [] (.op 6 [] .nil)))))))) (.block (.seq (.reg (.op 0 [] (.op 1 [] .nil))) (.cond (.seq (.reg (.op 0 [] (.op 1 [] .nil))) (.reg (.op 0 [] (.op 1 [] (.op 2 [] (.op 3 [] .nil)))))) (.seq (.reg (.op 0 [] (.op 1 [] .nil))) (.cond (.seq (.reg (.op 0 [] (.op 1 [] .nil))) (.reg (.op 0 [] (.op 1 [] .nil)))) (.seq (.reg (.op 0 [] (.op 1 [] .nil))) (.cond (.seq (.reg (.op 0 [] (.op 1 [] .nil))) (.reg (.op 0 [] (.op 1 [] (.op 2 [] (.op 3 [] .nil)))))) (.seq (.reg (.op 0 [] (.op 1 [] (.op 2 [] (.op 3 [] (.op 4 [] (.op 5 [] (.op 6 [] (.op 7 [] .nil))))))))) (.seq (.seq (.reg (.op 0 [] (.op 1 [] (.op 2 [] (.op 3 [] .nil))))) (.cond (.seq (.reg (.op 0 [] .nil)) .leaf) .leaf)) (.reg (.op 0 [] (.op 1 [] .nil))))))))))))) (.seq (.drw [0, 1, 0, 4, 15, 31, 63, 127, 63, 319, 831, 2047, 4095] (.op 0 [] (.op 2 [] (.op 3 [] (.op 1 [3] (.op 4 [] (.op 5 [] (.grp 5 (.op 6 [] (.op 8 [] (.op 9 [] (.op 10 [] (.op 7 [9] (.op 11 [] .nil)))))) 12 .nil)))))))) (.cond (.seq (.reg (.op 0 [] .nil)) .leaf) .leaf)))) (.reg (.op 0 [] (.op 1 [] (.op 2 [] .nil))))))))) (.seq (.reg (.op 0 [] .nil)) .leaf)))))
/-- lighter/lighterlaw23.TimerPlays -/
def lighterlaw23_TimerPlays.res (first0 : Value) (most1 : Value) (l2 : Value) (H0 : Heap) (R : Value → Heap → Prop) : Prop :=
 CallsH Try.prog 6 #[] H0 fun x12 H_1 =>
 pNot x12 fun x13 =>
 pCond x13
 (R (.bool false) H_1)
 (CallsH Try.prog 7 #[first0, most1] H_1 fun x16 H_2 =>
 CallsH Try.prog 12 #[first0, most1] H_2 fun x19 H_3 =>
 pBox H_3 29 (.agg #[(.int .i64 0), (.int .i64 0), (.int .i64 0), (.int .i64 0)]) fun w8 H_4 =>
 pStoreN H_4 4 w8 x19 fun _ H_5 =>
 ∃ (I_6 : Value → Heap → Prop) (m_7 : Value → Heap → Nat), I_6 (.int .i64 0) H_5 ∧
 ∀ _ : Env, ∀ i9 : Value, ∀ H_8 : Heap, I_6 i9 H_8 →
 pLen l2 fun x22 =>
 pLt i9 x22 fun x23 =>
 pAnd x23 (fun J_9 =>
 pLt i9 (.int .i64 300) fun x26 =>
 J_9 x26 H_8) H_8 fun x27 H_10 => ∀ _ : Env,
 pCond x27
 (∃ J_11 : Heap → Prop, (∀ _ : Env, ∀ H_12 : Heap, J_11 H_12 →
 pFieldAddr 2 w8 fun x68 =>
 pLoad H_12 x68 fun x69 =>
 CallsH Try.prog 10 #[x16] H_12 fun x67 H_13 =>
 (pLoad H_13 x68 fun r_ =>
 r_ = x69) ∧
 pNe 0 x67 x69 fun x70 =>
 pOr x70 (fun J_14 =>
 pFieldAddr 3 w8 fun x74 =>
 pLoad H_13 x74 fun x75 =>
 pGt x75 (.int .i64 0) fun x76 =>
 CallsH Try.prog 11 #[x16] H_13 fun x73 H_16 =>
 (pLoad H_16 x74 fun r_ =>
 r_ = x75) ∧
 pNe 2 x73 x76 fun x77 =>
 J_14 x77 H_16) H_13 fun x78 H_15 => ∀ _ : Env,
 pCond x78
 (R (.bool false) H_15)
 (pAdd i9 (.int .i64 1) fun x29 =>
 I_6 x29 H_15 ∧ m_7 x29 H_15 < m_7 i9 H_8)) ∧
 pIdxSl 1 l2 i9 fun x32 =>
 pLoad H_10 x32 fun x33 =>
 pRem x33 (.int .i64 9) fun x34 =>
 pAdd x34 (.int .i64 9) fun x35 =>
 pRem x35 (.int .i64 9) fun x36 =>
 pEq 0 x36 (.int .i64 6) fun x48 =>
 pCond x48
 (CallsH Try.prog 8 #[x16] H_10 fun x50 H_17 =>
 pFieldAddr 2 w8 fun x51 =>
 pLoad H_17 x51 fun x52 =>
 pFieldAddr 3 w8 fun x53 =>
 pStore H_17 x53 x52 fun _ H_18 =>
 J_11 H_18)
 (pEq 0 x36 (.int .i64 7) fun x55 =>
 pCond x55
 (CallsH Try.prog 13 #[x16] H_10 fun x57 H_19 =>
 pFieldAddr 3 w8 fun x58 =>
 pStore H_19 x58 (.int .i64 0) fun _ H_20 =>
 J_11 H_20)
 (pEq 0 x36 (.int .i64 8) fun x60 =>
 pCond x60
 (CallsH Try.prog 14 #[x16] H_10 fun x62 H_21 =>
 pFieldAddr 0 w8 fun x63 =>
 pLoad H_21 x63 fun x64 =>
 pFieldAddr 2 w8 fun x65 =>
 pStore H_21 x65 x64 fun _ H_22 =>
 J_11 H_22)
 (pLoadN H_10 4 w8 fun x38 =>
 CallsH Try.prog 15 #[x38] H_10 fun x39 H_23 =>
 pExtract 0 x39 fun x40 =>
 pExtract 1 x39 fun x41 =>
 pBox H_23 29 (.agg #[(.int .i64 0), (.int .i64 0), (.int .i64 0), (.int .i64 0)]) fun n10 H_24 =>
 pStoreN H_24 4 n10 x40 fun _ H_25 =>
 CallsH Try.prog 9 #[x16] H_25 fun x43 H_26 =>
 pNe 2 x43 x41 fun x45 =>
 pCond x45
 (R (.bool false) H_26)
 (pLoadN H_26 4 n10 fun x46 =>
 pStoreN H_26 4 w8 x46 fun _ H_27 =>
 J_11 H_27)))))
 (R (.bool true) H_10))
set_option maxRecDepth 100000 in
theorem lighterlaw23_TimerPlays.vc (first0 : Value) (most1 : Value) (l2 : Value) (H0 : Heap) (R : Value → Heap → Prop) (h : lighterlaw23_TimerPlays.res first0 most1 l2 H0 R) : CallsH Try.prog 4 #[first0, most1, l2] H0 R := by
  have e : vcFn Try.prog Try.C Try.f4 lighterlaw23_TimerPlays.an [first0, most1, l2] H0 R = lighterlaw23_TimerPlays.res first0 most1 l2 H0 R := by kernel_rfl
  exact vcFn_sound Try.callable Try.mixed Try.func4 (by kernel_rfl) (e.mpr h)

def lighterlaw23_TimerNone.an : Ann := (.seq (.reg (.op 0 [] .nil)) (.seq (.seq (.reg (.op 0 [] (.op 1 [] .nil))) (.cond (.seq (.reg (.op 0 [] .nil)) .leaf) .leaf)) (.seq (.reg (.op 0 [] .nil)) (.seq (.reg (.op 0 [] (.op 1 [] .nil))) (.seq (.reg (.op 0 [] (.op 1 [] .nil))) (.seq (.reg (.op 0 [] (.op 1 [] .nil))) (.seq (.reg (.op 0 [] (.op 1 [] (.op 2 [] (.op 3 [] .nil))))) (.seq (.reg (.op 0 [] (.op 1 [] (.op 2 [] (.op 3 [] (.grp 3 (.op 4 [] (.op 5 [] (.op 6 [] .nil))) 7 (.op 8 [] (.grp 8 (.op 9 [] (.op 10 [] (.op 11 [] .nil))) 12 (.op 13 [] (.grp 13 (.op 14 [] (.op 15 [] (.op 16 [] .nil))) 17 (.op 18 [] (.grp 18 (.op 19 [] (.op 20 [] (.op 21 [] .nil))) 22 (.op 23 [] (.grp 23 (.op 24 [] (.op 25 [] (.op 26 [] .nil))) 27 (.op 28 [] (.grp 28 (.op 29 [] (.op 30 [] (.op 31 [] (.op 32 [] (.op 33 [] (.op 34 [] .nil)))))) 35 (.op 36 [] .nil))))))))))))))))) .leaf))))))))
/-- lighter/lighterlaw23.TimerNone -/
def lighterlaw23_TimerNone.res (first0 : Value) (most1 : Value) (H0 : Heap) (R : Value → Heap → Prop) : Prop :=
 CallsH Try.prog 6 #[] H0 fun x7 H_1 =>
 pNot x7 fun x8 =>
 pCond x8
 (R (.bool false) H_1)
 (CallsH Try.prog 8 #[(.pointer none)] H_1 fun x10 H_2 =>
 CallsH Try.prog 13 #[(.pointer none)] H_2 fun x12 H_3 =>
 CallsH Try.prog 14 #[(.pointer none)] H_3 fun x14 H_4 =>
 CallsH Try.prog 7 #[first0, most1] H_4 fun x17 H_5 =>
 CallsH Try.prog 9 #[(.pointer none)] H_5 fun x19 H_6 =>
 pNot x19 fun x20 =>
 pAnd x20 (fun J_7 =>
 CallsH Try.prog 10 #[(.pointer none)] H_6 fun x23 H_9 =>
 pEq 0 x23 (.int .i64 0) fun x24 =>
 J_7 x24 H_9) H_6 fun x25 H_8 => ∀ _ : Env,
 pAnd x25 (fun J_10 =>
 CallsH Try.prog 11 #[(.pointer none)] H_8 fun x28 H_12 =>
 pNot x28 fun x29 =>
 J_10 x29 H_12) H_8 fun x30 H_11 => ∀ _ : Env,
 pAnd x30 (fun J_13 =>
 CallsH Try.prog 11 #[x17] H_11 fun x33 H_15 =>
 pNot x33 fun x34 =>
 J_13 x34 H_15) H_11 fun x35 H_14 => ∀ _ : Env,
 pAnd x35 (fun J_16 =>
 CallsH Try.prog 9 #[x17] H_14 fun x38 H_18 =>
 pNot x38 fun x39 =>
 J_16 x39 H_18) H_14 fun x40 H_17 => ∀ _ : Env,
 pAnd x40 (fun J_19 =>
 CallsH Try.prog 9 #[x17] H_17 fun x43 H_21 =>
 pNot x43 fun x44 =>
 J_19 x44 H_21) H_17 fun x45 H_20 => ∀ _ : Env,
 pAnd x45 (fun J_22 =>
 CallsH Try.prog 10 #[x17] H_20 fun x48 H_24 =>
 pMax first0 (.int .i64 1) fun x50 =>
 pMin x50 (.int .i64 64) fun x51 =>
 pEq 0 x48 x51 fun x52 =>
 J_22 x52 H_24) H_20 fun x53 H_23 => ∀ _ : Env,
 R x53 H_23)
set_option maxRecDepth 100000 in
theorem lighterlaw23_TimerNone.vc (first0 : Value) (most1 : Value) (H0 : Heap) (R : Value → Heap → Prop) (h : lighterlaw23_TimerNone.res first0 most1 H0 R) : CallsH Try.prog 5 #[first0, most1] H0 R := by
  have e : vcFn Try.prog Try.C Try.f5 lighterlaw23_TimerNone.an [first0, most1] H0 R = lighterlaw23_TimerNone.res first0 most1 H0 R := by kernel_rfl
  exact vcFn_sound Try.callable Try.mixed Try.func5 (by kernel_rfl) (e.mpr h)

def lighterlaw23_speaks.an : Ann := (.seq (.reg (.op 0 [] .nil)) (.seq (.reg (.op 0 [] (.op 1 [] .nil))) (.seq (.reg (.op 0 [] (.op 1 [] .nil))) (.seq (.reg (.op 0 [] (.op 1 [] (.op 2 [] (.grp 2 (.op 3 [] (.op 4 [] (.op 5 [] .nil))) 6 (.op 7 [] (.grp 7 (.op 8 [] (.op 9 [] .nil)) 10 (.op 11 [] (.grp 11 (.op 12 [] (.op 13 [] (.op 14 [] .nil))) 15 (.op 16 [] (.grp 16 (.op 17 [] (.op 18 [] .nil)) 19 (.op 20 [] .nil)))))))))))) .leaf))))
/-- lighter/lighterlaw23.speaks -/
def lighterlaw23_speaks.res (H0 : Heap) (R : Value → Heap → Prop) : Prop :=
 CallsH Try.prog 7 #[(.int .i64 1), (.int .i64 4)] H0 fun x2 H_1 =>
 CallsH Try.prog 8 #[x2] H_1 fun x4 H_2 =>
 CallsH Try.prog 9 #[x2] H_2 fun x6 H_3 =>
 pAnd x6 (fun J_4 =>
 CallsH Try.prog 9 #[x2] H_3 fun x9 H_6 =>
 pNot x9 fun x10 =>
 J_4 x10 H_6) H_3 fun x11 H_5 => ∀ _ : Env,
 pAnd x11 (fun J_7 =>
 CallsH Try.prog 9 #[x2] H_5 fun x14 H_9 =>
 J_7 x14 H_9) H_5 fun x15 H_8 => ∀ _ : Env,
 pAnd x15 (fun J_10 =>
 CallsH Try.prog 10 #[x2] H_8 fun x18 H_12 =>
 pEq 0 x18 (.int .i64 4) fun x19 =>
 J_10 x19 H_12) H_8 fun x20 H_11 => ∀ _ : Env,
 pAnd x20 (fun J_13 =>
 CallsH Try.prog 11 #[x2] H_11 fun x23 H_15 =>
 J_13 x23 H_15) H_11 fun x24 H_14 => ∀ _ : Env,
 R x24 H_14
set_option maxRecDepth 100000 in
theorem lighterlaw23_speaks.vc (H0 : Heap) (R : Value → Heap → Prop) (h : lighterlaw23_speaks.res H0 R) : CallsH Try.prog 6 #[] H0 R := by
  have e : vcFn Try.prog Try.C Try.f6 lighterlaw23_speaks.an [] H0 R = lighterlaw23_speaks.res H0 R := by kernel_rfl
  exact vcFn_sound Try.callable Try.mixed Try.func6 (by kernel_rfl) (e.mpr h)

end Go.Proofs.Ytbacjejffmeckaa
