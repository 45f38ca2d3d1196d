/- The residuals of package send's functions, printed by resid.py. -/
import Derived.Test.YtmolkhfohpfhaaaVcSeat
namespace Go.Proofs.Ytmolkhfohpfhaaa
open Go Go.Vc Go.Proofs
set_option linter.unusedVariables false
set_option maxHeartbeats 4000000
def send_New.an : Ann := (.seq (.reg (.op 0 [] (.op 1 [] .nil))) (.seq (.seq (.reg (.op 0 [] (.op 1 [] (.op 2 [] (.grp 2 (.op 3 [] (.op 4 [] .nil)) 5 (.op 6 [] (.grp 6 (.op 7 [] (.op 8 [] .nil)) 9 (.op 10 [] (.grp 10 (.op 11 [] (.op 12 [] .nil)) 13 .nil))))))))) (.cond (.seq (.reg (.op 0 [] (.op 1 [] .nil))) .leaf) .leaf)) (.seq (.reg (.op 0 [] (.op 1 [] (.op 2 [] (.op 3 [] (.op 4 [] (.op 5 [] (.op 6 [] (.op 7 [] .nil))))))))) .leaf)))
/-- lighter/send.New -/
def send_New.res (first0 : Value) (count1 : Value) (size2 : Value) (H0 : Heap) (R : Value → Heap → Prop) : Prop :=
 pLt count1 (.int .i64 0) fun x9 =>
 pOr x9 (fun J_1 =>
 pGt count1 (.int .i64 1048576) fun x12 =>
 J_1 x12 H0) H0 fun x13 H_2 => ∀ _ : Env,
 pOr x13 (fun J_3 =>
 pLt size2 (.int .i64 1) fun x16 =>
 J_3 x16 H_2) H_2 fun x17 H_4 => ∀ _ : Env,
 pOr x17 (fun J_5 =>
 pGt size2 (.int .i64 32) fun x20 =>
 J_5 x20 H_4) H_4 fun x21 H_6 => ∀ _ : Env,
 pCond x21
 (R (.tuple #[(.pointer none), (.int .i64 1)]) H_6)
 (pMakeMap H_6 fun x25 H_7 =>
 pBuild [(.int .u32 0), (.int .i64 0), (.int .i64 0), (.int .i64 0), (.int .i64 0), (.map none)] [(0, 1, first0), (1, 1, count1), (2, 1, size2), (5, 1, x25)] fun x26 =>
 pBox H_7 85 x26 fun x27 H_8 =>
 R (.tuple #[x27, (.int .i64 0)]) H_8)
set_option maxRecDepth 100000 in
theorem send_New.vc (first0 : Value) (count1 : Value) (size2 : Value) (H0 : Heap) (R : Value → Heap → Prop) (h : send_New.res first0 count1 size2 H0 R) : CallsH Try.prog 23 #[first0, count1, size2] H0 R := by
  have e : vcFn Try.prog Try.C Try.f23 send_New.an [first0, count1, size2] H0 R = send_New.res first0 count1 size2 H0 R := by kernel_rfl
  exact vcFn_sound Try.callable Try.mixed Try.func23 (by kernel_rfl) (e.mpr h)

def send_Window_Done.an : Ann := (.seq (.reg (.op 0 [] .nil)) (.seq (.drw [0, 1, 3, 7, 15, 31, 63, 7, 135, 391, 903, 2047, 4095, 8191] (.op 0 [] (.op 1 [] (.op 2 [] (.grp 2 (.op 3 [] (.op 4 [] (.op 5 [] (.op 6 [] (.op 7 [] (.op 8 [] (.op 9 [] (.op 10 [] (.op 11 [] .nil))))))))) 12 (.op 13 [] .nil)))))) .leaf))
/-- (*lighter/send.Window).Done -/
def send_Window_Done.res (w0 : Value) (H0 : Heap) (R : Value → Heap → Prop) : Prop :=
 pNe 3 w0 (.pointer none) fun x4 =>
 pAnd x4 (fun J_1 =>
 pNil w0 fun x7 =>
 pFieldAddr 3 x7 fun x8 =>
 pLoad H0 x8 fun x9 =>
 pNil w0 fun x11 =>
 pFieldAddr 1 x11 fun x12 =>
 pLoad H0 x12 fun x13 =>
 pEq 0 x9 x13 fun x14 =>
 J_1 x14 H0) H0 fun x15 H_2 => ∀ _ : Env,
 R x15 H_2
set_option maxRecDepth 100000 in
theorem send_Window_Done.vc (w0 : Value) (H0 : Heap) (R : Value → Heap → Prop) (h : send_Window_Done.res w0 H0 R) : CallsH Try.prog 24 #[w0] H0 R := by
  have e : vcFn Try.prog Try.C Try.f24 send_Window_Done.an [w0] H0 R = send_Window_Done.res w0 H0 R := by kernel_rfl
  exact vcFn_sound Try.callable Try.mixed Try.func24 (by kernel_rfl) (e.mpr h)

def send_Window_Fresh.an : Ann := (.seq (.reg (.op 0 [] .nil)) (.seq (.seq (.reg (.op 0 [] (.op 1 [] .nil))) (.cond (.seq (.reg (.op 0 [] .nil)) .leaf) .leaf)) (.seq (.reg (.op 0 [] .nil)) (.seq (.block (.loop [3] [3, 6, 7, 8, 9, 10, 11, 12, 13, 14, 15, 16, 17, 18, 19, 20, 21, 22, 23, 24, 25, 26, 27, 28, 29, 30, 31, 32, 33, 34, 35, 36, 37, 38, 39, 40] (.seq (.seq (.drw [0, 1, 3, 7, 0, 16, 48, 112, 0, 256, 768, 1792, 4080, 0, 8192, 24576, 57344, 131056, 262143] (.op 0 [] (.op 1 [] (.op 2 [] (.op 3 [] (.op 4 [] (.op 5 [] (.op 6 [] (.op 7 [] (.op 8 [] (.op 9 [] (.op 10 [] (.op 11 [] (.op 12 [] (.op 13 [] (.op 14 [] (.op 15 [] (.op 16 [] (.op 17 [] (.op 18 [] .nil)))))))))))))))))))) (.cond .leaf .leaf)) (.seq (.block (.reg (.op 0 [] (.op 1 [] (.op 2 [] (.op 3 [] (.op 4 [] (.op 5 [] (.op 6 [] (.op 7 [] (.op 8 [] (.op 9 [] .nil)))))))))))) (.reg (.op 0 [] (.op 1 [] (.op 2 [] (.op 3 [] (.op 4 [] (.op 5 [] (.op 6 [] (.op 7 [] .nil))))))))))))) (.seq (.reg (.op 0 [] (.op 1 [] .nil))) .leaf)))))
/-- (*lighter/send.Window).Fresh -/
def send_Window_Fresh.res (w0 : Value) (H0 : Heap) (R : Value → Heap → Prop) : Prop :=
 pEq 3 w0 (.pointer none) fun x5 =>
 pCond x5
 (R (.slice none 0 0) H0)
 (∃ (I_1 : Value → Heap → Prop) (m_2 : Value → Heap → Nat), I_1 (.slice none 0 0) H0 ∧
 ∀ _ : Env, ∀ out3 : Value, ∀ H_3 : Heap, I_1 out3 H_3 →
 pNil w0 fun x7 =>
 pFieldAddr 4 x7 fun x8 =>
 pLoad H_3 x8 fun x9 =>
 pNil w0 fun x11 =>
 pFieldAddr 3 x11 fun x12 =>
 pLoad H_3 x12 fun x13 =>
 pNil w0 fun x15 =>
 pFieldAddr 2 x15 fun x16 =>
 pLoad H_3 x16 fun x17 =>
 pAdd x13 x17 fun x18 =>
 pNil w0 fun x20 =>
 pFieldAddr 1 x20 fun x21 =>
 pLoad H_3 x21 fun x22 =>
 pMin x18 x22 fun x23 =>
 pLt x9 x23 fun x24 =>
 pCond x24
 (pNil w0 fun x35 =>
 pFieldAddr 4 x35 fun x36 =>
 pLoad H_3 x36 fun x37 =>
 CallsH Try.prog 36 #[w0, x37] H_3 fun x38 H_4 =>
 pBuildSl H_4 22 1 [(.int .u32 0)] [(0, 1, x38)] fun x39 H_5 =>
 pAppend H_5 22 1 4 [(.int .u32 0)] out3 x39 fun x40 H_6 =>
 pNil w0 fun x26 =>
 pFieldAddr 4 x26 fun x27 =>
 pLoad H_6 x27 fun x28 =>
 pAdd x28 (.int .i64 1) fun x29 =>
 pNil w0 fun x30 =>
 pFieldAddr 4 x30 fun x31 =>
 pStore H_6 x31 x29 fun _ H_7 =>
 I_1 x40 H_7 ∧ m_2 x40 H_7 < m_2 out3 H_3)
 (R out3 H_3))
set_option maxRecDepth 100000 in
theorem send_Window_Fresh.vc (w0 : Value) (H0 : Heap) (R : Value → Heap → Prop) (h : send_Window_Fresh.res w0 H0 R) : CallsH Try.prog 25 #[w0] H0 R := by
  have e : vcFn Try.prog Try.C Try.f25 send_Window_Fresh.an [w0] H0 R = send_Window_Fresh.res w0 H0 R := by kernel_rfl
  exact vcFn_sound Try.callable Try.mixed Try.func25 (by kernel_rfl) (e.mpr h)

def send_Window_Open.an : Ann := (.seq (.reg (.op 0 [] .nil)) (.seq (.seq (.reg (.op 0 [] (.op 1 [] .nil))) (.cond (.seq (.reg (.op 0 [] .nil)) .leaf) .leaf)) (.seq (.reg (.op 0 [] .nil)) (.seq (.seq (.reg (.op 0 [] (.op 1 [] (.op 2 [] (.op 3 [] (.op 4 [] .nil)))))) (.block (.loop [3, 4] [3, 4, 11, 12, 13, 14, 15, 16, 17, 18, 19, 20, 21, 22, 23, 24, 25, 26, 27, 28, 29, 30, 31] (.seq (.seq (.reg (.op 0 [] (.op 1 [] (.op 2 [] (.op 3 [] (.op 4 [] (.op 5 [] .nil))))))) (.cond .leaf .leaf)) (.cut [3] [3, 19, 20, 21, 22, 23, 24, 25, 26, 27, 28, 29, 30, 31] (.block (.seq (.reg (.op 0 [] (.op 1 [] (.op 2 [] (.op 3 [] (.op 4 [] (.op 5 [] (.op 6 [] .nil)))))))) (.cond (.reg (.op 0 [] (.op 1 [] (.op 2 [] (.op 3 [] (.op 4 [] (.op 5 [] (.op 6 [] .nil)))))))) .leaf))) (.reg (.op 0 [] (.op 1 [] (.op 2 [] .nil))))))))) (.seq (.reg (.op 0 [] (.op 1 [] .nil))) .leaf)))))
/-- (*lighter/send.Window).Open -/
def send_Window_Open.res (w0 : Value) (H0 : Heap) (R : Value → Heap → Prop) : Prop :=
 pEq 3 w0 (.pointer none) fun x6 =>
 pCond x6
 (R (.slice none 0 0) H0)
 (pNil w0 fun x8 =>
 pFieldAddr 3 x8 fun x9 =>
 pLoad H0 x9 fun x10 =>
 ∃ (I_1 : Value → Value → Heap → Prop) (m_2 : Value → Value → Heap → Nat), I_1 (.slice none 0 0) x10 H0 ∧
 ∀ _ : Env, ∀ out3 : Value, ∀ i4 : Value, ∀ H_3 : Heap, I_1 out3 i4 H_3 →
 pNil w0 fun x13 =>
 pFieldAddr 4 x13 fun x14 =>
 pLoad H_3 x14 fun x15 =>
 pLt i4 x15 fun x16 =>
 pCond x16
 (∃ J_4 : Value → Heap → Prop, (∀ _ : Env, ∀ out3' : Value, ∀ H_5 : Heap, J_4 out3' H_5 →
 pAdd i4 (.int .i64 1) fun x18 =>
 I_1 out3' x18 H_5 ∧ m_2 out3' x18 H_5 < m_2 out3 i4 H_3) ∧
 pNil w0 fun x20 =>
 pFieldAddr 5 x20 fun x21 =>
 pLoad H_3 x21 fun x22 =>
 pLookup H_3 0 (.bool false) false x22 i4 fun x24 =>
 pNot x24 fun x25 =>
 pCond x25
 (CallsH Try.prog 36 #[w0, i4] H_3 fun x29 H_6 =>
 pBuildSl H_6 22 1 [(.int .u32 0)] [(0, 1, x29)] fun x30 H_7 =>
 pAppend H_7 22 1 4 [(.int .u32 0)] out3 x30 fun x31 H_8 =>
 J_4 x31 H_8)
 (J_4 out3 H_3))
 (R out3 H_3))
set_option maxRecDepth 100000 in
theorem send_Window_Open.vc (w0 : Value) (H0 : Heap) (R : Value → Heap → Prop) (h : send_Window_Open.res w0 H0 R) : CallsH Try.prog 26 #[w0] H0 R := by
  have e : vcFn Try.prog Try.C Try.f26 send_Window_Open.an [w0] H0 R = send_Window_Open.res w0 H0 R := by kernel_rfl
  exact vcFn_sound Try.callable Try.mixed Try.func26 (by kernel_rfl) (e.mpr h)

def send_Window_Base.an : Ann := (.seq (.reg (.op 0 [] .nil)) (.seq (.seq (.reg (.op 0 [] (.op 1 [] .nil))) (.cond (.seq (.reg (.op 0 [] .nil)) .leaf) .leaf)) (.seq (.reg (.op 0 [] (.op 1 [] (.op 2 [] (.op 3 [] (.op 4 [] (.op 5 [] (.op 6 [] .nil)))))))) .leaf)))
/-- (*lighter/send.Window).Base -/
def send_Window_Base.res (w0 : Value) (H0 : Heap) (R : Value → Heap → Prop) : Prop :=
 pEq 3 w0 (.pointer none) fun x4 =>
 pCond x4
 (R (.int .u32 0) H0)
 (pNil w0 fun x7 =>
 pFieldAddr 3 x7 fun x8 =>
 pLoad H0 x8 fun x9 =>
 CallsH Try.prog 36 #[w0, x9] H0 fun x10 H_1 =>
 R x10 H_1)
set_option maxRecDepth 100000 in
theorem send_Window_Base.vc (w0 : Value) (H0 : Heap) (R : Value → Heap → Prop) (h : send_Window_Base.res w0 H0 R) : CallsH Try.prog 27 #[w0] H0 R := by
  have e : vcFn Try.prog Try.C Try.f27 send_Window_Base.an [w0] H0 R = send_Window_Base.res w0 H0 R := by kernel_rfl
  exact vcFn_sound Try.callable Try.mixed Try.func27 (by kernel_rfl) (e.mpr h)

def send_Window_Ack.an : Ann := (.seq (.reg (.op 0 [] .nil)) (.seq (.seq (.drw [0, 1, 3, 7, 7, 7, 39, 103, 231, 503, 7, 1031, 3079, 7175, 7, 16391, 49159, 114695, 261127, 523271, 1048575, 2097151, 4194303] (.op 0 [] (.op 1 [] (.op 2 [] (.grp 2 (.op 3 [] (.op 4 [] (.op 5 [] (.op 6 [] (.op 7 [] (.op 8 [] (.op 10 [] (.op 11 [] (.op 12 [] (.op 13 [] (.op 14 [] (.op 15 [] (.op 16 [] (.op 17 [] (.op 18 [] (.op 19 [] (.op 9 [13, 17] (.op 20 [] (.op 21 [] .nil))))))))))))))))))) 22 .nil))))) (.cond (.seq (.reg (.op 0 [] .nil)) .leaf) .leaf)) (.seq (.reg (.op 0 [] .nil)) (.seq (.drw [0, 1, 3, 7, 0, 0, 32, 96, 224, 496, 0, 2032, 4095, 8191] (.op 0 [] (.op 1 [] (.op 2 [] (.op 3 [] (.op 4 [] (.op 5 [] (.op 6 [] (.op 7 [] (.op 8 [] (.op 10 [] (.op 9 [3] (.op 11 [3] (.op 12 [] (.op 13 [] .nil))))))))))))))) (.seq (.seq (.reg (.op 0 [] (.op 1 [] (.op 2 [] (.op 3 [] (.op 4 [] .nil)))))) (.block (.loop [7, 9] [7, 9, 51, 52, 53, 54, 55, 56, 57, 58, 59, 60, 61] (.seq (.seq (.reg (.op 0 [] (.op 1 [] (.op 2 [] .nil)))) (.cond .leaf .leaf)) (.seq (.block (.reg (.op 0 [] (.op 1 [] (.op 2 [] (.op 3 [] (.grp 3 (.op 4 [] .nil) 5 (.op 6 [] .nil)))))))) (.reg (.op 0 [] (.op 1 [] (.op 2 [] .nil))))))))) (.seq (.seq (.reg (.op 0 [] .nil)) (.block (.loop [7, 62] [7, 10, 62, 63, 64, 65, 66, 67, 68, 69, 70, 71, 72, 73, 74, 75, 76, 77, 78, 79] (.seq (.reg (.op 0 [] .nil)) (.seq (.cond .leaf .leaf) (.seq (.block (.seq (.reg (.op 0 [] (.op 1 [] .nil))) (.seq (.reg (.op 0 [] (.op 1 [] (.op 2 [] (.op 3 [] (.op 4 [] .nil)))))) (.cond (.reg (.op 0 [] (.op 1 [] (.op 2 [] (.op 3 [] (.op 4 [] (.op 5 [] (.op 6 [] (.grp 6 (.op 7 [] .nil) 8 (.op 9 [] .nil)))))))))) .leaf)))) (.reg (.op 0 [] (.op 1 [] .nil))))))))) (.seq (.block (.loop [] [80, 81, 82, 83, 84, 85, 86, 87, 88, 89, 90, 91, 92, 93, 94, 95, 96, 97, 98, 99, 100] (.seq (.seq (.reg (.op 0 [] (.op 1 [] (.op 2 [] (.op 3 [] (.op 4 [] (.op 5 [] .nil))))))) (.cond .leaf .leaf)) (.seq (.block (.drw [0, 1, 3, 7, 0, 16, 48, 112, 255] (.op 0 [] (.op 1 [] (.op 2 [] (.op 3 [] (.op 4 [] (.op 5 [] (.op 6 [] (.op 7 [] (.op 8 [] .nil))))))))))) (.reg (.op 0 [] (.op 1 [] (.op 2 [] (.op 3 [] (.op 4 [] (.op 5 [] (.op 6 [] (.op 7 [] .nil))))))))))))) (.seq (.reg (.op 0 [] (.op 1 [] (.op 2 [] (.op 3 [] (.op 4 [] (.op 5 [] .nil))))))) (.seq (.reg (.op 0 [] (.op 1 [] .nil))) .leaf)))))))))
/-- (*lighter/send.Window).Ack -/
def send_Window_Ack.res (w0 : Value) (upto1 : Value) (bits2 : Value) (H0 : Heap) (R : Value → Heap → Prop) : Prop :=
 pEq 3 w0 (.pointer none) fun x12 =>
 pOr x12 (fun J_1 =>
 pNil w0 fun x17 =>
 pFieldAddr 3 x17 fun x18 =>
 pLoad H0 x18 fun x19 =>
 pNil w0 fun x22 =>
 pFieldAddr 4 x22 fun x23 =>
 pLoad H0 x23 fun x24 =>
 pNil w0 fun x26 =>
 pFieldAddr 3 x26 fun x27 =>
 pLoad H0 x27 fun x28 =>
 pSub x24 x28 fun x29 =>
 pAdd x29 (.int .i64 1) fun x30 =>
 CallsH Try.prog 36 #[w0, x19] H0 fun x20 H_3 =>
 (pLoad H_3 x23 fun r_ =>
 r_ = x24) ∧
 (pLoad H_3 x27 fun r_ =>
 r_ = x28) ∧
 CallsH Try.prog 35 #[upto1, x20, x30] H_3 fun x31 H_4 =>
 pNot x31 fun x32 =>
 J_1 x32 H_4) H0 fun x33 H_2 => ∀ _ : Env,
 pCond x33
 (R (.bool false) H_2)
 (pNil w0 fun x35 =>
 pFieldAddr 3 x35 fun x36 =>
 pLoad H_2 x36 fun x37 =>
 pNil w0 fun x40 =>
 pFieldAddr 3 x40 fun x41 =>
 pLoad H_2 x41 fun x42 =>
 CallsH Try.prog 36 #[w0, x42] H_2 fun x43 H_5 =>
 (pLoad H_5 x36 fun r_ =>
 r_ = x37) ∧
 CallsH Try.prog 37 #[x43, upto1] H_5 fun x45 H_6 =>
 (pLoad H_6 x36 fun r_ =>
 r_ = x37) ∧
 pAdd x37 x45 fun x46 =>
 pNil w0 fun x48 =>
 pFieldAddr 3 x48 fun x49 =>
 pLoad H_6 x49 fun x50 =>
 ∃ (I_7 : Value → Value → Heap → Prop) (m_8 : Value → Value → Heap → Nat), I_7 (.bool false) x50 H_6 ∧
 ∀ _ : Env, ∀ news7 : Value, ∀ i9 : Value, ∀ H_9 : Heap, I_7 news7 i9 H_9 →
 pLt i9 x46 fun x53 =>
 pCond x53
 (CallsH Try.prog 38 #[w0, i9] H_9 fun x58 H_10 =>
 pOr x58 (fun J_11 =>
 J_11 news7 H_10) H_10 fun x61 H_12 => ∀ _ : Env,
 pAdd i9 (.int .i64 1) fun x55 =>
 I_7 x61 x55 H_12 ∧ m_8 x61 x55 H_12 < m_8 news7 i9 H_9)
 (∃ (I_13 : Value → Value → Heap → Prop) (m_14 : Value → Value → Heap → Nat), I_13 news7 (.int .i64 0) H_9 ∧
 ∀ _ : Env, ∀ news7' : Value, ∀ x62 : Value, ∀ H_15 : Heap, I_13 news7' x62 H_15 →
 pLt x62 (.int .i64 32) fun x63 =>
 pCond x63
 (pShr bits2 x62 fun x67 =>
 pBits .and x67 (.int .u32 1) fun x68 =>
 pEq 0 x68 (.int .u32 1) fun x69 =>
 pCond x69
 (pAdd x46 (.int .i64 1) fun x72 =>
 pAdd x72 x62 fun x74 =>
 CallsH Try.prog 38 #[w0, x74] H_15 fun x75 H_16 =>
 pOr x75 (fun J_17 =>
 J_17 news7' H_16) H_16 fun x78 H_18 => ∀ _ : Env,
 pAdd x62 (.int .i64 1) fun x79 =>
 I_13 x78 x79 H_18 ∧ m_14 x78 x79 H_18 < m_14 news7' x62 H_15)
 (pAdd x62 (.int .i64 1) fun x79 =>
 I_13 news7' x79 H_15 ∧ m_14 news7' x79 H_15 < m_14 news7' x62 H_15))
 (∃ (I_19 : Heap → Prop) (m_20 : Heap → Nat), I_19 H_15 ∧
 ∀ _ : Env, ∀ H_21 : Heap, I_19 H_21 →
 pNil w0 fun x81 =>
 pFieldAddr 3 x81 fun x82 =>
 pLoad H_21 x82 fun x83 =>
 pLt x83 x46 fun x85 =>
 pCond x85
 (pNil w0 fun x94 =>
 pFieldAddr 5 x94 fun x95 =>
 pLoad H_21 x95 fun x96 =>
 pNil w0 fun x98 =>
 pFieldAddr 3 x98 fun x99 =>
 pLoad H_21 x99 fun x100 =>
 pDelete H_21 0 x96 x100 fun _ H_22 =>
 pNil w0 fun x87 =>
 pFieldAddr 3 x87 fun x88 =>
 pLoad H_22 x88 fun x89 =>
 pAdd x89 (.int .i64 1) fun x90 =>
 pNil w0 fun x91 =>
 pFieldAddr 3 x91 fun x92 =>
 pStore H_22 x92 x90 fun _ H_23 =>
 I_19 H_23 ∧ m_20 H_23 < m_20 H_21)
 (pNil w0 fun x102 =>
 pFieldAddr 5 x102 fun x103 =>
 pLoad H_21 x103 fun x104 =>
 pDelete H_21 0 x104 x46 fun _ H_24 =>
 R news7' H_24))))
set_option maxRecDepth 100000 in
theorem send_Window_Ack.vc (w0 : Value) (upto1 : Value) (bits2 : Value) (H0 : Heap) (R : Value → Heap → Prop) (h : send_Window_Ack.res w0 upto1 bits2 H0 R) : CallsH Try.prog 28 #[w0, upto1, bits2] H0 R := by
  have e : vcFn Try.prog Try.C Try.f28 send_Window_Ack.an [w0, upto1, bits2] H0 R = send_Window_Ack.res w0 upto1 bits2 H0 R := by kernel_rfl
  exact vcFn_sound Try.callable Try.mixed Try.func28 (by kernel_rfl) (e.mpr h)

def send_Window_Forget.an : Ann := (.seq (.reg (.op 0 [] (.op 1 [] .nil))) (.cond (.reg (.op 0 [] (.op 1 [] (.op 2 [] (.op 3 [] (.op 4 [] .nil)))))) .leaf))
/-- (*lighter/send.Window).Forget -/
def send_Window_Forget.res (w0 : Value) (H0 : Heap) (R : Value → Heap → Prop) : Prop :=
 pNe 3 w0 (.pointer none) fun x3 =>
 pCond x3
 (pNil w0 fun x5 =>
 pFieldAddr 5 x5 fun x6 =>
 pLoad H0 x6 fun x7 =>
 pClearM H0 x7 fun _ H_1 =>
 R (.tuple #[]) H_1)
 (R (.tuple #[]) H0)
set_option maxRecDepth 100000 in
theorem send_Window_Forget.vc (w0 : Value) (H0 : Heap) (R : Value → Heap → Prop) (h : send_Window_Forget.res w0 H0 R) : CallsH Try.prog 32 #[w0] H0 R := by
  have e : vcFn Try.prog Try.C Try.f32 send_Window_Forget.an [w0] H0 R = send_Window_Forget.res w0 H0 R := by kernel_rfl
  exact vcFn_sound Try.callable Try.mixed Try.func32 (by kernel_rfl) (e.mpr h)

def send_Window_number.an : Ann := (.seq (.reg (.op 0 [] .nil)) (.seq (.reg (.op 0 [] (.op 1 [] (.op 2 [] (.op 3 [] (.op 4 [] (.op 5 [] (.op 6 [] (.op 7 [] .nil))))))))) .leaf))
/-- (*lighter/send.Window).number -/
def send_Window_number.res (w0 : Value) (i1 : Value) (H0 : Heap) (R : Value → Heap → Prop) : Prop :=
 pNil w0 fun x6 =>
 pFieldAddr 0 x6 fun x7 =>
 pLoad H0 x7 fun x8 =>
 pConv .u32 i1 fun x10 =>
 pAdd x8 x10 fun x11 =>
 R x11 H0
set_option maxRecDepth 100000 in
theorem send_Window_number.vc (w0 : Value) (i1 : Value) (H0 : Heap) (R : Value → Heap → Prop) (h : send_Window_number.res w0 i1 H0 R) : CallsH Try.prog 36 #[w0, i1] H0 R := by
  have e : vcFn Try.prog Try.C Try.f36 send_Window_number.an [w0, i1] H0 R = send_Window_number.res w0 i1 H0 R := by kernel_rfl
  exact vcFn_sound Try.callable Try.mixed Try.func36 (by kernel_rfl) (e.mpr h)

def send_Window_mark.an : Ann := (.seq (.reg (.op 0 [] .nil)) (.seq (.seq (.reg (.op 0 [] (.op 1 [] (.op 2 [] (.op 3 [] (.op 4 [] (.op 5 [] (.op 6 [] (.grp 6 (.op 7 [] (.op 8 [] (.op 9 [] (.op 10 [] (.op 11 [] (.op 12 [] .nil)))))) 13 (.op 14 [] (.grp 14 (.op 15 [] (.op 16 [] (.op 17 [] (.op 18 [] (.op 19 [] (.op 20 [] .nil)))))) 21 .nil))))))))))) (.cond (.seq (.reg (.op 0 [] .nil)) .leaf) .leaf)) (.seq (.reg (.op 0 [] (.op 1 [] (.op 2 [] (.op 3 [] (.op 4 [] (.op 5 [] .nil))))))) (.seq (.reg (.op 0 [] .nil)) .leaf))))
/-- (*lighter/send.Window).mark -/
def send_Window_mark.res (w0 : Value) (i1 : Value) (H0 : Heap) (R : Value → Heap → Prop) : Prop :=
 pNil w0 fun x7 =>
 pFieldAddr 3 x7 fun x8 =>
 pLoad H0 x8 fun x9 =>
 pLt i1 x9 fun x10 =>
 pOr x10 (fun J_1 =>
 pNil w0 fun x14 =>
 pFieldAddr 4 x14 fun x15 =>
 pLoad H0 x15 fun x16 =>
 pGe i1 x16 fun x17 =>
 J_1 x17 H0) H0 fun x18 H_2 => ∀ _ : Env,
 pOr x18 (fun J_3 =>
 pNil w0 fun x21 =>
 pFieldAddr 5 x21 fun x22 =>
 pLoad H_2 x22 fun x23 =>
 pLookup H_2 0 (.bool false) false x23 i1 fun x25 =>
 J_3 x25 H_2) H_2 fun x26 H_4 => ∀ _ : Env,
 pCond x26
 (R (.bool false) H_4)
 (pNil w0 fun x28 =>
 pFieldAddr 5 x28 fun x29 =>
 pLoad H_4 x29 fun x30 =>
 pMapSet H_4 0 x30 i1 (.bool true) fun _ H_5 =>
 R (.bool true) H_5)
set_option maxRecDepth 100000 in
theorem send_Window_mark.vc (w0 : Value) (i1 : Value) (H0 : Heap) (R : Value → Heap → Prop) (h : send_Window_mark.res w0 i1 H0 R) : CallsH Try.prog 38 #[w0, i1] H0 R := by
  have e : vcFn Try.prog Try.C Try.f38 send_Window_mark.an [w0, i1] H0 R = send_Window_mark.res w0 i1 H0 R := by kernel_rfl
  exact vcFn_sound Try.callable Try.mixed Try.func38 (by kernel_rfl) (e.mpr h)

end Go.Proofs.Ytmolkhfohpfhaaa
