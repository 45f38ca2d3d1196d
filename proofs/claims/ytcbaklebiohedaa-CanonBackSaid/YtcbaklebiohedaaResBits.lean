/- The residuals of package bits's functions, printed by resid.py. -/
import Derived.Test.YtcbaklebiohedaaVcSeat
namespace Go.Proofs.Ytcbaklebiohedaa
open Go Go.Vc Go.Proofs
set_option linter.unusedVariables false
set_option maxHeartbeats 4000000
def bits_Reader_Feed.an : Ann := (.seq (.reg (.op 0 [] (.op 1 [] .nil))) (.cond (.reg (.op 0 [] (.op 1 [] (.op 2 [] (.op 3 [] (.op 4 [] (.op 5 [] (.op 6 [] (.op 7 [] (.op 8 [] .nil)))))))))) .leaf))
/-- (*lighter/bits.Reader).Feed -/
def bits_Reader_Feed.res (r0 : Value) (s1 : Value) (H0 : Heap) (R : Value → Heap → Prop) : Prop :=
 pNe 3 r0 (.pointer none) fun x5 =>
 pCond x5
 (pNil r0 fun x7 =>
 pFieldAddr 0 x7 fun x8 =>
 pLoad H0 x8 fun x9 =>
 pAdd x9 s1 fun x11 =>
 pNil r0 fun x12 =>
 pFieldAddr 0 x12 fun x13 =>
 pStore H0 x13 x11 fun _ H_1 =>
 R (.tuple #[]) H_1)
 (R (.tuple #[]) H0)
set_option maxRecDepth 100000 in
theorem bits_Reader_Feed.vc (r0 : Value) (s1 : Value) (H0 : Heap) (R : Value → Heap → Prop) (h : bits_Reader_Feed.res r0 s1 H0 R) : CallsH Try.prog 17 #[r0, s1] H0 R := by
  have e : vcFn Try.prog Try.C Try.f17 bits_Reader_Feed.an [r0, s1] H0 R = bits_Reader_Feed.res r0 s1 H0 R := by kernel_rfl
  exact vcFn_sound Try.callable Try.mixed Try.func17 (by kernel_rfl) (e.mpr h)

def bits_Reader_Read.an : Ann := (.seq (.reg (.op 0 [] (.op 1 [] .nil))) (.seq (.reg (.op 0 [] (.op 1 [] (.op 2 [] (.op 3 [] (.op 4 [] (.op 5 [] (.op 6 [] (.op 7 [] .nil))))))))) (.cut [] [14, 15, 16, 17] (.seq (.reg (.op 0 [] .nil)) (.cond (.reg (.op 0 [] (.op 1 [] (.op 2 [] .nil)))) .leaf)) (.seq (.reg (.op 0 [] (.op 1 [] (.op 2 [] (.op 3 [] .nil))))) .leaf))))
/-- (*lighter/bits.Reader).Read -/
def bits_Reader_Read.res (r0 : Value) (n1 : Value) (H0 : Heap) (R : Value → Heap → Prop) : Prop :=
 CallsH Try.prog 33 #[r0, n1] H0 fun x11 H_1 =>
 pExtract 0 x11 fun x12 =>
 pExtract 1 x11 fun x13 =>
 ∃ J_2 : Heap → Prop, (∀ _ : Env, ∀ H_3 : Heap, J_2 H_3 →
 R (.tuple #[x12, x13]) H_3) ∧
 pCond x13
 (CallsH Try.prog 34 #[r0, n1] H_1 fun x17 H_4 =>
 J_2 H_4)
 (J_2 H_1)
set_option maxRecDepth 100000 in
theorem bits_Reader_Read.vc (r0 : Value) (n1 : Value) (H0 : Heap) (R : Value → Heap → Prop) (h : bits_Reader_Read.res r0 n1 H0 R) : CallsH Try.prog 18 #[r0, n1] H0 R := by
  have e : vcFn Try.prog Try.C Try.f18 bits_Reader_Read.an [r0, n1] H0 R = bits_Reader_Read.res r0 n1 H0 R := by kernel_rfl
  exact vcFn_sound Try.callable Try.mixed Try.func18 (by kernel_rfl) (e.mpr h)

def bits_Reader_Left.an : Ann := (.seq (.reg (.op 0 [] .nil)) (.seq (.seq (.reg (.op 0 [] (.op 1 [] .nil))) (.cond (.seq (.reg (.op 0 [] .nil)) .leaf) .leaf)) (.seq (.drw [0, 1, 3, 7, 0, 16, 48, 112, 240, 496, 1023, 2047] (.op 0 [] (.op 1 [] (.op 2 [] (.op 3 [] (.op 4 [] (.op 5 [] (.op 6 [] (.op 7 [] (.op 8 [] (.op 9 [] (.op 10 [] (.op 11 [] .nil))))))))))))) .leaf)))
/-- (*lighter/bits.Reader).Left -/
def bits_Reader_Left.res (r0 : Value) (H0 : Heap) (R : Value → Heap → Prop) : Prop :=
 pEq 3 r0 (.pointer none) fun x4 =>
 pCond x4
 (R (.int .i64 0) H0)
 (pNil r0 fun x6 =>
 pFieldAddr 2 x6 fun x7 =>
 pLoad H0 x7 fun x8 =>
 pNil r0 fun x10 =>
 pFieldAddr 0 x10 fun x11 =>
 pLoad H0 x11 fun x12 =>
 pLenS x12 fun x13 =>
 pMul (.int .i64 8) x13 fun x14 =>
 pAdd x8 x14 fun x15 =>
 R x15 H0)
set_option maxRecDepth 100000 in
theorem bits_Reader_Left.vc (r0 : Value) (H0 : Heap) (R : Value → Heap → Prop) (h : bits_Reader_Left.res r0 H0 R) : CallsH Try.prog 22 #[r0] H0 R := by
  have e : vcFn Try.prog Try.C Try.f22 bits_Reader_Left.an [r0] H0 R = bits_Reader_Left.res r0 H0 R := by kernel_rfl
  exact vcFn_sound Try.callable Try.mixed Try.func22 (by kernel_rfl) (e.mpr h)

def bits_Writer_Write.an : Ann := (.seq (.seq (.reg (.op 0 [] (.op 1 [] (.op 2 [] (.grp 2 (.op 3 [] (.op 4 [] .nil)) 5 (.op 6 [] (.grp 6 (.op 7 [] (.op 8 [] .nil)) 9 .nil))))))) (.cond .leaf .leaf)) (.seq (.drw [0, 1, 3, 7, 0, 0, 32, 96, 240, 0, 512, 1536, 3584, 8176, 16383, 32767, 65535, 131071] (.op 0 [] (.op 1 [] (.op 2 [] (.op 3 [] (.op 4 [] (.op 5 [] (.op 6 [] (.op 7 [] (.op 8 [] (.op 9 [] (.op 10 [] (.op 11 [] (.op 12 [] (.op 13 [] (.op 14 [] (.op 15 [] (.op 16 [] (.op 17 [] .nil))))))))))))))))))) (.seq (.reg (.op 0 [] (.op 1 [] (.op 2 [] (.op 3 [] (.op 4 [] (.op 5 [] (.op 6 [] (.op 7 [] (.op 8 [] .nil)))))))))) (.reg (.op 0 [] (.op 1 [] .nil))))))
/-- (*lighter/bits.Writer).Write -/
def bits_Writer_Write.res (w0 : Value) (v1 : Value) (n2 : Value) (H0 : Heap) (R : Value → Heap → Prop) : Prop :=
 pEq 3 w0 (.pointer none) fun x7 =>
 pOr x7 (fun J_1 =>
 pLt n2 (.int .i64 1) fun x10 =>
 J_1 x10 H0) H0 fun x11 H_2 => ∀ _ : Env,
 pOr x11 (fun J_3 =>
 pGt n2 (.int .i64 32) fun x14 =>
 J_3 x14 H_2) H_2 fun x15 H_4 => ∀ _ : Env,
 pCond x15
 (R (.tuple #[]) H_4)
 (pNil w0 fun x17 =>
 pFieldAddr 1 x17 fun x18 =>
 pLoad H_4 x18 fun x19 =>
 pShl (.int .u64 1) n2 fun x22 =>
 pSub x22 (.int .u64 1) fun x23 =>
 pBits .and v1 x23 fun x24 =>
 pNil w0 fun x26 =>
 pFieldAddr 2 x26 fun x27 =>
 pLoad H_4 x27 fun x28 =>
 pShl x24 x28 fun x29 =>
 pBits .or x19 x29 fun x30 =>
 pNil w0 fun x31 =>
 pFieldAddr 1 x31 fun x32 =>
 pStore H_4 x32 x30 fun _ H_5 =>
 pNil w0 fun x34 =>
 pFieldAddr 2 x34 fun x35 =>
 pLoad H_5 x35 fun x36 =>
 pAdd x36 n2 fun x38 =>
 pNil w0 fun x39 =>
 pFieldAddr 2 x39 fun x40 =>
 pStore H_5 x40 x38 fun _ H_6 =>
 CallsH Try.prog 37 #[w0] H_6 fun x42 H_7 =>
 R (.tuple #[]) H_7)
set_option maxRecDepth 100000 in
theorem bits_Writer_Write.vc (w0 : Value) (v1 : Value) (n2 : Value) (H0 : Heap) (R : Value → Heap → Prop) (h : bits_Writer_Write.res w0 v1 n2 H0 R) : CallsH Try.prog 24 #[w0, v1, n2] H0 R := by
  have e : vcFn Try.prog Try.C Try.f24 bits_Writer_Write.an [w0, v1, n2] H0 R = bits_Writer_Write.res w0 v1 n2 H0 R := by kernel_rfl
  exact vcFn_sound Try.callable Try.mixed Try.func24 (by kernel_rfl) (e.mpr h)

def bits_Writer_Align.an : Ann := (.seq (.reg (.op 0 [] (.op 1 [] (.op 2 [] (.grp 2 (.op 3 [] (.op 4 [] (.op 5 [] (.op 6 [] (.op 7 [] .nil))))) 8 .nil))))) (.cond (.reg (.op 0 [] (.op 1 [] (.op 2 [] (.op 3 [] (.op 4 [] (.op 5 [] (.op 6 [] .nil)))))))) .leaf))
/-- (*lighter/bits.Writer).Align -/
def bits_Writer_Align.res (w0 : Value) (H0 : Heap) (R : Value → Heap → Prop) : Prop :=
 pNe 3 w0 (.pointer none) fun x3 =>
 pAnd x3 (fun J_1 =>
 pNil w0 fun x6 =>
 pFieldAddr 2 x6 fun x7 =>
 pLoad H0 x7 fun x8 =>
 pGt x8 (.int .i64 0) fun x9 =>
 J_1 x9 H0) H0 fun x10 H_2 => ∀ _ : Env,
 pCond x10
 (pNil w0 fun x13 =>
 pFieldAddr 2 x13 fun x14 =>
 pLoad H_2 x14 fun x15 =>
 pSub (.int .i64 8) x15 fun x16 =>
 CallsH Try.prog 24 #[w0, (.int .u64 0), x16] H_2 fun x17 H_3 =>
 R (.tuple #[]) H_3)
 (R (.tuple #[]) H_2)
set_option maxRecDepth 100000 in
theorem bits_Writer_Align.vc (w0 : Value) (H0 : Heap) (R : Value → Heap → Prop) (h : bits_Writer_Align.res w0 H0 R) : CallsH Try.prog 25 #[w0] H0 R := by
  have e : vcFn Try.prog Try.C Try.f25 bits_Writer_Align.an [w0] H0 R = bits_Writer_Align.res w0 H0 R := by kernel_rfl
  exact vcFn_sound Try.callable Try.mixed Try.func25 (by kernel_rfl) (e.mpr h)

def bits_Writer_Drain.an : Ann := (.seq (.reg (.op 0 [] .nil)) (.seq (.seq (.reg (.op 0 [] (.op 1 [] .nil))) (.cond (.seq (.reg (.op 0 [] .nil)) .leaf) .leaf)) (.seq (.reg (.op 0 [] (.op 1 [] (.op 2 [] (.op 3 [] (.op 4 [] (.op 5 [] .nil))))))) (.seq (.reg (.op 0 [] (.op 1 [] (.op 2 [] (.op 3 [] (.op 4 [] (.op 5 [] (.op 6 [] (.op 7 [] (.op 8 [] .nil)))))))))) (.seq (.reg (.op 0 [] (.op 1 [] .nil))) .leaf)))))
/-- (*lighter/bits.Writer).Drain -/
def bits_Writer_Drain.res (w0 : Value) (H0 : Heap) (R : Value → Heap → Prop) : Prop :=
 pEq 3 w0 (.pointer none) fun x5 =>
 pCond x5
 (R (str []) H0)
 (pNil w0 fun x7 =>
 pFieldAddr 0 x7 fun x8 =>
 pLoad H0 x8 fun x9 =>
 pStrOf H0 x9 fun x10 =>
 pNil w0 fun x13 =>
 pFieldAddr 0 x13 fun x14 =>
 pLoad H0 x14 fun x15 =>
 pSlSl 1 x15 none (some (.int .i64 0)) fun x16 =>
 pNil w0 fun x17 =>
 pFieldAddr 0 x17 fun x18 =>
 pStore H0 x18 x16 fun _ H_1 =>
 R x10 H_1)
set_option maxRecDepth 100000 in
theorem bits_Writer_Drain.vc (w0 : Value) (H0 : Heap) (R : Value → Heap → Prop) (h : bits_Writer_Drain.res w0 H0 R) : CallsH Try.prog 26 #[w0] H0 R := by
  have e : vcFn Try.prog Try.C Try.f26 bits_Writer_Drain.an [w0] H0 R = bits_Writer_Drain.res w0 H0 R := by kernel_rfl
  exact vcFn_sound Try.callable Try.mixed Try.func26 (by kernel_rfl) (e.mpr h)

def bits_Reader_Peek.an : Ann := (.seq (.reg (.op 0 [] (.op 1 [] .nil))) (.seq (.seq (.reg (.op 0 [] (.op 1 [] (.op 2 [] (.grp 2 (.op 3 [] (.op 4 [] .nil)) 5 (.op 6 [] (.grp 6 (.op 7 [] (.op 8 [] .nil)) 9 (.op 10 [] (.grp 10 (.op 11 [] (.op 12 [] (.op 13 [] (.op 14 [] .nil)))) 15 .nil))))))))) (.cond (.seq (.reg (.op 0 [] (.op 1 [] .nil))) .leaf) .leaf)) (.seq (.reg (.op 0 [] (.op 1 [] (.op 2 [] .nil)))) (.seq (.drw [0, 1, 3, 7, 0, 16, 48, 127, 255, 511] (.op 0 [] (.op 1 [] (.op 2 [] (.op 3 [] (.op 4 [] (.op 5 [] (.op 6 [] (.op 7 [] (.op 8 [] (.op 9 [] .nil))))))))))) .leaf))))
/-- (*lighter/bits.Reader).Peek -/
def bits_Reader_Peek.res (r0 : Value) (n1 : Value) (H0 : Heap) (R : Value → Heap → Prop) : Prop :=
 pEq 3 r0 (.pointer none) fun x7 =>
 pOr x7 (fun J_1 =>
 pLt n1 (.int .i64 0) fun x10 =>
 J_1 x10 H0) H0 fun x11 H_2 => ∀ _ : Env,
 pOr x11 (fun J_3 =>
 pGt n1 (.int .i64 32) fun x14 =>
 J_3 x14 H_2) H_2 fun x15 H_4 => ∀ _ : Env,
 pOr x15 (fun J_5 =>
 CallsH Try.prog 22 #[r0] H_4 fun x18 H_7 =>
 pLt x18 n1 fun x20 =>
 J_5 x20 H_7) H_4 fun x21 H_6 => ∀ _ : Env,
 pCond x21
 (R (.tuple #[(.int .u64 0), (.bool false)]) H_6)
 (CallsH Try.prog 40 #[r0, n1] H_6 fun x24 H_8 =>
 pNil r0 fun x26 =>
 pFieldAddr 1 x26 fun x27 =>
 pLoad H_8 x27 fun x28 =>
 pShl (.int .u64 1) n1 fun x30 =>
 pSub x30 (.int .u64 1) fun x31 =>
 pBits .and x28 x31 fun x32 =>
 R (.tuple #[x32, (.bool true)]) H_8)
set_option maxRecDepth 100000 in
theorem bits_Reader_Peek.vc (r0 : Value) (n1 : Value) (H0 : Heap) (R : Value → Heap → Prop) (h : bits_Reader_Peek.res r0 n1 H0 R) : CallsH Try.prog 33 #[r0, n1] H0 R := by
  have e : vcFn Try.prog Try.C Try.f33 bits_Reader_Peek.an [r0, n1] H0 R = bits_Reader_Peek.res r0 n1 H0 R := by kernel_rfl
  exact vcFn_sound Try.callable Try.mixed Try.func33 (by kernel_rfl) (e.mpr h)

def bits_Reader_drop.an : Ann := (.seq (.reg (.op 0 [] (.op 1 [] (.op 2 [] (.op 3 [] (.op 4 [] (.op 5 [] (.op 6 [] (.op 7 [] (.op 8 [] .nil)))))))))) (.reg (.op 0 [] (.op 1 [] (.op 2 [] (.op 3 [] (.op 4 [] (.op 5 [] (.op 6 [] (.op 7 [] (.op 8 [] .nil)))))))))))
/-- (*lighter/bits.Reader).drop -/
def bits_Reader_drop.res (r0 : Value) (n1 : Value) (H0 : Heap) (R : Value → Heap → Prop) : Prop :=
 pNil r0 fun x5 =>
 pFieldAddr 1 x5 fun x6 =>
 pLoad H0 x6 fun x7 =>
 pShr x7 n1 fun x9 =>
 pNil r0 fun x10 =>
 pFieldAddr 1 x10 fun x11 =>
 pStore H0 x11 x9 fun _ H_1 =>
 pNil r0 fun x13 =>
 pFieldAddr 2 x13 fun x14 =>
 pLoad H_1 x14 fun x15 =>
 pSub x15 n1 fun x17 =>
 pNil r0 fun x18 =>
 pFieldAddr 2 x18 fun x19 =>
 pStore H_1 x19 x17 fun _ H_2 =>
 R (.tuple #[]) H_2
set_option maxRecDepth 100000 in
theorem bits_Reader_drop.vc (r0 : Value) (n1 : Value) (H0 : Heap) (R : Value → Heap → Prop) (h : bits_Reader_drop.res r0 n1 H0 R) : CallsH Try.prog 34 #[r0, n1] H0 R := by
  have e : vcFn Try.prog Try.C Try.f34 bits_Reader_drop.an [r0, n1] H0 R = bits_Reader_drop.res r0 n1 H0 R := by kernel_rfl
  exact vcFn_sound Try.callable Try.mixed Try.func34 (by kernel_rfl) (e.mpr h)

def bits_Writer_spill.an : Ann := (.block (.loop [] [2, 3, 4, 5, 6, 7, 8, 9, 10, 11, 12, 13, 14, 15, 16, 17, 18, 19, 20, 21, 22, 23, 24, 25, 26, 27, 28, 29, 30, 31, 32, 33, 34] (.seq (.seq (.reg (.op 0 [] (.op 1 [] (.op 2 [] (.op 3 [] (.op 4 [] .nil)))))) (.cond .leaf .leaf)) (.seq (.block (.seq (.drw [0, 0, 2, 6, 14, 0, 32, 96, 224, 480, 992, 2046, 4095, 8191, 16383] (.op 0 [] (.op 1 [] (.op 2 [] (.op 3 [] (.op 4 [] (.op 5 [] (.op 6 [] (.op 7 [] (.op 8 [] (.op 9 [] (.op 10 [4] (.op 11 [] (.op 12 [] (.op 13 [] (.op 14 [] .nil)))))))))))))))) (.reg (.op 0 [] (.op 1 [] (.op 2 [] (.op 3 [] (.op 4 [] (.op 5 [] (.op 6 [] (.op 7 [] .nil))))))))))) (.reg (.op 0 [] (.op 1 [] (.op 2 [] (.op 3 [] (.op 4 [] (.op 5 [] (.op 6 [] (.op 7 [] .nil)))))))))))))
/-- (*lighter/bits.Writer).spill -/
def bits_Writer_spill.res (w0 : Value) (H0 : Heap) (R : Value → Heap → Prop) : Prop :=
 ∃ (I_1 : Heap → Prop) (m_2 : Heap → Nat), I_1 H0 ∧
 ∀ _ : Env, ∀ H_3 : Heap, I_1 H_3 →
 pNil w0 fun x3 =>
 pFieldAddr 2 x3 fun x4 =>
 pLoad H_3 x4 fun x5 =>
 pGe x5 (.int .i64 8) fun x6 =>
 pCond x6
 (pNil w0 fun x16 =>
 pFieldAddr 0 x16 fun x17 =>
 pLoad H_3 x17 fun x18 =>
 pNil w0 fun x20 =>
 pFieldAddr 1 x20 fun x21 =>
 pLoad H_3 x21 fun x22 =>
 pConv .u8 x22 fun x23 =>
 pBuildSl H_3 5 1 [(.int .u8 0)] [(0, 1, x23)] fun x24 H_4 =>
 (pLoad H_4 x17 fun r_ =>
 r_ = x18) ∧
 pAppend H_4 5 1 1 [(.int .u8 0)] x18 x24 fun x25 H_5 =>
 pNil w0 fun x26 =>
 pFieldAddr 0 x26 fun x27 =>
 pStore H_5 x27 x25 fun _ H_6 =>
 pNil w0 fun x29 =>
 pFieldAddr 1 x29 fun x30 =>
 pLoad H_6 x30 fun x31 =>
 pShr x31 (.int .u64 8) fun x32 =>
 pNil w0 fun x33 =>
 pFieldAddr 1 x33 fun x34 =>
 pStore H_6 x34 x32 fun _ H_7 =>
 pNil w0 fun x8 =>
 pFieldAddr 2 x8 fun x9 =>
 pLoad H_7 x9 fun x10 =>
 pSub x10 (.int .i64 8) fun x11 =>
 pNil w0 fun x12 =>
 pFieldAddr 2 x12 fun x13 =>
 pStore H_7 x13 x11 fun _ H_8 =>
 I_1 H_8 ∧ m_2 H_8 < m_2 H_3)
 (R (.tuple #[]) H_3)
set_option maxRecDepth 100000 in
theorem bits_Writer_spill.vc (w0 : Value) (H0 : Heap) (R : Value → Heap → Prop) (h : bits_Writer_spill.res w0 H0 R) : CallsH Try.prog 37 #[w0] H0 R := by
  have e : vcFn Try.prog Try.C Try.f37 bits_Writer_spill.an [w0] H0 R = bits_Writer_spill.res w0 H0 R := by kernel_rfl
  exact vcFn_sound Try.callable Try.mixed Try.func37 (by kernel_rfl) (e.mpr h)

def bits_Reader_fill.an : Ann := (.block (.loop [] [4, 5, 6, 7, 8, 9, 10, 11, 12, 13, 14, 15, 16, 17, 18, 19, 20, 21, 22, 23, 24, 25, 26, 27, 28, 29, 30, 31, 32, 33, 34, 35, 36, 37, 38, 39, 40, 41, 42, 43, 44, 45, 46, 47, 48, 49] (.seq (.seq (.reg (.op 0 [] (.op 1 [] (.op 2 [] (.op 3 [] (.op 4 [] (.op 5 [] (.op 6 [] (.grp 6 (.op 7 [] (.op 8 [] (.op 9 [] (.op 10 [] (.op 11 [] .nil))))) 12 .nil))))))))) (.cond .leaf .leaf)) (.block (.seq (.drw [0, 1, 3, 7, 0, 16, 48, 112, 240, 496, 0, 1024, 3072, 7168, 16368, 32767, 65535, 131071, 262143] (.op 0 [] (.op 1 [] (.op 2 [] (.op 3 [] (.op 4 [] (.op 5 [] (.op 6 [] (.op 7 [] (.op 8 [] (.op 9 [] (.op 10 [] (.op 11 [] (.op 12 [] (.op 13 [] (.op 14 [] (.op 15 [] (.op 16 [] (.op 17 [] (.op 18 [] .nil)))))))))))))))))))) (.seq (.reg (.op 0 [] (.op 1 [] (.op 2 [] (.op 3 [] (.op 4 [] (.op 5 [] (.op 6 [] (.op 7 [] (.op 8 [] .nil)))))))))) (.reg (.op 0 [] (.op 1 [] (.op 2 [] (.op 3 [] (.op 4 [] (.op 5 [] (.op 6 [] (.op 7 [] .nil)))))))))))))))
/-- (*lighter/bits.Reader).fill -/
def bits_Reader_fill.res (r0 : Value) (n1 : Value) (H0 : Heap) (R : Value → Heap → Prop) : Prop :=
 ∃ (I_1 : Heap → Prop) (m_2 : Heap → Nat), I_1 H0 ∧
 ∀ _ : Env, ∀ H_3 : Heap, I_1 H_3 →
 pNil r0 fun x5 =>
 pFieldAddr 2 x5 fun x6 =>
 pLoad H_3 x6 fun x7 =>
 pLt x7 n1 fun x9 =>
 pAnd x9 (fun J_4 =>
 pNil r0 fun x12 =>
 pFieldAddr 0 x12 fun x13 =>
 pLoad H_3 x13 fun x14 =>
 pNe 1 x14 (str []) fun x15 =>
 J_4 x15 H_3) H_3 fun x16 H_5 => ∀ _ : Env,
 pCond x16
 (pNil r0 fun x18 =>
 pFieldAddr 1 x18 fun x19 =>
 pLoad H_5 x19 fun x20 =>
 pNil r0 fun x22 =>
 pFieldAddr 0 x22 fun x23 =>
 pLoad H_5 x23 fun x24 =>
 pIdxStr x24 (.int .i64 0) fun x25 =>
 pConv .u64 x25 fun x26 =>
 pNil r0 fun x28 =>
 pFieldAddr 2 x28 fun x29 =>
 pLoad H_5 x29 fun x30 =>
 pShl x26 x30 fun x31 =>
 pBits .or x20 x31 fun x32 =>
 pNil r0 fun x33 =>
 pFieldAddr 1 x33 fun x34 =>
 pStore H_5 x34 x32 fun _ H_6 =>
 pNil r0 fun x37 =>
 pFieldAddr 0 x37 fun x38 =>
 pLoad H_6 x38 fun x39 =>
 pSlStr x39 (some (.int .i64 1)) none fun x40 =>
 pNil r0 fun x41 =>
 pFieldAddr 0 x41 fun x42 =>
 pStore H_6 x42 x40 fun _ H_7 =>
 pNil r0 fun x44 =>
 pFieldAddr 2 x44 fun x45 =>
 pLoad H_7 x45 fun x46 =>
 pAdd x46 (.int .i64 8) fun x47 =>
 pNil r0 fun x48 =>
 pFieldAddr 2 x48 fun x49 =>
 pStore H_7 x49 x47 fun _ H_8 =>
 I_1 H_8 ∧ m_2 H_8 < m_2 H_3)
 (R (.tuple #[]) H_5)
set_option maxRecDepth 100000 in
theorem bits_Reader_fill.vc (r0 : Value) (n1 : Value) (H0 : Heap) (R : Value → Heap → Prop) (h : bits_Reader_fill.res r0 n1 H0 R) : CallsH Try.prog 40 #[r0, n1] H0 R := by
  have e : vcFn Try.prog Try.C Try.f40 bits_Reader_fill.an [r0, n1] H0 R = bits_Reader_fill.res r0 n1 H0 R := by kernel_rfl
  exact vcFn_sound Try.callable Try.mixed Try.func40 (by kernel_rfl) (e.mpr h)

end Go.Proofs.Ytcbaklebiohedaa
