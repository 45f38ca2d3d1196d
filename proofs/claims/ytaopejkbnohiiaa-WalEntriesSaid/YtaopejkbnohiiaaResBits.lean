/- The residuals of package bits's functions, printed by resid.py. -/
import Derived.Test.YtaopejkbnohiiaaVcSeat
namespace Go.Proofs.Ytaopejkbnohiiaa
open Go Go.Vc Go.Proofs
set_option linter.unusedVariables false
set_option maxHeartbeats 4000000
def bits_Put.an : Ann := (.seq (.reg (.op 0 [] .nil)) (.seq (.seq (.reg (.op 0 [] (.op 1 [] (.op 2 [] (.grp 2 (.op 3 [] (.op 4 [] .nil)) 5 .nil))))) (.cond (.seq (.reg (.op 0 [] .nil)) .leaf) .leaf)) (.seq (.reg (.op 0 [] (.op 1 [] (.op 2 [] .nil)))) (.seq (.seq (.reg (.op 0 [] (.op 1 [] (.op 2 [] .nil)))) (.block (.loop [17] [6, 17, 18, 19, 20, 21, 22, 23, 24, 25, 26, 27, 28] (.seq (.reg (.op 0 [] .nil)) (.seq (.cond .leaf .leaf) (.seq (.block (.seq (.reg (.op 0 [] (.op 1 [] .nil))) (.reg (.op 0 [] (.op 1 [] (.op 2 [] (.op 3 [] (.op 4 [] (.op 5 [] (.op 6 [] (.op 7 [] (.op 8 [] .nil)))))))))))) (.reg (.op 0 [] (.op 1 [] .nil))))))))) (.seq (.reg (.op 0 [] (.op 1 [] (.op 2 [] .nil)))) .leaf)))))
/-- lighter/bits.Put -/
def bits_Put.res (n0 : Value) (size1 : Value) (H0 : Heap) (R : Value → Heap → Prop) : Prop :=
 pLt size1 (.int .i64 1) fun x8 =>
 pOr x8 (fun J_1 =>
 pGt size1 (.int .i64 8) fun x11 =>
 J_1 x11 H0) H0 fun x12 H_2 => ∀ _ : Env,
 pCond x12
 (R (str []) H_2)
 (pMakeSl H_2 5 1 [(.int .u8 0)] size1 size1 fun x14 H_3 =>
 pLen x14 fun x16 =>
 ∃ (I_4 : Value → Heap → Prop) (m_5 : Value → Heap → Nat), I_4 (.int .i64 0) H_3 ∧
 ∀ _ : Env, ∀ x17 : Value, ∀ H_6 : Heap, I_4 x17 H_6 →
 pLt x17 x16 fun x18 =>
 pCond x18
 (pMul (.int .i64 8) x17 fun x24 =>
 pShr n0 x24 fun x25 =>
 pConv .u8 x25 fun x26 =>
 pIdxSl 1 x14 x17 fun x27 =>
 pStore H_6 x27 x26 fun _ H_7 =>
 pAdd x17 (.int .i64 1) fun x28 =>
 I_4 x28 H_7 ∧ m_5 x28 H_7 < m_5 x17 H_6)
 (pStrOf H_6 x14 fun x30 =>
 R x30 H_6))
set_option maxRecDepth 100000 in
theorem bits_Put.vc (n0 : Value) (size1 : Value) (H0 : Heap) (R : Value → Heap → Prop) (h : bits_Put.res n0 size1 H0 R) : CallsH Try.prog 30 #[n0, size1] H0 R := by
  have e : vcFn Try.prog Try.C Try.f30 bits_Put.an [n0, size1] H0 R = bits_Put.res n0 size1 H0 R := by kernel_rfl
  exact vcFn_sound Try.callable Try.mixed Try.func30 (by kernel_rfl) (e.mpr h)

def bits_Mul.an : Ann := (.seq (.reg (.op 0 [] (.op 1 [] .nil))) (.seq (.cond (.seq (.reg (.op 0 [] (.op 1 [] (.op 2 [] (.op 3 [] (.op 4 [] (.op 5 [] (.op 6 [] (.op 7 [] (.op 8 [] (.op 9 [] .nil))))))))))) (.seq (.reg (.op 0 [] (.op 1 [] (.op 2 [] (.op 3 [] (.op 4 [] (.op 5 [] .nil))))))) .leaf)) .leaf) (.seq (.reg (.op 0 [] (.op 1 [] (.op 2 [] (.op 3 [] (.op 4 [] (.op 5 [] (.op 6 [] (.op 7 [] .nil))))))))) (.seq (.reg (.op 0 [] (.op 1 [] (.op 2 [] (.op 3 [] .nil))))) .leaf))))
/-- math/bits.Mul -/
def bits_Mul.res (x0 : Value) (y1 : Value) (H0 : Heap) (R : Value → Heap → Prop) : Prop :=
 pCond (.bool false)
 (pConv .u32 x0 fun x12 =>
 pConv .u32 y1 fun x14 =>
 CallsH Try.prog 51 #[x12, x14] H0 fun x15 H_1 =>
 pExtract 0 x15 fun x16 =>
 pExtract 1 x15 fun x17 =>
 pConv .u64 x16 fun x19 =>
 pConv .u64 x17 fun x21 =>
 R (.tuple #[x19, x21]) H_1)
 (CallsH Try.prog 52 #[x0, y1] H0 fun x25 H_2 =>
 pExtract 0 x25 fun x26 =>
 pExtract 1 x25 fun x27 =>
 R (.tuple #[x26, x27]) H_2)
set_option maxRecDepth 100000 in
theorem bits_Mul.vc (x0 : Value) (y1 : Value) (H0 : Heap) (R : Value → Heap → Prop) (h : bits_Mul.res x0 y1 H0 R) : CallsH Try.prog 38 #[x0, y1] H0 R := by
  have e : vcFn Try.prog Try.C Try.f38 bits_Mul.an [x0, y1] H0 R = bits_Mul.res x0 y1 H0 R := by kernel_rfl
  exact vcFn_sound Try.callable Try.mixed Try.func38 (by kernel_rfl) (e.mpr h)

def bits_Get.an : Ann := (.seq (.reg (.op 0 [] .nil)) (.seq (.seq (.reg (.op 0 [] (.op 1 [] (.op 2 [] .nil)))) (.cond (.seq (.reg (.op 0 [] .nil)) .leaf) .leaf)) (.seq (.reg (.op 0 [] .nil)) (.seq (.seq (.reg (.op 0 [] (.op 1 [] (.op 2 [] (.op 3 [] .nil))))) (.block (.loop [3, 4] [3, 4, 11, 12, 13, 14, 15, 16, 17, 18, 19, 20, 21] (.seq (.seq (.reg (.op 0 [] (.op 1 [] .nil))) (.cond .leaf .leaf)) (.seq (.block (.reg (.op 0 [] (.op 1 [] (.op 2 [] (.op 3 [] (.op 4 [] (.op 5 [] (.op 6 [] (.op 7 [] .nil)))))))))) (.reg (.op 0 [] (.op 1 [] (.op 2 [] .nil))))))))) (.seq (.reg (.op 0 [] (.op 1 [] .nil))) .leaf)))))
/-- lighter/bits.Get -/
def bits_Get.res (s0 : Value) (H0 : Heap) (R : Value → Heap → Prop) : Prop :=
 pLenS s0 fun x6 =>
 pGt x6 (.int .i64 8) fun x7 =>
 pCond x7
 (R (.int .u64 0) H0)
 (pLenS s0 fun x9 =>
 pSub x9 (.int .i64 1) fun x10 =>
 ∃ (I_1 : Value → Value → Heap → Prop) (m_2 : Value → Value → Heap → Nat), I_1 (.int .u64 0) x10 H0 ∧
 ∀ _ : Env, ∀ n3 : Value, ∀ i4 : Value, ∀ H_3 : Heap, I_1 n3 i4 H_3 →
 pGe i4 (.int .i64 0) fun x12 =>
 pCond x12
 (pShl n3 (.int .u64 8) fun x16 =>
 pIdxStr s0 i4 fun x19 =>
 pConv .u64 x19 fun x20 =>
 pBits .or x16 x20 fun x21 =>
 pSub i4 (.int .i64 1) fun x14 =>
 I_1 x21 x14 H_3 ∧ m_2 x21 x14 H_3 < m_2 n3 i4 H_3)
 (R n3 H_3))
set_option maxRecDepth 100000 in
theorem bits_Get.vc (s0 : Value) (H0 : Heap) (R : Value → Heap → Prop) (h : bits_Get.res s0 H0 R) : CallsH Try.prog 44 #[s0] H0 R := by
  have e : vcFn Try.prog Try.C Try.f44 bits_Get.an [s0] H0 R = bits_Get.res s0 H0 R := by kernel_rfl
  exact vcFn_sound Try.callable Try.mixed Try.func44 (by kernel_rfl) (e.mpr h)

def bits_Mul32.an : Ann := (.seq (.reg (.op 0 [] (.op 1 [] .nil))) (.seq (.reg (.op 0 [] (.op 1 [] (.op 2 [] (.op 3 [] (.op 4 [] (.op 5 [] .nil))))))) (.seq (.reg (.op 0 [] (.op 1 [] (.op 2 [] (.op 3 [] (.op 4 [] (.op 5 [] (.op 6 [] .nil)))))))) .leaf)))
/-- math/bits.Mul32 -/
def bits_Mul32.res (x0 : Value) (y1 : Value) (H0 : Heap) (R : Value → Heap → Prop) : Prop :=
 pConv .u64 x0 fun x8 =>
 pConv .u64 y1 fun x10 =>
 pMul x8 x10 fun x11 =>
 pShr x11 (.int .u64 32) fun x13 =>
 pConv .u32 x13 fun x14 =>
 pConv .u32 x11 fun x16 =>
 R (.tuple #[x14, x16]) H0
set_option maxRecDepth 100000 in
theorem bits_Mul32.vc (x0 : Value) (y1 : Value) (H0 : Heap) (R : Value → Heap → Prop) (h : bits_Mul32.res x0 y1 H0 R) : CallsH Try.prog 51 #[x0, y1] H0 R := by
  have e : vcFn Try.prog Try.C Try.f51 bits_Mul32.an [x0, y1] H0 R = bits_Mul32.res x0 y1 H0 R := by kernel_rfl
  exact vcFn_sound Try.callable Try.mixed Try.func51 (by kernel_rfl) (e.mpr h)

def bits_Mul64.an : Ann := (.seq (.reg (.op 0 [] (.op 1 [] .nil))) (.seq (.reg (.op 0 [] (.op 1 [] (.op 2 [] .nil)))) (.seq (.reg (.op 0 [] (.op 1 [] (.op 2 [] .nil)))) (.seq (.reg (.op 0 [] (.op 1 [] (.op 2 [] .nil)))) (.seq (.reg (.op 0 [] (.op 1 [] (.op 2 [] .nil)))) (.seq (.reg (.op 0 [] (.op 1 [] (.op 2 [] (.op 3 [] .nil))))) (.seq (.reg (.op 0 [] (.op 1 [] (.op 2 [] (.op 3 [] (.op 4 [] (.op 5 [] (.op 6 [] .nil)))))))) (.seq (.reg (.op 0 [] (.op 1 [] (.op 2 [] .nil)))) (.seq (.reg (.op 0 [] (.op 1 [] (.op 2 [] .nil)))) (.seq (.reg (.op 0 [] (.op 1 [] (.op 2 [] (.op 3 [] (.op 4 [] (.op 5 [] .nil))))))) (.seq (.reg (.op 0 [] (.op 1 [] (.op 2 [] (.op 3 [] (.op 4 [] (.op 5 [] (.op 6 [] (.op 7 [] (.op 8 [] .nil)))))))))) (.seq (.reg (.op 0 [] (.op 1 [] (.op 2 [] (.op 3 [] .nil))))) .leaf))))))))))))
/-- math/bits.Mul64 -/
def bits_Mul64.res (x0 : Value) (y1 : Value) (H0 : Heap) (R : Value → Heap → Prop) : Prop :=
 pBits .and x0 (.int .u64 4294967295) fun x15 =>
 pShr x0 (.int .u64 32) fun x17 =>
 pBits .and y1 (.int .u64 4294967295) fun x19 =>
 pShr y1 (.int .u64 32) fun x21 =>
 pMul x15 x19 fun x24 =>
 pMul x17 x19 fun x27 =>
 pShr x24 (.int .u64 32) fun x29 =>
 pAdd x27 x29 fun x30 =>
 pBits .and x30 (.int .u64 4294967295) fun x32 =>
 pShr x30 (.int .u64 32) fun x34 =>
 pMul x15 x21 fun x38 =>
 pAdd x32 x38 fun x39 =>
 pMul x17 x21 fun x42 =>
 pAdd x42 x34 fun x44 =>
 pShr x39 (.int .u64 32) fun x46 =>
 pAdd x44 x46 fun x47 =>
 pMul x0 y1 fun x50 =>
 R (.tuple #[x47, x50]) H0
set_option maxRecDepth 100000 in
theorem bits_Mul64.vc (x0 : Value) (y1 : Value) (H0 : Heap) (R : Value → Heap → Prop) (h : bits_Mul64.res x0 y1 H0 R) : CallsH Try.prog 52 #[x0, y1] H0 R := by
  have e : vcFn Try.prog Try.C Try.f52 bits_Mul64.an [x0, y1] H0 R = bits_Mul64.res x0 y1 H0 R := by kernel_rfl
  exact vcFn_sound Try.callable Try.mixed Try.func52 (by kernel_rfl) (e.mpr h)

end Go.Proofs.Ytaopejkbnohiiaa
