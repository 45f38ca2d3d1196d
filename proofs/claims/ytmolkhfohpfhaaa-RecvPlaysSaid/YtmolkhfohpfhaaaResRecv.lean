/- The residuals of package recv's functions, printed by resid.py. -/
import Derived.Test.YtmolkhfohpfhaaaVcSeat
namespace Go.Proofs.Ytmolkhfohpfhaaa
open Go Go.Vc Go.Proofs
set_option linter.unusedVariables false
set_option maxHeartbeats 4000000
def recv_New.an : Ann := (.seq (.reg (.op 0 [] (.op 1 [] .nil))) (.seq (.seq (.reg (.op 0 [] (.op 1 [] (.op 2 [] (.grp 2 (.op 3 [] (.op 4 [] .nil)) 5 .nil))))) (.cond (.seq (.reg (.op 0 [] (.op 1 [] .nil))) .leaf) .leaf)) (.seq (.reg (.op 0 [] (.op 1 [] (.op 2 [] (.op 3 [] (.op 4 [] (.op 5 [] (.op 6 [] .nil)))))))) .leaf)))
/-- lighter/recv.New -/
def recv_New.res (next0 : Value) (size1 : Value) (H0 : Heap) (R : Value → Heap → Prop) : Prop :=
 pLt size1 (.int .i64 1) fun x7 =>
 pOr x7 (fun J_1 =>
 pGt size1 (.int .i64 32) fun x10 =>
 J_1 x10 H0) H0 fun x11 H_2 => ∀ _ : Env,
 pCond x11
 (R (.tuple #[(.pointer none), (.int .i64 1)]) H_2)
 (pMakeMap H_2 fun x14 H_3 =>
 pBuild [(.int .u32 0), (.int .i64 0), (.map none), (.int .i64 0)] [(0, 1, next0), (1, 1, size1), (2, 1, x14)] fun x15 =>
 pBox H_3 81 x15 fun x16 H_4 =>
 R (.tuple #[x16, (.int .i64 0)]) H_4)
set_option maxRecDepth 100000 in
theorem recv_New.vc (next0 : Value) (size1 : Value) (H0 : Heap) (R : Value → Heap → Prop) (h : recv_New.res next0 size1 H0 R) : CallsH Try.prog 12 #[next0, size1] H0 R := by
  have e : vcFn Try.prog Try.C Try.f12 recv_New.an [next0, size1] H0 R = recv_New.res next0 size1 H0 R := by kernel_rfl
  exact vcFn_sound Try.callable Try.mixed Try.func12 (by kernel_rfl) (e.mpr h)

def recv_Window_Next.an : Ann := (.seq (.reg (.op 0 [] (.op 1 [] .nil))) (.seq (.seq (.reg (.op 0 [] (.op 1 [] .nil))) (.cond (.seq (.reg (.op 0 [] (.op 1 [] .nil))) .leaf) .leaf)) (.seq (.drw [0, 1, 3, 7, 0, 16, 48, 112, 255, 511, 1023, 1023, 2047, 8191] (.op 0 [] (.op 1 [] (.op 2 [] (.op 3 [] (.op 4 [] (.op 5 [] (.op 6 [] (.op 7 [] (.op 8 [] (.op 9 [] (.op 10 [] (.op 11 [] (.op 12 [] (.op 13 [] .nil))))))))))))))) (.cut [] [20, 21, 22, 23, 24, 25, 26, 27, 28, 29, 30, 31, 32, 33, 34, 35, 36, 37, 38, 39, 40, 41, 42, 43, 44] (.seq (.reg (.op 0 [] .nil)) (.cond (.seq (.drw [0, 1, 3, 7, 0, 16, 48, 112, 255] (.op 0 [] (.op 1 [] (.op 2 [] (.op 3 [] (.op 4 [] (.op 5 [] (.op 6 [] (.op 7 [] (.op 8 [] .nil)))))))))) (.seq (.reg (.op 0 [] (.op 1 [] (.op 2 [] (.op 3 [] (.op 4 [] (.op 5 [] (.op 6 [] (.op 7 [] (.op 8 [] (.op 9 [] .nil))))))))))) (.reg (.op 0 [] (.op 1 [] (.op 2 [] (.op 3 [] (.op 4 [] (.op 5 [] (.op 6 [] (.op 7 [] .nil))))))))))) .leaf)) (.seq (.reg (.op 0 [] (.op 1 [] (.op 2 [] (.op 3 [] .nil))))) .leaf)))))
/-- (*lighter/recv.Window).Next -/
def recv_Window_Next.res (w0 : Value) (H0 : Heap) (R : Value → Heap → Prop) : Prop :=
 pEq 3 w0 (.pointer none) fun x7 =>
 pCond x7
 (R (.tuple #[(str []), (.bool false)]) H0)
 (pNil w0 fun x10 =>
 pFieldAddr 2 x10 fun x11 =>
 pLoad H0 x11 fun x12 =>
 pNil w0 fun x14 =>
 pFieldAddr 0 x14 fun x15 =>
 pLoad H0 x15 fun x16 =>
 pLookup H0 0 (str []) true x12 x16 fun x17 =>
 pExtract 0 x17 fun x18 =>
 pExtract 1 x17 fun x19 =>
 ∃ J_1 : Heap → Prop, (∀ _ : Env, ∀ H_2 : Heap, J_1 H_2 →
 R (.tuple #[x18, x19]) H_2) ∧
 pCond x19
 (pNil w0 fun x22 =>
 pFieldAddr 2 x22 fun x23 =>
 pLoad H0 x23 fun x24 =>
 pNil w0 fun x26 =>
 pFieldAddr 0 x26 fun x27 =>
 pLoad H0 x27 fun x28 =>
 pDelete H0 0 x24 x28 fun _ H_3 =>
 pNil w0 fun x30 =>
 pFieldAddr 3 x30 fun x31 =>
 pLoad H_3 x31 fun x32 =>
 pLenS x18 fun x34 =>
 pSub x32 x34 fun x35 =>
 pNil w0 fun x36 =>
 pFieldAddr 3 x36 fun x37 =>
 pStore H_3 x37 x35 fun _ H_4 =>
 pNil w0 fun x39 =>
 pFieldAddr 0 x39 fun x40 =>
 pLoad H_4 x40 fun x41 =>
 pAdd x41 (.int .u32 1) fun x42 =>
 pNil w0 fun x43 =>
 pFieldAddr 0 x43 fun x44 =>
 pStore H_4 x44 x42 fun _ H_5 =>
 J_1 H_5)
 (J_1 H0))
set_option maxRecDepth 100000 in
theorem recv_Window_Next.vc (w0 : Value) (H0 : Heap) (R : Value → Heap → Prop) (h : recv_Window_Next.res w0 H0 R) : CallsH Try.prog 14 #[w0] H0 R := by
  have e : vcFn Try.prog Try.C Try.f14 recv_Window_Next.an [w0] H0 R = recv_Window_Next.res w0 H0 R := by kernel_rfl
  exact vcFn_sound Try.callable Try.mixed Try.func14 (by kernel_rfl) (e.mpr h)

def recv_Window_Take.an : Ann := (.seq (.reg (.op 0 [] .nil)) (.seq (.seq (.drw [0, 1, 3, 7, 15, 31, 63, 127, 255, 255, 767, 1791, 3839, 255, 8447, 24831, 57599, 131071, 262143, 524287] (.op 0 [] (.op 1 [] (.op 2 [] (.grp 2 (.op 3 [] (.op 4 [] (.op 5 [] .nil))) 6 (.op 7 [] (.grp 7 (.op 8 [] (.op 9 [] (.op 10 [] (.op 11 [] (.op 12 [] (.op 13 [] (.op 14 [] (.op 15 [] (.op 16 [] (.op 17 [] (.op 18 [] .nil))))))))))) 19 .nil))))))) (.cond (.seq (.reg (.op 0 [] .nil)) .leaf) .leaf)) (.seq (.seq (.reg (.op 0 [] (.op 1 [] (.op 2 [] (.op 3 [] (.op 4 [] (.op 5 [] (.op 6 [] (.op 7 [] (.op 8 [] (.op 9 [] (.op 10 [] .nil)))))))))))) (.seq (.reg (.op 0 [] .nil)) (.cond (.seq (.reg (.op 0 [] .nil)) .leaf) .leaf))) (.seq (.reg (.op 0 [] (.op 1 [] (.op 2 [] (.op 3 [] (.op 4 [] (.op 5 [] (.op 6 [] .nil)))))))) (.seq (.reg (.op 0 [] (.op 1 [] (.op 2 [] (.op 3 [] (.op 4 [] (.op 5 [] (.op 6 [] (.op 7 [] (.op 8 [] (.op 9 [] .nil))))))))))) (.seq (.reg (.op 0 [] .nil)) .leaf))))))
/-- (*lighter/recv.Window).Take -/
def recv_Window_Take.res (w0 : Value) (n1 : Value) (text2 : Value) (H0 : Heap) (R : Value → Heap → Prop) : Prop :=
 pEq 3 w0 (.pointer none) fun x10 =>
 pOr x10 (fun J_1 =>
 pLenS text2 fun x13 =>
 pGt x13 (.int .i64 256) fun x14 =>
 J_1 x14 H0) H0 fun x15 H_2 => ∀ _ : Env,
 pOr x15 (fun J_3 =>
 pNil w0 fun x19 =>
 pFieldAddr 0 x19 fun x20 =>
 pLoad H_2 x20 fun x21 =>
 pNil w0 fun x23 =>
 pFieldAddr 1 x23 fun x24 =>
 pLoad H_2 x24 fun x25 =>
 CallsH Try.prog 35 #[n1, x21, x25] H_2 fun x26 H_5 =>
 pNot x26 fun x27 =>
 J_3 x27 H_5) H_2 fun x28 H_4 => ∀ _ : Env,
 pCond x28
 (R (.bool false) H_4)
 (pNil w0 fun x31 =>
 pFieldAddr 2 x31 fun x32 =>
 pLoad H_4 x32 fun x33 =>
 pLookup H_4 0 (str []) true x33 n1 fun x35 =>
 pExtract 0 x35 fun x36 =>
 pExtract 1 x35 fun x37 =>
 pCond x37
 (R (.bool false) H_4)
 (pNil w0 fun x40 =>
 pFieldAddr 2 x40 fun x41 =>
 pLoad H_4 x41 fun x42 =>
 pMapSet H_4 0 x42 n1 text2 fun _ H_6 =>
 pNil w0 fun x46 =>
 pFieldAddr 3 x46 fun x47 =>
 pLoad H_6 x47 fun x48 =>
 pLenS text2 fun x50 =>
 pAdd x48 x50 fun x51 =>
 pNil w0 fun x52 =>
 pFieldAddr 3 x52 fun x53 =>
 pStore H_6 x53 x51 fun _ H_7 =>
 R (.bool true) H_7))
set_option maxRecDepth 100000 in
theorem recv_Window_Take.vc (w0 : Value) (n1 : Value) (text2 : Value) (H0 : Heap) (R : Value → Heap → Prop) (h : recv_Window_Take.res w0 n1 text2 H0 R) : CallsH Try.prog 17 #[w0, n1, text2] H0 R := by
  have e : vcFn Try.prog Try.C Try.f17 recv_Window_Take.an [w0, n1, text2] H0 R = recv_Window_Take.res w0 n1 text2 H0 R := by kernel_rfl
  exact vcFn_sound Try.callable Try.mixed Try.func17 (by kernel_rfl) (e.mpr h)

def recv_Window_Ack.an : Ann := (.seq (.reg (.op 0 [] (.op 1 [] .nil))) (.seq (.seq (.reg (.op 0 [] (.op 1 [] .nil))) (.cond (.seq (.reg (.op 0 [] (.op 1 [] .nil))) .leaf) .leaf)) (.seq (.reg (.op 0 [] .nil)) (.seq (.seq (.reg (.op 0 [] (.op 1 [] (.op 2 [] (.op 3 [] (.op 4 [] .nil)))))) (.block (.loop [4] [4, 5, 13, 14, 15, 16, 17, 18, 19, 20, 21, 22, 23, 24, 25, 26, 27, 28, 29, 30, 31, 32] (.seq (.reg (.op 0 [] (.op 1 [] .nil))) (.seq (.cond .leaf .leaf) (.block (.seq (.reg (.op 0 [] (.op 1 [] (.op 2 [] .nil)))) (.seq (.reg (.op 0 [] (.op 1 [] (.op 2 [] (.op 3 [] (.op 4 [] (.op 5 [] .nil))))))) (.cond (.reg (.op 0 [] (.op 1 [] (.op 2 [] (.op 3 [] (.op 4 [] (.op 5 [] (.op 6 [] (.op 7 [] (.op 8 [] (.op 9 [] (.op 10 [] .nil)))))))))))) .leaf))))))))) (.seq (.reg (.op 0 [] (.op 1 [] (.op 2 [] (.op 3 [] (.op 4 [] (.op 5 [] (.op 6 [] .nil)))))))) .leaf)))))
/-- (*lighter/recv.Window).Ack -/
def recv_Window_Ack.res (w0 : Value) (H0 : Heap) (R : Value → Heap → Prop) : Prop :=
 pEq 3 w0 (.pointer none) fun x7 =>
 pCond x7
 (R (.tuple #[(.int .u32 0), (.int .u32 0)]) H0)
 (pNil w0 fun x9 =>
 pFieldAddr 2 x9 fun x10 =>
 pLoad H0 x10 fun x11 =>
 pSem H0 Try.prog (Instr.range 79 x11) fun x12 H_1 =>
 ∃ (I_2 : Value → Heap → Prop) (m_3 : Value → Heap → Nat), I_2 (.int .u32 0) H_1 ∧
 ∀ _ : Env, ∀ bits4 : Value, ∀ H_4 : Heap, I_2 bits4 H_4 →
 pSem H_4 Try.prog (Instr.next x12 false 0) fun x13 H_5 =>
 pExtract 0 x13 fun x14 =>
 pCond x14
 (pSem H_5 Try.prog (Instr.entry x12) fun x15 H_6 =>
 pExtract 0 x15 fun x16 =>
 pNil w0 fun x19 =>
 pFieldAddr 0 x19 fun x20 =>
 pLoad H_6 x20 fun x21 =>
 pNe 0 x16 x21 fun x22 =>
 pCond x22
 (pNil w0 fun x26 =>
 pFieldAddr 0 x26 fun x27 =>
 pLoad H_6 x27 fun x28 =>
 pSub x16 x28 fun x29 =>
 pSub x29 (.int .u32 1) fun x30 =>
 pShl (.int .u32 1) x30 fun x31 =>
 pBits .or bits4 x31 fun x32 =>
 I_2 x32 H_6 ∧ m_3 x32 H_6 < m_3 bits4 H_4)
 (I_2 bits4 H_6 ∧ m_3 bits4 H_6 < m_3 bits4 H_4))
 (pNil w0 fun x34 =>
 pFieldAddr 0 x34 fun x35 =>
 pLoad H_5 x35 fun x36 =>
 R (.tuple #[x36, bits4]) H_5))
set_option maxRecDepth 100000 in
theorem recv_Window_Ack.vc (w0 : Value) (H0 : Heap) (R : Value → Heap → Prop) (h : recv_Window_Ack.res w0 H0 R) : CallsH Try.prog 18 #[w0] H0 R := by
  have e : vcFn Try.prog Try.C Try.f18 recv_Window_Ack.an [w0] H0 R = recv_Window_Ack.res w0 H0 R := by kernel_rfl
  exact vcFn_sound Try.callable Try.mixed Try.func18 (by kernel_rfl) (e.mpr h)

def recv_Window_Held.an : Ann := (.seq (.reg (.op 0 [] .nil)) (.seq (.seq (.reg (.op 0 [] (.op 1 [] .nil))) (.cond (.seq (.reg (.op 0 [] .nil)) .leaf) .leaf)) (.seq (.reg (.op 0 [] (.op 1 [] (.op 2 [] (.op 3 [] (.op 4 [] .nil)))))) .leaf)))
/-- (*lighter/recv.Window).Held -/
def recv_Window_Held.res (w0 : Value) (H0 : Heap) (R : Value → Heap → Prop) : Prop :=
 pEq 3 w0 (.pointer none) fun x4 =>
 pCond x4
 (R (.int .i64 0) H0)
 (pNil w0 fun x6 =>
 pFieldAddr 3 x6 fun x7 =>
 pLoad H0 x7 fun x8 =>
 R x8 H0)
set_option maxRecDepth 100000 in
theorem recv_Window_Held.vc (w0 : Value) (H0 : Heap) (R : Value → Heap → Prop) (h : recv_Window_Held.res w0 H0 R) : CallsH Try.prog 20 #[w0] H0 R := by
  have e : vcFn Try.prog Try.C Try.f20 recv_Window_Held.an [w0] H0 R = recv_Window_Held.res w0 H0 R := by kernel_rfl
  exact vcFn_sound Try.callable Try.mixed Try.func20 (by kernel_rfl) (e.mpr h)

end Go.Proofs.Ytmolkhfohpfhaaa
