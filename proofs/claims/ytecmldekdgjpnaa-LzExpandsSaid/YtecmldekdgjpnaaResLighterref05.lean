/- The residuals of package lighterref05's functions, printed by resid.py. -/
import Derived.Test.YtecmldekdgjpnaaVcSeat
namespace Go.Proofs.Ytecmldekdgjpnaa
open Go Go.Vc Go.Proofs
set_option linter.unusedVariables false
set_option maxHeartbeats 4000000
def lighterref05_Good.an : Ann := (.seq (.reg (.op 0 [] (.op 1 [] .nil))) (.seq (.seq (.reg (.op 0 [] (.op 1 [] (.op 2 [] .nil)))) (.cond (.seq (.reg (.op 0 [] (.op 1 [] (.op 2 [] (.op 3 [] .nil))))) .leaf) .leaf)) (.seq (.reg (.op 0 [] (.op 1 [] (.op 2 [] (.op 3 [] (.grp 3 (.op 4 [] (.op 5 [] (.op 6 [] .nil))) 7 (.op 8 [] (.grp 8 (.op 9 [] (.op 10 [] (.op 11 [] .nil))) 12 (.op 13 [] (.grp 13 (.op 14 [] (.op 15 [] (.op 16 [] .nil))) 17 (.op 18 [] (.grp 18 (.op 19 [] (.op 20 [] (.op 21 [] .nil))) 22 (.op 23 [] .nil))))))))))))) .leaf)))
/-- lighter/lighterref05.Good -/
def lighterref05_Good.res (t0 : Value) (H0 : Heap) (R : Value → Heap → Prop) : Prop :=
 pBox H0 50 t0 fun t1 H_1 =>
 pFieldAddr 1 t1 fun x3 =>
 pLoad H_1 x3 fun x4 =>
 pEq 0 x4 (.int .i64 0) fun x5 =>
 pCond x5
 (pFieldAddr 2 t1 fun x6 =>
 pLoad H_1 x6 fun x7 =>
 pEq 0 x7 (.int .i64 0) fun x8 =>
 R x8 H_1)
 (pFieldAddr 0 t1 fun x9 =>
 pLoad H_1 x9 fun x10 =>
 pEq 0 x10 (.int .u8 0) fun x11 =>
 pAnd x11 (fun J_2 =>
 pFieldAddr 1 t1 fun x13 =>
 pLoad H_1 x13 fun x14 =>
 pGe x14 (.int .i64 3) fun x15 =>
 J_2 x15 H_1) H_1 fun x16 H_3 => ∀ _ : Env,
 pAnd x16 (fun J_4 =>
 pFieldAddr 1 t1 fun x18 =>
 pLoad H_3 x18 fun x19 =>
 pLe x19 (.int .i64 258) fun x20 =>
 J_4 x20 H_3) H_3 fun x21 H_5 => ∀ _ : Env,
 pAnd x21 (fun J_6 =>
 pFieldAddr 2 t1 fun x23 =>
 pLoad H_5 x23 fun x24 =>
 pGe x24 (.int .i64 1) fun x25 =>
 J_6 x25 H_5) H_5 fun x26 H_7 => ∀ _ : Env,
 pAnd x26 (fun J_8 =>
 pFieldAddr 2 t1 fun x28 =>
 pLoad H_7 x28 fun x29 =>
 pLe x29 (.int .i64 32768) fun x30 =>
 J_8 x30 H_7) H_7 fun x31 H_9 => ∀ _ : Env,
 R x31 H_9)
set_option maxRecDepth 100000 in
theorem lighterref05_Good.vc (t0 : Value) (H0 : Heap) (R : Value → Heap → Prop) (h : lighterref05_Good.res t0 H0 R) : CallsH Try.prog 21 #[t0] H0 R := by
  have e : vcFn Try.prog Try.C Try.f21 lighterref05_Good.an [t0] H0 R = lighterref05_Good.res t0 H0 R := by kernel_rfl
  exact vcFn_sound Try.callable Try.mixed Try.func21 (by kernel_rfl) (e.mpr h)

def lighterref05_Expand.an : Ann := (.seq (.reg (.op 0 [] (.op 1 [] .nil))) (.seq (.reg (.op 0 [] (.op 1 [] .nil))) (.seq (.seq (.reg (.op 0 [] .nil)) (.block (.loop [6, 7] [4, 5, 6, 7, 8, 9, 11, 12, 13, 14, 15, 16, 17, 18, 19, 20, 21, 22, 23, 24, 25, 26, 27, 28, 29, 30, 31, 32, 33, 34, 35, 36, 37, 38, 39, 40, 41, 42, 43, 44, 45, 46, 47, 48, 49, 50, 51, 52, 53, 54, 55, 56, 57, 58, 59, 60] (.seq (.seq (.reg (.op 0 [] (.op 1 [] (.op 2 [] (.op 3 [] .nil))))) (.cond .leaf .leaf)) (.seq (.block (.seq (.reg (.op 0 [] (.op 1 [] (.op 2 [] (.op 3 [] (.op 4 [] (.op 5 [] .nil))))))) (.seq (.seq (.reg (.op 0 [] (.op 1 [] (.op 2 [] (.op 3 [] (.grp 3 (.op 4 [] (.op 5 [] (.op 6 [] (.op 7 [] (.op 8 [] .nil))))) 9 .nil)))))) (.cond (.seq (.reg (.op 0 [] (.op 1 [] .nil))) .leaf) .leaf)) (.cut [6] [6, 31, 32, 33, 34, 35, 36, 37, 38, 39] (.seq (.reg (.op 0 [] (.op 1 [] (.op 2 [] .nil)))) (.cond (.reg (.op 0 [] (.op 1 [] (.op 2 [] (.op 3 [] (.op 4 [] (.op 5 [] (.op 6 [] .nil)))))))) .leaf)) (.seq (.reg (.op 0 [] .nil)) (.block (.loop [6, 9] [6, 9, 40, 41, 42, 43, 44, 45, 46, 47, 48, 49, 50, 51, 52, 53, 54, 55, 56, 57, 58, 59, 60] (.seq (.seq (.reg (.op 0 [] (.op 1 [] (.op 2 [] (.op 3 [] .nil))))) (.cond .leaf .leaf)) (.seq (.block (.reg (.op 0 [] (.op 1 [] (.op 2 [] (.op 3 [] (.op 4 [] (.op 5 [] (.op 6 [] (.op 7 [] (.op 8 [] (.op 9 [] (.op 10 [] (.op 11 [] (.op 12 [] (.op 13 [] (.op 14 [] (.op 15 [] .nil)))))))))))))))))) (.reg (.op 0 [] (.op 1 [] (.op 2 [] .nil))))))))))))) (.reg (.op 0 [] (.op 1 [] (.op 2 [] .nil))))))))) (.seq (.reg (.op 0 [] (.op 1 [] (.op 2 [] (.op 3 [] (.op 4 [] (.op 5 [] .nil))))))) .leaf))))
/-- lighter/lighterref05.Expand -/
def lighterref05_Expand.res (ahead0 : Value) (l1 : Value) (H0 : Heap) (R : Value → Heap → Prop) : Prop :=
 ∃ (I_1 : Value → Value → Heap → Prop) (m_2 : Value → Value → Heap → Nat), I_1 ahead0 (.int .i64 0) H0 ∧
 ∀ _ : Env, ∀ s6 : Value, ∀ i7 : Value, ∀ H_3 : Heap, I_1 s6 i7 H_3 →
 pLen l1 fun x13 =>
 pLt i7 x13 fun x14 =>
 pCond x14
 (pIdxSl 3 l1 i7 fun x19 =>
 pLoadN H_3 3 x19 fun x20 =>
 pBox H_3 50 (.agg #[(.int .u8 0), (.int .i64 0), (.int .i64 0)]) fun t8 H_4 =>
 pStoreN H_4 3 t8 x20 fun _ H_5 =>
 pLoadN H_5 3 t8 fun x21 =>
 CallsH Try.prog 21 #[x21] H_5 fun x22 H_6 =>
 pNot x22 fun x23 =>
 pOr x23 (fun J_7 =>
 pFieldAddr 2 t8 fun x25 =>
 pLoad H_6 x25 fun x26 =>
 pLenS s6 fun x28 =>
 pGt x26 x28 fun x29 =>
 J_7 x29 H_6) H_6 fun x30 H_8 => ∀ _ : Env,
 pCond x30
 (R (.tuple #[(str []), (.bool false)]) H_8)
 (∃ J_9 : Value → Heap → Prop, (∀ _ : Env, ∀ s6' : Value, ∀ H_10 : Heap, J_9 s6' H_10 →
 ∃ (I_11 : Value → Value → Heap → Prop) (m_12 : Value → Value → Heap → Nat), I_11 s6' (.int .i64 0) H_10 ∧
 ∀ _ : Env, ∀ s6'' : Value, ∀ k9 : Value, ∀ H_13 : Heap, I_11 s6'' k9 H_13 →
 pFieldAddr 1 t8 fun x41 =>
 pLoad H_13 x41 fun x42 =>
 pLt k9 x42 fun x43 =>
 pCond x43
 (pLenS s6'' fun x49 =>
 pFieldAddr 2 t8 fun x50 =>
 pLoad H_13 x50 fun x51 =>
 pSub x49 x51 fun x52 =>
 pLenS s6'' fun x54 =>
 pFieldAddr 2 t8 fun x55 =>
 pLoad H_13 x55 fun x56 =>
 pSub x54 x56 fun x57 =>
 pAdd x57 (.int .i64 1) fun x58 =>
 pSlStr s6'' (some x52) (some x58) fun x59 =>
 pAdd s6'' x59 fun x60 =>
 pAdd k9 (.int .i64 1) fun x45 =>
 I_11 x60 x45 H_13 ∧ m_12 x60 x45 H_13 < m_12 s6'' k9 H_13)
 (pAdd i7 (.int .i64 1) fun x16 =>
 I_1 s6'' x16 H_13 ∧ m_2 s6'' x16 H_13 < m_2 s6 i7 H_3)) ∧
 pFieldAddr 1 t8 fun x31 =>
 pLoad H_8 x31 fun x32 =>
 pEq 0 x32 (.int .i64 0) fun x33 =>
 pCond x33
 (pFieldAddr 0 t8 fun x35 =>
 pLoad H_8 x35 fun x36 =>
 pBuildSl H_8 5 1 [(.int .u8 0)] [(0, 1, x36)] fun x37 H_14 =>
 pStrOf H_14 x37 fun x38 =>
 pAdd s6 x38 fun x39 =>
 J_9 x39 H_14)
 (J_9 s6 H_8)))
 (pLenS ahead0 fun x63 =>
 pSlStr s6 (some x63) none fun x64 =>
 R (.tuple #[x64, (.bool true)]) H_3)
set_option maxRecDepth 100000 in
theorem lighterref05_Expand.vc (ahead0 : Value) (l1 : Value) (H0 : Heap) (R : Value → Heap → Prop) (h : lighterref05_Expand.res ahead0 l1 H0 R) : CallsH Try.prog 23 #[ahead0, l1] H0 R := by
  have e : vcFn Try.prog Try.C Try.f23 lighterref05_Expand.an [ahead0, l1] H0 R = lighterref05_Expand.res ahead0 l1 H0 R := by kernel_rfl
  exact vcFn_sound Try.callable Try.mixed Try.func23 (by kernel_rfl) (e.mpr h)

end Go.Proofs.Ytecmldekdgjpnaa
