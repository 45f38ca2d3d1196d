/- The residuals of package canon's functions, printed by resid.py. -/
import Derived.Test.YtcbaklebiohedaaVcSeat
namespace Go.Proofs.Ytcbaklebiohedaa
open Go Go.Vc Go.Proofs
set_option linter.unusedVariables false
set_option maxHeartbeats 4000000
def canon_New.an : Ann := (.seq (.reg (.op 0 [] (.op 1 [] .nil))) (.seq (.reg (.op 0 [] .nil)) (.seq (.seq (.reg (.op 0 [] (.op 1 [] (.op 2 [] (.op 3 [] (.grp 3 (.op 4 [] (.op 5 [] (.op 6 [] .nil))) 7 .nil)))))) (.cond (.seq (.reg (.op 0 [] (.op 1 [] .nil))) .leaf) .leaf)) (.seq (.reg (.op 0 [] (.op 1 [] (.op 2 [] (.op 3 [] (.op 4 [] .nil)))))) (.seq (.reg (.op 0 [] (.op 1 [] (.op 2 [] .nil)))) (.seq (.block (.seq (.reg (.op 0 [] (.op 1 [] (.op 2 [] .nil)))) (.cond (.seq (.reg (.op 0 [] (.op 1 [] .nil))) .leaf) (.seq (.reg (.op 0 [] (.op 1 [] (.op 2 [] (.grp 2 (.op 3 [] (.op 4 [] (.grp 4 (.op 5 [] (.op 6 [] .nil)) 7 (.op 8 [] .nil)))) 9 (.op 10 [] .nil)))))) (.cond (.seq (.reg (.op 0 [] (.op 1 [] .nil))) .leaf) .leaf))))) (.seq (.reg (.op 0 [] (.op 1 [] .nil))) (.seq (.reg (.op 0 [] (.op 1 [] (.op 2 [] .nil)))) .leaf))))))))
/-- lighter/canon.New -/
def canon_New.res (lengths0 : Value) (loose1 : Value) (H0 : Heap) (R : Value → Heap → Prop) : Prop :=
 pLen lengths0 fun x10 =>
 pGt x10 (.int .i64 288) fun x11 =>
 pOr x11 (fun J_1 =>
 CallsH Try.prog 28 #[lengths0, (.func (.func 27) #[] #[])] H0 fun x15 H_3 =>
 J_1 x15 H_3) H0 fun x16 H_2 => ∀ _ : Env,
 pCond x16
 (R (.tuple #[(.pointer none), (.int .i64 1)]) H_2)
 (CallsH Try.prog 29 #[lengths0] H_2 fun x18 H_4 =>
 pBuild [(.slice none 0 0), (.slice none 0 0), (.int .i64 0), (.int .i64 0), (.int .i64 0), (.int .i64 0), (.int .i64 0), (.int .i64 0), (.int .i64 0), (.int .i64 0), (.int .i64 0), (.int .i64 0), (.int .i64 0), (.int .i64 0), (.int .i64 0), (.int .i64 0), (.int .i64 0), (.int .i64 0), (.slice none 0 0)] [(0, 1, x18)] fun x19 =>
 pBox H_4 65 x19 fun x20 H_5 =>
 CallsH Try.prog 30 #[x20] H_5 fun x22 H_6 =>
 pLt x22 (.int .i64 0) fun x25 =>
 pCond x25
 (R (.tuple #[(.pointer none), (.int .i64 5)]) H_6)
 (pGt x22 (.int .i64 0) fun x28 =>
 pAnd x28 (fun J_7 =>
 pAnd loose1 (fun J_9 =>
 CallsH Try.prog 31 #[x20] H_6 fun x33 H_11 =>
 J_9 x33 H_11) H_6 fun x34 H_10 => ∀ _ : Env,
 pNot x34 fun x35 =>
 J_7 x35 H_10) H_6 fun x36 H_8 => ∀ _ : Env,
 pCond x36
 (R (.tuple #[(.pointer none), (.int .i64 4)]) H_8)
 (CallsH Try.prog 32 #[x20] H_8 fun x38 H_12 =>
 R (.tuple #[x20, (.int .i64 0)]) H_12)))
set_option maxRecDepth 100000 in
theorem canon_New.vc (lengths0 : Value) (loose1 : Value) (H0 : Heap) (R : Value → Heap → Prop) (h : canon_New.res lengths0 loose1 H0 R) : CallsH Try.prog 9 #[lengths0, loose1] H0 R := by
  have e : vcFn Try.prog Try.C Try.f9 canon_New.an [lengths0, loose1] H0 R = canon_New.res lengths0 loose1 H0 R := by kernel_rfl
  exact vcFn_sound Try.callable Try.mixed Try.func9 (by kernel_rfl) (e.mpr h)

def canon_Code_Word.an : Ann := (.seq (.reg (.op 0 [] (.op 1 [] .nil))) (.seq (.seq (.reg (.op 0 [] (.op 1 [] (.op 2 [] (.grp 2 (.op 3 [] (.op 4 [] .nil)) 5 (.op 6 [] (.grp 6 (.op 7 [] (.op 8 [] (.op 9 [] (.op 10 [] (.op 11 [] (.op 12 [] (.op 13 [] .nil))))))) 14 .nil))))))) (.cond (.seq (.reg (.op 0 [] (.op 1 [] .nil))) .leaf) .leaf)) (.seq (.drw [0, 1, 3, 7, 0, 31, 63, 127, 0, 256, 768, 1792, 0, 7936, 16128, 32512, 255, 131071] (.op 0 [] (.op 1 [] (.op 2 [] (.op 3 [] (.op 4 [] (.op 5 [] (.op 6 [] (.op 7 [] (.op 8 [] (.op 9 [] (.op 10 [] (.op 11 [] (.op 12 [] (.op 13 [] (.op 14 [] (.op 15 [] (.op 16 [] (.op 17 [] .nil))))))))))))))))))) .leaf)))
/-- (*lighter/canon.Code).Word -/
def canon_Code_Word.res (c0 : Value) (symbol1 : Value) (H0 : Heap) (R : Value → Heap → Prop) : Prop :=
 pEq 3 c0 (.pointer none) fun x7 =>
 pOr x7 (fun J_1 =>
 pLt symbol1 (.int .i64 0) fun x10 =>
 J_1 x10 H0) H0 fun x11 H_2 => ∀ _ : Env,
 pOr x11 (fun J_3 =>
 pNil c0 fun x15 =>
 pFieldAddr 1 x15 fun x16 =>
 pLoad H_2 x16 fun x17 =>
 pLen x17 fun x18 =>
 pGe symbol1 x18 fun x19 =>
 J_3 x19 H_2) H_2 fun x20 H_4 => ∀ _ : Env,
 pCond x20
 (R (.tuple #[(.int .u64 0), (.int .i64 0)]) H_4)
 (pNil c0 fun x22 =>
 pFieldAddr 1 x22 fun x23 =>
 pLoad H_4 x23 fun x24 =>
 pIdxSl 2 x24 symbol1 fun x26 =>
 pFieldAddr 0 x26 fun x27 =>
 pLoad H_4 x27 fun x28 =>
 pNil c0 fun x30 =>
 pFieldAddr 1 x30 fun x31 =>
 pLoad H_4 x31 fun x32 =>
 pIdxSl 2 x32 symbol1 fun x34 =>
 pFieldAddr 1 x34 fun x35 =>
 pLoad H_4 x35 fun x36 =>
 R (.tuple #[x28, x36]) H_4)
set_option maxRecDepth 100000 in
theorem canon_Code_Word.vc (c0 : Value) (symbol1 : Value) (H0 : Heap) (R : Value → Heap → Prop) (h : canon_Code_Word.res c0 symbol1 H0 R) : CallsH Try.prog 10 #[c0, symbol1] H0 R := by
  have e : vcFn Try.prog Try.C Try.f10 canon_Code_Word.an [c0, symbol1] H0 R = canon_Code_Word.res c0 symbol1 H0 R := by kernel_rfl
  exact vcFn_sound Try.callable Try.mixed Try.func10 (by kernel_rfl) (e.mpr h)

def canon_Code_Lengths.an : Ann := (.seq (.reg (.op 0 [] .nil)) (.seq (.seq (.reg (.op 0 [] (.op 1 [] .nil))) (.cond (.seq (.reg (.op 0 [] .nil)) .leaf) .leaf)) (.seq (.reg (.op 0 [] (.op 1 [] (.op 2 [] (.op 3 [] (.op 4 [] (.op 5 [] .nil))))))) .leaf)))
/-- (*lighter/canon.Code).Lengths -/
def canon_Code_Lengths.res (c0 : Value) (H0 : Heap) (R : Value → Heap → Prop) : Prop :=
 pEq 3 c0 (.pointer none) fun x4 =>
 pCond x4
 (R (.slice none 0 0) H0)
 (pNil c0 fun x6 =>
 pFieldAddr 0 x6 fun x7 =>
 pLoad H0 x7 fun x8 =>
 CallsH Try.prog 29 #[x8] H0 fun x9 H_1 =>
 R x9 H_1)
set_option maxRecDepth 100000 in
theorem canon_Code_Lengths.vc (c0 : Value) (H0 : Heap) (R : Value → Heap → Prop) (h : canon_Code_Lengths.res c0 H0 R) : CallsH Try.prog 12 #[c0] H0 R := by
  have e : vcFn Try.prog Try.C Try.f12 canon_Code_Lengths.an [c0] H0 R = canon_Code_Lengths.res c0 H0 R := by kernel_rfl
  exact vcFn_sound Try.callable Try.mixed Try.func12 (by kernel_rfl) (e.mpr h)

def canon_Share.an : Ann := (.seq (.reg (.op 0 [] .nil)) (.seq (.seq (.reg (.op 0 [] (.op 1 [] (.op 2 [] .nil)))) (.cond (.seq (.reg (.op 0 [] .nil)) .leaf) .leaf)) (.seq (.reg (.op 0 [] .nil)) (.seq (.seq (.reg (.op 0 [] (.op 1 [] (.op 2 [] .nil)))) (.block (.loop [3, 11] [2, 3, 5, 11, 12, 13, 14, 15, 16, 17, 18, 19, 20, 21, 22, 23, 24, 25, 26, 27, 28, 29, 30] (.seq (.reg (.op 0 [] .nil)) (.seq (.cond .leaf .leaf) (.seq (.block (.seq (.reg (.op 0 [] (.op 1 [] (.op 2 [] .nil)))) (.block (.seq (.reg (.op 0 [] (.op 1 [] (.op 2 [] (.grp 2 (.op 3 [] (.op 4 [] .nil)) 5 (.op 6 [] .nil)))))) (.cond (.seq (.reg (.op 0 [] .nil)) .leaf) (.seq (.reg (.op 0 [] (.op 1 [] (.op 2 [] .nil)))) (.cond (.reg (.op 0 [] (.op 1 [] (.op 2 [] (.op 3 [] (.op 4 [] (.op 5 [] .nil))))))) .leaf))))))) (.reg (.op 0 [] (.op 1 [] .nil))))))))) (.seq (.reg (.op 0 [] (.op 1 [] .nil))) .leaf)))))
/-- lighter/canon.Share -/
def canon_Share.res (lengths0 : Value) (H0 : Heap) (R : Value → Heap → Prop) : Prop :=
 pLen lengths0 fun x7 =>
 pGt x7 (.int .i64 288) fun x8 =>
 pCond x8
 (R (.int .i64 (-1)) H0)
 (pLen lengths0 fun x10 =>
 ∃ (I_1 : Value → Value → Heap → Prop) (m_2 : Value → Value → Heap → Nat), I_1 (.int .i64 0) (.int .i64 0) H0 ∧
 ∀ _ : Env, ∀ sum3 : Value, ∀ x11 : Value, ∀ H_3 : Heap, I_1 sum3 x11 H_3 →
 pLt x11 x10 fun x12 =>
 pCond x12
 (pIdxSl 1 lengths0 x11 fun x13 =>
 pLoad H_3 x13 fun x14 =>
 pLt x14 (.int .i64 0) fun x17 =>
 pOr x17 (fun J_4 =>
 pGt x14 (.int .i64 15) fun x20 =>
 J_4 x20 H_3) H_3 fun x21 H_5 => ∀ _ : Env,
 pCond x21
 (R (.int .i64 (-1)) H_5)
 (pGt x14 (.int .i64 0) fun x24 =>
 pCond x24
 (pSub (.int .i64 15) x14 fun x27 =>
 pShl (.int .i64 1) x27 fun x28 =>
 pAdd sum3 x28 fun x29 =>
 pAdd x11 (.int .i64 1) fun x30 =>
 I_1 x29 x30 H_5 ∧ m_2 x29 x30 H_5 < m_2 sum3 x11 H_3)
 (pAdd x11 (.int .i64 1) fun x30 =>
 I_1 sum3 x30 H_5 ∧ m_2 sum3 x30 H_5 < m_2 sum3 x11 H_3)))
 (R sum3 H_3))
set_option maxRecDepth 100000 in
theorem canon_Share.vc (lengths0 : Value) (H0 : Heap) (R : Value → Heap → Prop) (h : canon_Share.res lengths0 H0 R) : CallsH Try.prog 15 #[lengths0] H0 R := by
  have e : vcFn Try.prog Try.C Try.f15 canon_Share.an [lengths0] H0 R = canon_Share.res lengths0 H0 R := by kernel_rfl
  exact vcFn_sound Try.callable Try.mixed Try.func15 (by kernel_rfl) (e.mpr h)

def canon_Fill.an : Ann := (.seq (.reg (.op 0 [] .nil)) (.seq (.reg (.op 0 [] (.op 1 [] (.op 2 [] .nil)))) (.seq (.seq (.reg (.op 0 [] (.op 1 [] (.op 2 [] (.grp 2 (.op 3 [] (.op 4 [] .nil)) 5 .nil))))) (.cond (.seq (.reg (.op 0 [] .nil)) .leaf) .leaf)) (.seq (.reg (.op 0 [] (.op 1 [] .nil))) (.seq (.seq (.reg (.op 0 [] (.op 1 [] (.op 2 [] .nil)))) (.block (.loop [17] [5, 17, 18, 19, 20, 21, 22, 23, 24, 25, 26, 27, 28, 29] (.seq (.reg (.op 0 [] .nil)) (.seq (.cond .leaf .leaf) (.seq (.block (.seq (.reg (.op 0 [] (.op 1 [] .nil))) (.reg (.op 0 [] (.op 1 [] (.op 2 [] (.op 3 [] (.op 4 [] (.op 5 [] (.op 6 [] (.op 7 [] (.op 8 [] (.op 9 [] .nil))))))))))))) (.reg (.op 0 [] (.op 1 [] .nil))))))))) (.seq (.reg (.op 0 [] (.op 1 [] .nil))) .leaf))))))
/-- lighter/canon.Fill -/
def canon_Fill.res (lengths0 : Value) (H0 : Heap) (R : Value → Heap → Prop) : Prop :=
 CallsH Try.prog 15 #[lengths0] H0 fun x7 H_1 =>
 pLt x7 (.int .i64 0) fun x9 =>
 pOr x9 (fun J_2 =>
 pGt x7 (.int .i64 32768) fun x12 =>
 J_2 x12 H_1) H_1 fun x13 H_3 => ∀ _ : Env,
 pCond x13
 (R (.slice none 0 0) H_3)
 (pMakeSl H_3 3 8 [(.int .i64 0)] (.int .i64 16) (.int .i64 16) fun x14 H_4 =>
 pLen x14 fun x16 =>
 ∃ (I_5 : Value → Heap → Prop) (m_6 : Value → Heap → Nat), I_5 (.int .i64 0) H_4 ∧
 ∀ _ : Env, ∀ x17 : Value, ∀ H_7 : Heap, I_5 x17 H_7 →
 pLt x17 x16 fun x18 =>
 pCond x18
 (pSub (.int .i64 32768) x7 fun x23 =>
 pSub (.int .i64 15) x17 fun x25 =>
 pShr x23 x25 fun x26 =>
 pBits .and x26 (.int .i64 1) fun x27 =>
 pIdxSl 1 x14 x17 fun x28 =>
 pStore H_7 x28 x27 fun _ H_8 =>
 pAdd x17 (.int .i64 1) fun x29 =>
 I_5 x29 H_8 ∧ m_6 x29 H_8 < m_6 x17 H_7)
 (R x14 H_7))
set_option maxRecDepth 100000 in
theorem canon_Fill.vc (lengths0 : Value) (H0 : Heap) (R : Value → Heap → Prop) (h : canon_Fill.res lengths0 H0 R) : CallsH Try.prog 16 #[lengths0] H0 R := by
  have e : vcFn Try.prog Try.C Try.f16 canon_Fill.an [lengths0] H0 R = canon_Fill.res lengths0 H0 R := by kernel_rfl
  exact vcFn_sound Try.callable Try.mixed Try.func16 (by kernel_rfl) (e.mpr h)

def canon_Code_Next.an : Ann := (.seq (.reg (.op 0 [] (.op 1 [] .nil))) (.seq (.seq (.reg (.op 0 [] (.op 1 [] (.op 2 [] (.grp 2 (.op 3 [] (.op 4 [] .nil)) 5 .nil))))) (.cond (.seq (.reg (.op 0 [] (.op 1 [] .nil))) .leaf) .leaf)) (.seq (.reg (.op 0 [] (.op 1 [] (.op 2 [] (.op 3 [] .nil))))) (.seq (.reg (.op 0 [] (.op 1 [] (.op 2 [] (.op 3 [] (.op 4 [] (.op 5 [] (.op 6 [] (.op 7 [] .nil))))))))) (.seq (.reg (.op 0 [] (.op 1 [] (.op 2 [] (.op 3 [] (.op 4 [] (.op 5 [] (.op 6 [] (.op 7 [] (.op 8 [] .nil)))))))))) (.seq (.block (.seq (.reg (.op 0 [] (.op 1 [] (.op 2 [] .nil)))) (.cond (.seq (.reg (.op 0 [] (.op 1 [] (.op 2 [] .nil)))) (.seq (.reg (.op 0 [] (.op 1 [] (.op 2 [] .nil)))) .leaf)) (.seq (.reg (.op 0 [] (.op 1 [] (.op 2 [] (.op 3 [] (.op 4 [] .nil)))))) (.cond (.seq (.reg (.op 0 [] (.op 1 [] .nil))) .leaf) .leaf))))) (.seq (.reg (.op 0 [] (.op 1 [] .nil))) .leaf)))))))
/-- (*lighter/canon.Code).Next -/
def canon_Code_Next.res (c0 : Value) (r1 : Value) (H0 : Heap) (R : Value → Heap → Prop) : Prop :=
 pEq 3 c0 (.pointer none) fun x12 =>
 pOr x12 (fun J_1 =>
 pEq 3 r1 (.pointer none) fun x15 =>
 J_1 x15 H0) H0 fun x16 H_2 => ∀ _ : Env,
 pCond x16
 (R (.tuple #[(.int .i64 0), (.int .i64 1)]) H_2)
 (CallsH Try.prog 22 #[r1] H_2 fun x18 H_3 =>
 pMin x18 (.int .i64 15) fun x19 =>
 CallsH Try.prog 33 #[r1, x19] H_3 fun x23 H_4 =>
 pExtract 0 x23 fun x24 =>
 pExtract 1 x23 fun x25 =>
 CallsH Try.prog 35 #[c0, x24, x19] H_4 fun x30 H_5 =>
 pExtract 0 x30 fun x31 =>
 pExtract 1 x30 fun x32 =>
 pGt x32 (.int .i64 0) fun x35 =>
 pCond x35
 (CallsH Try.prog 18 #[r1, x32] H_5 fun x38 H_6 =>
 R (.tuple #[x31, (.int .i64 0)]) H_6)
 (CallsH Try.prog 36 #[c0, x24, x19] H_5 fun x44 H_7 =>
 pCond x44
 (R (.tuple #[(.int .i64 0), (.int .i64 2)]) H_7)
 (R (.tuple #[(.int .i64 0), (.int .i64 4)]) H_7)))
set_option maxRecDepth 100000 in
theorem canon_Code_Next.vc (c0 : Value) (r1 : Value) (H0 : Heap) (R : Value → Heap → Prop) (h : canon_Code_Next.res c0 r1 H0 R) : CallsH Try.prog 20 #[c0, r1] H0 R := by
  have e : vcFn Try.prog Try.C Try.f20 canon_Code_Next.an [c0, r1] H0 R = canon_Code_Next.res c0 r1 H0 R := by kernel_rfl
  exact vcFn_sound Try.callable Try.mixed Try.func20 (by kernel_rfl) (e.mpr h)

def canon_Code_Write.an : Ann := (.reg (.op 0 [] (.op 1 [] (.op 2 [] (.op 3 [] (.op 4 [] (.op 5 [] (.op 6 [] .nil))))))))
/-- (*lighter/canon.Code).Write -/
def canon_Code_Write.res (c0 : Value) (w1 : Value) (symbol2 : Value) (H0 : Heap) (R : Value → Heap → Prop) : Prop :=
 CallsH Try.prog 10 #[c0, symbol2] H0 fun x9 H_1 =>
 pExtract 0 x9 fun x10 =>
 pExtract 1 x9 fun x11 =>
 CallsH Try.prog 24 #[w1, x10, x11] H_1 fun x12 H_2 =>
 R (.tuple #[]) H_2
set_option maxRecDepth 100000 in
theorem canon_Code_Write.vc (c0 : Value) (w1 : Value) (symbol2 : Value) (H0 : Heap) (R : Value → Heap → Prop) (h : canon_Code_Write.res c0 w1 symbol2 H0 R) : CallsH Try.prog 23 #[c0, w1, symbol2] H0 R := by
  have e : vcFn Try.prog Try.C Try.f23 canon_Code_Write.an [c0, w1, symbol2] H0 R = canon_Code_Write.res c0 w1 symbol2 H0 R := by kernel_rfl
  exact vcFn_sound Try.callable Try.mixed Try.func23 (by kernel_rfl) (e.mpr h)

def canon_New_f1.an : Ann := (.seq (.reg (.op 0 [] .nil)) (.seq (.reg (.op 0 [] (.op 1 [] (.op 2 [] (.grp 2 (.op 3 [] (.op 4 [] .nil)) 5 (.op 6 [] .nil)))))) .leaf))
/-- lighter/canon.New$1 -/
def canon_New_f1.res (n0 : Value) (H0 : Heap) (R : Value → Heap → Prop) : Prop :=
 pLt n0 (.int .i64 0) fun x4 =>
 pOr x4 (fun J_1 =>
 pGt n0 (.int .i64 15) fun x7 =>
 J_1 x7 H0) H0 fun x8 H_2 => ∀ _ : Env,
 R x8 H_2
set_option maxRecDepth 100000 in
theorem canon_New_f1.vc (n0 : Value) (H0 : Heap) (R : Value → Heap → Prop) (h : canon_New_f1.res n0 H0 R) : CallsH Try.prog 27 #[n0] H0 R := by
  have e : vcFn Try.prog Try.C Try.f27 canon_New_f1.an [n0] H0 R = canon_New_f1.res n0 H0 R := by kernel_rfl
  exact vcFn_sound Try.callable Try.mixed Try.func27 (by kernel_rfl) (e.mpr h)

def canon_Code_fill.an : Ann := (.seq (.reg (.op 0 [] .nil)) (.seq (.seq (.reg (.op 0 [] (.op 1 [] (.op 2 [] (.op 3 [] (.op 4 [] (.op 5 [] .nil))))))) (.block (.loop [12] [4, 12, 13, 14, 15, 16, 17, 18, 19, 20, 21, 22, 23, 24, 25, 26, 27, 28] (.seq (.reg (.op 0 [] .nil)) (.seq (.cond .leaf .leaf) (.seq (.block (.seq (.reg (.op 0 [] (.op 1 [] (.op 2 [] .nil)))) (.seq (.reg (.op 0 [] (.op 1 [] .nil))) (.cond (.drw [0, 0, 1, 5, 15, 31, 63, 1, 129, 511, 1023] (.op 0 [] (.op 1 [] (.op 2 [] (.op 3 [] (.op 4 [] (.op 5 [] (.op 6 [] (.op 7 [] (.op 8 [] (.op 9 [] (.op 10 [] .nil)))))))))))) .leaf)))) (.reg (.op 0 [] (.op 1 [] .nil))))))))) (.seq (.reg (.op 0 [] .nil)) (.seq (.seq (.reg (.op 0 [] .nil)) (.block (.loop [5, 6] [2, 5, 6, 29, 30, 31, 32, 33, 34, 35, 36, 37, 38, 39, 40, 41, 42, 43, 44] (.seq (.seq (.reg (.op 0 [] (.op 1 [] .nil))) (.cond .leaf .leaf)) (.seq (.block (.seq (.reg (.op 0 [] (.op 1 [] (.op 2 [] (.op 3 [] (.op 4 [] (.op 5 [] (.op 6 [] (.op 7 [] (.op 8 [] (.op 9 [] .nil))))))))))) (.seq (.reg (.op 0 [] (.op 1 [] .nil))) (.cond (.seq (.reg (.op 0 [] (.op 1 [] .nil))) .leaf) .leaf)))) (.reg (.op 0 [] (.op 1 [] (.op 2 [] .nil))))))))) (.seq (.reg (.op 0 [] (.op 1 [] .nil))) .leaf)))))
/-- (*lighter/canon.Code).fill -/
def canon_Code_fill.res (c0 : Value) (H0 : Heap) (R : Value → Heap → Prop) : Prop :=
 pNil c0 fun x8 =>
 pFieldAddr 0 x8 fun x9 =>
 pLoad H0 x9 fun x10 =>
 pLen x10 fun x11 =>
 ∃ (I_1 : Value → Heap → Prop) (m_2 : Value → Heap → Nat), I_1 (.int .i64 0) H0 ∧
 ∀ _ : Env, ∀ x12 : Value, ∀ H_3 : Heap, I_1 x12 H_3 →
 pLt x12 x11 fun x13 =>
 pCond x13
 (pIdxSl 1 x10 x12 fun x14 =>
 pLoad H_3 x14 fun x15 =>
 pGt x15 (.int .i64 0) fun x17 =>
 pCond x17
 (pNil c0 fun x20 =>
 pFieldAddr 2 x20 fun x21 =>
 pIdxArr 16 1 x21 x15 fun x22 =>
 pLoad H_3 x22 fun x23 =>
 pAdd x23 (.int .i64 1) fun x24 =>
 pNil c0 fun x25 =>
 pFieldAddr 2 x25 fun x26 =>
 pIdxArr 16 1 x26 x15 fun x27 =>
 pStore H_3 x27 x24 fun _ H_4 =>
 pAdd x12 (.int .i64 1) fun x28 =>
 I_1 x28 H_4 ∧ m_2 x28 H_4 < m_2 x12 H_3)
 (pAdd x12 (.int .i64 1) fun x28 =>
 I_1 x28 H_3 ∧ m_2 x28 H_3 < m_2 x12 H_3))
 (∃ (I_5 : Value → Value → Heap → Prop) (m_6 : Value → Value → Heap → Nat), I_5 (.int .i64 1) (.int .i64 1) H_3 ∧
 ∀ _ : Env, ∀ left5 : Value, ∀ n6 : Value, ∀ H_7 : Heap, I_5 left5 n6 H_7 →
 pLe n6 (.int .i64 15) fun x30 =>
 pCond x30
 (pMul (.int .i64 2) left5 fun x34 =>
 pNil c0 fun x37 =>
 pFieldAddr 2 x37 fun x38 =>
 pIdxArr 16 1 x38 n6 fun x39 =>
 pLoad H_7 x39 fun x40 =>
 pSub x34 x40 fun x41 =>
 pLt x41 (.int .i64 0) fun x43 =>
 pCond x43
 (R x41 H_7)
 (pAdd n6 (.int .i64 1) fun x32 =>
 I_5 x41 x32 H_7 ∧ m_6 x41 x32 H_7 < m_6 left5 n6 H_7))
 (R left5 H_7))
set_option maxRecDepth 100000 in
theorem canon_Code_fill.vc (c0 : Value) (H0 : Heap) (R : Value → Heap → Prop) (h : canon_Code_fill.res c0 H0 R) : CallsH Try.prog 30 #[c0] H0 R := by
  have e : vcFn Try.prog Try.C Try.f30 canon_Code_fill.an [c0] H0 R = canon_Code_fill.res c0 H0 R := by kernel_rfl
  exact vcFn_sound Try.callable Try.mixed Try.func30 (by kernel_rfl) (e.mpr h)

def canon_Code_slack.an : Ann := (.seq (.reg (.op 0 [] .nil)) (.seq (.reg (.op 0 [] .nil)) (.seq (.seq (.reg (.op 0 [] (.op 1 [] (.op 2 [] (.op 3 [] (.op 4 [] .nil)))))) (.block (.loop [3, 10] [3, 5, 10, 11, 12, 13, 14, 15, 16] (.seq (.reg (.op 0 [] .nil)) (.seq (.cond .leaf .leaf) (.seq (.block (.seq (.reg (.op 0 [] (.op 1 [] .nil))) (.reg (.op 0 [] (.op 1 [] (.op 2 [] (.op 3 [] .nil))))))) (.reg (.op 0 [] (.op 1 [] .nil))))))))) (.seq (.reg (.op 0 [] (.op 1 [] (.op 2 [] (.grp 2 (.op 3 [] (.op 4 [] (.op 5 [] (.grp 5 (.op 6 [] (.op 7 [] (.op 8 [] (.op 9 [] (.op 10 [] (.op 11 [] .nil)))))) 12 .nil)))) 13 (.op 14 [] .nil)))))) .leaf))))
/-- (*lighter/canon.Code).slack -/
def canon_Code_slack.res (c0 : Value) (H0 : Heap) (R : Value → Heap → Prop) : Prop :=
 pNil c0 fun x7 =>
 pFieldAddr 2 x7 fun x8 =>
 pLoadN H0 16 x8 fun x9 =>
 ∃ (I_1 : Value → Value → Heap → Prop) (m_2 : Value → Value → Heap → Nat), I_1 (.int .i64 0) (.int .i64 0) H0 ∧
 ∀ _ : Env, ∀ all3 : Value, ∀ x10 : Value, ∀ H_3 : Heap, I_1 all3 x10 H_3 →
 pLt x10 (.int .i64 16) fun x11 =>
 pCond x11
 (pIdxAgg 16 x9 x10 fun x12 =>
 pAdd all3 x12 fun x15 =>
 pAdd x10 (.int .i64 1) fun x16 =>
 I_1 x15 x16 H_3 ∧ m_2 x15 x16 H_3 < m_2 all3 x10 H_3)
 (pEq 0 all3 (.int .i64 0) fun x18 =>
 pOr x18 (fun J_4 =>
 pEq 0 all3 (.int .i64 1) fun x21 =>
 pAnd x21 (fun J_6 =>
 pNil c0 fun x24 =>
 pFieldAddr 2 x24 fun x25 =>
 pIdxArr 16 1 x25 (.int .i64 1) fun x26 =>
 pLoad H_3 x26 fun x27 =>
 pEq 0 x27 (.int .i64 1) fun x28 =>
 J_6 x28 H_3) H_3 fun x29 H_7 => ∀ _ : Env,
 J_4 x29 H_7) H_3 fun x30 H_5 => ∀ _ : Env,
 R x30 H_5)
set_option maxRecDepth 100000 in
theorem canon_Code_slack.vc (c0 : Value) (H0 : Heap) (R : Value → Heap → Prop) (h : canon_Code_slack.res c0 H0 R) : CallsH Try.prog 31 #[c0] H0 R := by
  have e : vcFn Try.prog Try.C Try.f31 canon_Code_slack.an [c0] H0 R = canon_Code_slack.res c0 H0 R := by kernel_rfl
  exact vcFn_sound Try.callable Try.mixed Try.func31 (by kernel_rfl) (e.mpr h)

def canon_Code_assign.an : Ann := (.seq (.reg (.op 0 [] (.op 1 [] (.op 2 [] (.op 3 [] (.op 4 [] (.op 5 [] (.op 6 [] (.op 7 [] (.op 8 [] (.op 9 [] .nil))))))))))) (.seq (.reg (.op 0 [] .nil)) (.seq (.reg (.op 0 [] .nil)) (.block (.loop [2, 3] [2, 3, 4, 5, 15, 16, 17, 18, 19, 20, 21, 22, 23, 24, 25, 26, 27, 28, 29, 30, 31, 32, 33, 34, 35, 36, 37, 38, 39, 40, 41, 42, 43, 44, 45, 46, 47, 48, 49, 50, 51, 52, 53, 54, 55, 56, 57] (.seq (.seq (.reg (.op 0 [] (.op 1 [] .nil))) (.cond .leaf .leaf)) (.seq (.block (.seq (.reg (.op 0 [] (.op 1 [] (.op 2 [] .nil)))) (.seq (.reg (.op 0 [] (.op 1 [] (.op 2 [] (.op 3 [] (.op 4 [] (.op 5 [] .nil))))))) (.block (.loop [2, 26] [2, 4, 5, 26, 27, 28, 29, 30, 31, 32, 33, 34, 35, 36, 37, 38, 39, 40, 41, 42, 43, 44, 45, 46, 47, 48, 49, 50, 51, 52, 53, 54, 55, 56, 57] (.seq (.reg (.op 0 [] .nil)) (.seq (.cond .leaf .leaf) (.seq (.block (.seq (.reg (.op 0 [] (.op 1 [] (.op 2 [] (.op 3 [] (.op 4 [] .nil)))))) (.seq (.reg (.op 0 [] (.op 1 [] (.op 2 [] .nil)))) (.cond (.seq (.drw [0, 1, 3, 7, 0, 0, 0, 96, 0, 480, 1023, 2047] (.op 0 [] (.op 1 [] (.op 2 [] (.op 3 [] (.op 4 [] (.op 5 [] (.op 6 [] (.op 8 [] (.op 7 [3] (.op 9 [] (.op 10 [] (.op 11 [] .nil))))))))))))) (.seq (.reg (.op 0 [] (.op 1 [] (.op 2 [] (.op 3 [] (.op 4 [] (.op 5 [] (.op 6 [] (.op 7 [] (.op 8 [] (.op 9 [] (.op 10 [] .nil)))))))))))) (.reg (.op 0 [] (.op 1 [] (.op 2 [] .nil)))))) .leaf)))) (.reg (.op 0 [] (.op 1 [] .nil))))))))))) (.reg (.op 0 [] (.op 1 [] (.op 2 [] .nil)))))))))))
/-- (*lighter/canon.Code).assign -/
def canon_Code_assign.res (c0 : Value) (H0 : Heap) (R : Value → Heap → Prop) : Prop :=
 pNil c0 fun x8 =>
 pFieldAddr 0 x8 fun x9 =>
 pLoad H0 x9 fun x10 =>
 pLen x10 fun x11 =>
 pMakeSl H0 67 16 [(.int .u64 0), (.int .i64 0)] x11 x11 fun x12 H_1 =>
 pNil c0 fun x13 =>
 pFieldAddr 1 x13 fun x14 =>
 pStore H_1 x14 x12 fun _ H_2 =>
 ∃ (I_3 : Value → Value → Heap → Prop) (m_4 : Value → Value → Heap → Nat), I_3 (.int .u64 0) (.int .i64 1) H_2 ∧
 ∀ _ : Env, ∀ next2 : Value, ∀ n3 : Value, ∀ H_5 : Heap, I_3 next2 n3 H_5 →
 pLe n3 (.int .i64 15) fun x16 =>
 pCond x16
 (pShl next2 (.int .u64 1) fun x20 =>
 pNil c0 fun x22 =>
 pFieldAddr 0 x22 fun x23 =>
 pLoad H_5 x23 fun x24 =>
 pLen x24 fun x25 =>
 ∃ (I_6 : Value → Value → Heap → Prop) (m_7 : Value → Value → Heap → Nat), I_6 x20 (.int .i64 0) H_5 ∧
 ∀ _ : Env, ∀ next2' : Value, ∀ x26 : Value, ∀ H_8 : Heap, I_6 next2' x26 H_8 →
 pLt x26 x25 fun x27 =>
 pCond x27
 (pIdxSl 1 x24 x26 fun x29 =>
 pLoad H_8 x29 fun x30 =>
 pEq 0 x30 n3 fun x33 =>
 pCond x33
 (pNil c0 fun x35 =>
 pFieldAddr 1 x35 fun x36 =>
 pLoad H_8 x36 fun x37 =>
 CallsH Try.prog 39 #[next2', n3] H_8 fun x41 H_9 =>
 (pLoad H_9 x36 fun r_ =>
 r_ = x37) ∧
 pBuild [(.int .u64 0), (.int .i64 0)] [(0, 1, x41), (1, 1, n3)] fun x43 =>
 pIdxSl 2 x37 x26 fun x44 =>
 pStoreN H_9 2 x44 x43 fun _ H_10 =>
 pNil c0 fun x47 =>
 pFieldAddr 18 x47 fun x48 =>
 pLoad H_10 x48 fun x49 =>
 pBuildSl H_10 3 1 [(.int .i64 0)] [(0, 1, x26)] fun x51 H_11 =>
 pAppend H_11 3 1 8 [(.int .i64 0)] x49 x51 fun x52 H_12 =>
 pNil c0 fun x53 =>
 pFieldAddr 18 x53 fun x54 =>
 pStore H_12 x54 x52 fun _ H_13 =>
 pAdd next2' (.int .u64 1) fun x56 =>
 pAdd x26 (.int .i64 1) fun x57 =>
 I_6 x56 x57 H_13 ∧ m_7 x56 x57 H_13 < m_7 next2' x26 H_8)
 (pAdd x26 (.int .i64 1) fun x57 =>
 I_6 next2' x57 H_8 ∧ m_7 next2' x57 H_8 < m_7 next2' x26 H_8))
 (pAdd n3 (.int .i64 1) fun x18 =>
 I_3 next2' x18 H_8 ∧ m_4 next2' x18 H_8 < m_4 next2 n3 H_5))
 (R (.tuple #[]) H_5)
set_option maxRecDepth 100000 in
theorem canon_Code_assign.vc (c0 : Value) (H0 : Heap) (R : Value → Heap → Prop) (h : canon_Code_assign.res c0 H0 R) : CallsH Try.prog 32 #[c0] H0 R := by
  have e : vcFn Try.prog Try.C Try.f32 canon_Code_assign.an [c0] H0 R = canon_Code_assign.res c0 H0 R := by kernel_rfl
  exact vcFn_sound Try.callable Try.mixed Try.func32 (by kernel_rfl) (e.mpr h)

def canon_Code_find.an : Ann := (.seq (.reg (.op 0 [] (.op 1 [] .nil))) (.seq (.reg (.op 0 [] (.op 1 [] (.op 2 [] .nil)))) (.seq (.seq (.reg (.op 0 [] .nil)) (.block (.loop [1, 8, 9, 10, 11] [1, 6, 7, 8, 9, 10, 11, 12, 13, 14, 15, 16, 17, 18, 19, 20, 21, 22, 23, 24, 25, 26, 27, 28, 29, 30, 31, 32, 33, 34, 35, 36, 37, 38, 39, 40, 41, 42, 43, 44, 45, 46, 47, 48, 49, 50, 51, 52, 53, 54, 55, 56, 57, 58, 59, 60, 61, 62, 63, 64, 65, 66] (.seq (.seq (.reg (.op 0 [] (.op 1 [] (.op 2 [] .nil)))) (.cond .leaf .leaf)) (.seq (.block (.seq (.reg (.op 0 [] (.op 1 [] (.op 2 [] (.op 3 [] (.op 4 [] (.op 5 [] .nil))))))) (.seq (.reg (.op 0 [] (.op 1 [] (.op 2 [] .nil)))) (.seq (.seq (.reg (.op 0 [] (.op 1 [] (.op 2 [] (.op 3 [] (.op 4 [] (.op 5 [] (.op 6 [] .nil)))))))) (.seq (.reg (.op 0 [] (.op 1 [] (.op 2 [] (.op 3 [] (.op 4 [] .nil)))))) (.cond (.seq (.reg (.op 0 [] (.op 1 [] (.op 2 [] (.op 3 [] (.op 4 [] (.op 5 [] (.op 6 [] (.op 7 [] (.op 8 [] (.op 9 [] (.op 10 [] (.op 11 [] (.op 12 [] (.op 13 [] .nil))))))))))))))) .leaf) .leaf))) (.seq (.reg (.op 0 [] (.op 1 [] (.op 2 [] (.op 3 [] (.op 4 [] (.op 5 [] (.op 6 [] (.op 7 [] (.op 8 [] .nil)))))))))) (.seq (.reg (.op 0 [] (.op 1 [] (.op 2 [] (.op 3 [] (.op 4 [] (.op 5 [] (.op 6 [] (.op 7 [] (.op 8 [] (.op 9 [] .nil))))))))))) (.reg (.op 0 [] (.op 1 [] (.op 2 [] .nil)))))))))) (.reg (.op 0 [] (.op 1 [] (.op 2 [] .nil))))))))) (.seq (.reg (.op 0 [] (.op 1 [] .nil))) .leaf))))
/-- (*lighter/canon.Code).find -/
def canon_Code_find.res (c0 : Value) (v1 : Value) (have2 : Value) (H0 : Heap) (R : Value → Heap → Prop) : Prop :=
 ∃ (I_1 : Value → Value → Value → Value → Value → Heap → Prop) (m_2 : Value → Value → Value → Value → Value → Heap → Nat), I_1 v1 (.int .i64 0) (.int .i64 0) (.int .i64 0) (.int .i64 1) H0 ∧
 ∀ _ : Env, ∀ v1' : Value, ∀ word8 : Value, ∀ first9 : Value, ∀ index10 : Value, ∀ n11 : Value, ∀ H_3 : Heap, I_1 v1' word8 first9 index10 n11 H_3 →
 pLe n11 have2 fun x15 =>
 pCond x15
 (pBits .and v1' (.int .u64 1) fun x20 =>
 pConv .i64 x20 fun x21 =>
 pBits .or word8 x21 fun x22 =>
 pShr v1' (.int .u64 1) fun x24 =>
 pNil c0 fun x27 =>
 pFieldAddr 2 x27 fun x28 =>
 pIdxArr 16 1 x28 n11 fun x29 =>
 pLoad H_3 x29 fun x30 =>
 pSub x22 first9 fun x33 =>
 pLt x33 x30 fun x35 =>
 pCond x35
 (pNil c0 fun x37 =>
 pFieldAddr 18 x37 fun x38 =>
 pLoad H_3 x38 fun x39 =>
 pAdd index10 x22 fun x42 =>
 pSub x42 first9 fun x44 =>
 pIdxSl 1 x39 x44 fun x45 =>
 pLoad H_3 x45 fun x46 =>
 R (.tuple #[x46, n11]) H_3)
 (pNil c0 fun x51 =>
 pFieldAddr 2 x51 fun x52 =>
 pIdxArr 16 1 x52 n11 fun x53 =>
 pLoad H_3 x53 fun x54 =>
 pAdd index10 x54 fun x55 =>
 pNil c0 fun x59 =>
 pFieldAddr 2 x59 fun x60 =>
 pIdxArr 16 1 x60 n11 fun x61 =>
 pLoad H_3 x61 fun x62 =>
 pAdd first9 x62 fun x63 =>
 pShl x63 (.int .u64 1) fun x64 =>
 pShl x22 (.int .u64 1) fun x66 =>
 pAdd n11 (.int .i64 1) fun x17 =>
 I_1 x24 x66 x64 x55 x17 H_3 ∧ m_2 x24 x66 x64 x55 x17 H_3 < m_2 v1' word8 first9 index10 n11 H_3))
 (R (.tuple #[(.int .i64 0), (.int .i64 0)]) H_3)
set_option maxRecDepth 100000 in
theorem canon_Code_find.vc (c0 : Value) (v1 : Value) (have2 : Value) (H0 : Heap) (R : Value → Heap → Prop) (h : canon_Code_find.res c0 v1 have2 H0 R) : CallsH Try.prog 35 #[c0, v1, have2] H0 R := by
  have e : vcFn Try.prog Try.C Try.f35 canon_Code_find.an [c0, v1, have2] H0 R = canon_Code_find.res c0 v1 have2 H0 R := by kernel_rfl
  exact vcFn_sound Try.callable Try.mixed Try.func35 (by kernel_rfl) (e.mpr h)

def canon_Code_open.an : Ann := (.seq (.reg (.op 0 [] (.op 1 [] (.op 2 [] .nil)))) (.seq (.reg (.op 0 [] (.op 1 [] (.op 2 [] (.op 3 [] (.op 4 [] .nil)))))) (.seq (.reg (.op 0 [] (.op 1 [] (.op 2 [] (.op 3 [] (.op 4 [] (.op 5 [] (.op 6 [] .nil)))))))) .leaf)))
/-- (*lighter/canon.Code).open -/
def canon_Code_open.res (c0 : Value) (v1 : Value) (have2 : Value) (H0 : Heap) (R : Value → Heap → Prop) : Prop :=
 pBox H0 28 v1 fun v4 H_1 =>
 pBox H_1 3 have2 fun have5 H_2 =>
 pLoad H_2 have5 fun x8 =>
 pShl (.int .u64 1) x8 fun x9 =>
 pSub x9 (.int .u64 1) fun x10 =>
 pBox H_2 28 (.int .u64 0) fun mask7 H_3 =>
 pStore H_3 mask7 x10 fun _ H_4 =>
 pNil c0 fun x12 =>
 pFieldAddr 1 x12 fun x13 =>
 pLoad H_4 x13 fun x14 =>
 CallsH Try.prog 41 #[x14, (.func (.func 42) #[] #[have5, mask7, v4])] H_4 fun x16 H_5 =>
 R x16 H_5
set_option maxRecDepth 100000 in
theorem canon_Code_open.vc (c0 : Value) (v1 : Value) (have2 : Value) (H0 : Heap) (R : Value → Heap → Prop) (h : canon_Code_open.res c0 v1 have2 H0 R) : CallsH Try.prog 36 #[c0, v1, have2] H0 R := by
  have e : vcFn Try.prog Try.C Try.f36 canon_Code_open.an [c0, v1, have2] H0 R = canon_Code_open.res c0 v1 have2 H0 R := by kernel_rfl
  exact vcFn_sound Try.callable Try.mixed Try.func36 (by kernel_rfl) (e.mpr h)

def canon_turned.an : Ann := (.seq (.reg (.op 0 [] .nil)) (.seq (.reg (.op 0 [] .nil)) (.seq (.seq (.reg (.op 0 [] (.op 1 [] .nil))) (.block (.loop [0, 5, 7] [0, 5, 7, 8, 9, 10, 11, 12, 13, 14, 15, 16] (.seq (.reg (.op 0 [] .nil)) (.seq (.cond .leaf .leaf) (.seq (.block (.seq (.reg (.op 0 [] (.op 1 [] (.op 2 [] (.op 3 [] (.op 4 [] (.op 5 [] .nil))))))) (.reg (.op 0 [] (.op 1 [] (.op 2 [] .nil)))))) (.reg (.op 0 [] (.op 1 [] .nil))))))))) (.seq (.reg (.op 0 [] (.op 1 [] .nil))) .leaf))))
/-- lighter/canon.turned -/
def canon_turned.res (v0 : Value) (n1 : Value) (H0 : Heap) (R : Value → Heap → Prop) : Prop :=
 ∃ (I_1 : Value → Value → Value → Heap → Prop) (m_2 : Value → Value → Value → Heap → Nat), I_1 v0 (.int .u64 0) (.int .i64 0) H0 ∧
 ∀ _ : Env, ∀ v0' : Value, ∀ out5 : Value, ∀ x7 : Value, ∀ H_3 : Heap, I_1 v0' out5 x7 H_3 →
 pLt x7 n1 fun x8 =>
 pCond x8
 (pShl out5 (.int .u64 1) fun x10 =>
 pBits .and v0' (.int .u64 1) fun x12 =>
 pBits .or x10 x12 fun x13 =>
 pShr v0' (.int .u64 1) fun x15 =>
 pAdd x7 (.int .i64 1) fun x16 =>
 I_1 x15 x13 x16 H_3 ∧ m_2 x15 x13 x16 H_3 < m_2 v0' out5 x7 H_3)
 (R out5 H_3)
set_option maxRecDepth 100000 in
theorem canon_turned.vc (v0 : Value) (n1 : Value) (H0 : Heap) (R : Value → Heap → Prop) (h : canon_turned.res v0 n1 H0 R) : CallsH Try.prog 39 #[v0, n1] H0 R := by
  have e : vcFn Try.prog Try.C Try.f39 canon_turned.an [v0, n1] H0 R = canon_turned.res v0 n1 H0 R := by kernel_rfl
  exact vcFn_sound Try.callable Try.mixed Try.func39 (by kernel_rfl) (e.mpr h)

def canon_Code_open_f1.an : Ann := (.seq (.reg (.op 0 [] (.op 1 [] .nil))) (.seq (.reg (.op 0 [] (.op 1 [] (.op 2 [] (.op 3 [] (.op 4 [] (.grp 4 (.op 5 [] (.op 6 [] (.op 7 [] (.op 8 [] (.op 9 [] (.op 10 [] .nil)))))) 11 (.op 12 [] .nil)))))))) .leaf))
/-- (*lighter/canon.Code).open$1 -/
def canon_Code_open_f1.res (w0 : Value) (a1 : Value) (a2 : Value) (a3 : Value) (H0 : Heap) (R : Value → Heap → Prop) : Prop :=
 pBox H0 67 w0 fun w4 H_1 =>
 pFieldAddr 1 w4 fun x6 =>
 pLoad H_1 x6 fun x7 =>
 pLoad H_1 a1 fun x8 =>
 pGt x7 x8 fun x9 =>
 pAnd x9 (fun J_2 =>
 pFieldAddr 0 w4 fun x11 =>
 pLoad H_1 x11 fun x12 =>
 pLoad H_1 a2 fun x13 =>
 pBits .and x12 x13 fun x14 =>
 pLoad H_1 a3 fun x15 =>
 pEq 0 x14 x15 fun x16 =>
 J_2 x16 H_1) H_1 fun x17 H_3 => ∀ _ : Env,
 R x17 H_3
set_option maxRecDepth 100000 in
theorem canon_Code_open_f1.vc (w0 : Value) (a1 : Value) (a2 : Value) (a3 : Value) (H0 : Heap) (R : Value → Heap → Prop) (h : canon_Code_open_f1.res w0 a1 a2 a3 H0 R) : CallsH Try.prog 42 #[w0, a1, a2, a3] H0 R := by
  have e : vcFn Try.prog Try.C Try.f42 canon_Code_open_f1.an [w0, a1, a2, a3] H0 R = canon_Code_open_f1.res w0 a1 a2 a3 H0 R := by kernel_rfl
  exact vcFn_sound Try.callable Try.mixed Try.func42 (by kernel_rfl) (e.mpr h)

end Go.Proofs.Ytcbaklebiohedaa
