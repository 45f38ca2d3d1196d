/- The residuals of package lighterref05's functions, printed by resid.py. -/
import Derived.Test.YtabfckcbijinkaaVcSeat
namespace Go.Proofs.Ytabfckcbijinkaa
open Go Go.Vc Go.Proofs
set_option linter.unusedVariables false
set_option maxHeartbeats 4000000
def lighterref05_Lengths.an : Ann := (.seq (.reg (.op 0 [] .nil)) (.seq (.reg (.op 0 [] .nil)) (.seq (.seq (.reg (.op 0 [] .nil)) (.block (.loop [1, 2] [1, 2, 7, 8, 9, 10, 11, 12, 13, 14, 15, 16, 17, 18] (.seq (.seq (.reg (.op 0 [] (.op 1 [] .nil))) (.cond .leaf .leaf)) (.seq (.block (.reg (.op 0 [] (.op 1 [] (.op 2 [] (.op 3 [] (.op 4 [] (.op 5 [] (.op 6 [] (.op 7 [] (.op 8 [] .nil))))))))))) (.reg (.op 0 [] (.op 1 [] (.op 2 [] .nil))))))))) (.seq (.reg (.op 0 [] .nil)) (.seq (.reg (.op 0 [] .nil)) (.seq (.seq (.reg (.op 0 [] .nil)) (.block (.loop [1, 3, 4, 5] [1, 3, 4, 5, 6, 19, 20, 21, 22, 23, 24, 25, 26, 27, 28, 29, 30, 31, 32, 33, 34, 35, 36, 37, 38, 39, 40] (.seq (.seq (.reg (.op 0 [] (.op 1 [] .nil))) (.cond .leaf .leaf)) (.seq (.block (.seq (.seq (.reg (.op 0 [] .nil)) (.block (.loop [1, 3, 6] [1, 3, 6, 23, 24, 25, 26, 27, 28, 29, 30, 31, 32, 33, 34, 35, 36, 37, 38] (.seq (.seq (.reg (.op 0 [] (.op 1 [] .nil))) (.cond .leaf .leaf)) (.seq (.block (.seq (.reg (.op 0 [] (.op 1 [] (.op 2 [] (.op 3 [] (.op 4 [] (.op 5 [] (.op 6 [] (.op 7 [] (.op 8 [] (.op 9 [] .nil))))))))))) (.reg (.op 0 [] (.op 1 [] (.op 2 [] (.op 3 [] .nil))))))) (.reg (.op 0 [] (.op 1 [] (.op 2 [] .nil))))))))) (.reg (.op 0 [] (.op 1 [] (.op 2 [] .nil)))))) (.reg (.op 0 [] (.op 1 [] (.op 2 [] .nil))))))))) (.seq (.reg (.op 0 [] (.op 1 [] (.op 2 [] (.op 3 [] (.op 4 [] .nil)))))) .leaf)))))))
/-- lighter/lighterref05.Lengths -/
def lighterref05_Lengths.res (H0 : Heap) (R : Value → Heap → Prop) : Prop :=
 ∃ (I_1 : Value → Value → Heap → Prop) (m_2 : Value → Value → Heap → Nat), I_1 (.slice none 0 0) (.int .i64 0) H0 ∧
 ∀ _ : Env, ∀ out1 : Value, ∀ i2 : Value, ∀ H_3 : Heap, I_1 out1 i2 H_3 →
 pLt i2 (.int .i64 8) fun x8 =>
 pCond x8
 (pAdd (.int .i64 257) i2 fun x13 =>
 pAdd (.int .i64 3) i2 fun x15 =>
 pBuild [(.int .i64 0), (.int .i64 0), (.int .i64 0)] [(0, 1, x13), (1, 1, x15), (2, 1, (.int .i64 0))] fun x16 =>
 pBuildSl H_3 42 1 [(.int .i64 0), (.int .i64 0), (.int .i64 0)] [(0, 3, x16)] fun x17 H_4 =>
 pAppend H_4 42 3 24 [(.int .i64 0), (.int .i64 0), (.int .i64 0)] out1 x17 fun x18 H_5 =>
 pAdd i2 (.int .i64 1) fun x10 =>
 I_1 x18 x10 H_5 ∧ m_2 x18 x10 H_5 < m_2 out1 i2 H_3)
 (∃ (I_6 : Value → Value → Value → Value → Heap → Prop) (m_7 : Value → Value → Value → Value → Heap → Nat), I_6 out1 (.int .i64 11) (.int .i64 2) (.int .i64 1) H_3 ∧
 ∀ _ : Env, ∀ out1' : Value, ∀ at3 : Value, ∀ size4 : Value, ∀ e5 : Value, ∀ H_8 : Heap, I_6 out1' at3 size4 e5 H_8 →
 pLe e5 (.int .i64 5) fun x20 =>
 pCond x20
 (∃ (I_9 : Value → Value → Value → Heap → Prop) (m_10 : Value → Value → Value → Heap → Nat), I_9 out1' at3 (.int .i64 0) H_8 ∧
 ∀ _ : Env, ∀ out1'' : Value, ∀ at3' : Value, ∀ i6 : Value, ∀ H_11 : Heap, I_9 out1'' at3' i6 H_11 →
 pLt i6 (.int .i64 4) fun x24 =>
 pCond x24
 (pLen out1'' fun x29 =>
 pAdd (.int .i64 257) x29 fun x30 =>
 pBuild [(.int .i64 0), (.int .i64 0), (.int .i64 0)] [(0, 1, x30), (1, 1, at3'), (2, 1, e5)] fun x33 =>
 pBuildSl H_11 42 1 [(.int .i64 0), (.int .i64 0), (.int .i64 0)] [(0, 3, x33)] fun x34 H_12 =>
 pAppend H_12 42 3 24 [(.int .i64 0), (.int .i64 0), (.int .i64 0)] out1'' x34 fun x35 H_13 =>
 pAdd at3' size4 fun x38 =>
 pAdd i6 (.int .i64 1) fun x26 =>
 I_9 x35 x38 x26 H_13 ∧ m_10 x35 x38 x26 H_13 < m_10 out1'' at3' i6 H_11)
 (pMul size4 (.int .i64 2) fun x40 =>
 pAdd e5 (.int .i64 1) fun x22 =>
 I_6 out1'' at3' x40 x22 H_11 ∧ m_7 out1'' at3' x40 x22 H_11 < m_7 out1' at3 size4 e5 H_8))
 (pBuild [(.int .i64 0), (.int .i64 0), (.int .i64 0)] [(0, 1, (.int .i64 285)), (1, 1, (.int .i64 258)), (2, 1, (.int .i64 0))] fun x42 =>
 pBuildSl H_8 42 1 [(.int .i64 0), (.int .i64 0), (.int .i64 0)] [(0, 3, x42)] fun x43 H_14 =>
 pAppend H_14 42 3 24 [(.int .i64 0), (.int .i64 0), (.int .i64 0)] out1' x43 fun x44 H_15 =>
 R x44 H_15))
set_option maxRecDepth 100000 in
theorem lighterref05_Lengths.vc (H0 : Heap) (R : Value → Heap → Prop) (h : lighterref05_Lengths.res H0 R) : CallsH Try.prog 16 #[] H0 R := by
  have e : vcFn Try.prog Try.C Try.f16 lighterref05_Lengths.an [] H0 R = lighterref05_Lengths.res H0 R := by kernel_rfl
  exact vcFn_sound Try.callable Try.mixed Try.func16 (by kernel_rfl) (e.mpr h)

def lighterref05_Dists.an : Ann := (.seq (.reg (.op 0 [] .nil)) (.seq (.reg (.op 0 [] (.op 1 [] (.op 2 [] (.op 3 [] (.op 4 [] (.op 5 [] .nil))))))) (.seq (.reg (.op 0 [] .nil)) (.seq (.reg (.op 0 [] .nil)) (.seq (.seq (.reg (.op 0 [] .nil)) (.block (.loop [1, 2, 3, 4] [1, 2, 3, 4, 5, 11, 12, 13, 14, 15, 16, 17, 18, 19, 20, 21, 22, 23, 24, 25, 26, 27, 28, 29, 30, 31] (.seq (.seq (.reg (.op 0 [] (.op 1 [] .nil))) (.cond .leaf .leaf)) (.seq (.block (.seq (.seq (.reg (.op 0 [] .nil)) (.block (.loop [1, 2, 5] [1, 2, 5, 15, 16, 17, 18, 19, 20, 21, 22, 23, 24, 25, 26, 27, 28, 29] (.seq (.seq (.reg (.op 0 [] (.op 1 [] .nil))) (.cond .leaf .leaf)) (.seq (.block (.seq (.reg (.op 0 [] (.op 1 [] (.op 2 [] (.op 3 [] (.op 4 [] (.op 5 [] (.op 6 [] (.op 7 [] (.op 8 [] .nil)))))))))) (.reg (.op 0 [] (.op 1 [] (.op 2 [] (.op 3 [] .nil))))))) (.reg (.op 0 [] (.op 1 [] (.op 2 [] .nil))))))))) (.reg (.op 0 [] (.op 1 [] (.op 2 [] .nil)))))) (.reg (.op 0 [] (.op 1 [] (.op 2 [] .nil))))))))) (.seq (.reg (.op 0 [] (.op 1 [] .nil))) .leaf))))))
/-- lighter/lighterref05.Dists -/
def lighterref05_Dists.res (H0 : Heap) (R : Value → Heap → Prop) : Prop :=
 pBuild [(.int .i64 0), (.int .i64 0), (.int .i64 0)] [(0, 1, (.int .i64 0)), (1, 1, (.int .i64 1)), (2, 1, (.int .i64 0))] fun x6 =>
 pBuild [(.int .i64 0), (.int .i64 0), (.int .i64 0)] [(0, 1, (.int .i64 1)), (1, 1, (.int .i64 2)), (2, 1, (.int .i64 0))] fun x7 =>
 pBuild [(.int .i64 0), (.int .i64 0), (.int .i64 0)] [(0, 1, (.int .i64 2)), (1, 1, (.int .i64 3)), (2, 1, (.int .i64 0))] fun x8 =>
 pBuild [(.int .i64 0), (.int .i64 0), (.int .i64 0)] [(0, 1, (.int .i64 3)), (1, 1, (.int .i64 4)), (2, 1, (.int .i64 0))] fun x9 =>
 pBuildSl H0 42 4 [(.int .i64 0), (.int .i64 0), (.int .i64 0), (.int .i64 0), (.int .i64 0), (.int .i64 0), (.int .i64 0), (.int .i64 0), (.int .i64 0), (.int .i64 0), (.int .i64 0), (.int .i64 0)] [(0, 3, x6), (3, 3, x7), (6, 3, x8), (9, 3, x9)] fun x10 H_1 =>
 ∃ (I_2 : Value → Value → Value → Value → Heap → Prop) (m_3 : Value → Value → Value → Value → Heap → Nat), I_2 x10 (.int .i64 5) (.int .i64 2) (.int .i64 1) H_1 ∧
 ∀ _ : Env, ∀ out1 : Value, ∀ at2 : Value, ∀ size3 : Value, ∀ e4 : Value, ∀ H_4 : Heap, I_2 out1 at2 size3 e4 H_4 →
 pLe e4 (.int .i64 13) fun x12 =>
 pCond x12
 (∃ (I_5 : Value → Value → Value → Heap → Prop) (m_6 : Value → Value → Value → Heap → Nat), I_5 out1 at2 (.int .i64 0) H_4 ∧
 ∀ _ : Env, ∀ out1' : Value, ∀ at2' : Value, ∀ i5 : Value, ∀ H_7 : Heap, I_5 out1' at2' i5 H_7 →
 pLt i5 (.int .i64 2) fun x16 =>
 pCond x16
 (pLen out1' fun x21 =>
 pBuild [(.int .i64 0), (.int .i64 0), (.int .i64 0)] [(0, 1, x21), (1, 1, at2'), (2, 1, e4)] fun x24 =>
 pBuildSl H_7 42 1 [(.int .i64 0), (.int .i64 0), (.int .i64 0)] [(0, 3, x24)] fun x25 H_8 =>
 pAppend H_8 42 3 24 [(.int .i64 0), (.int .i64 0), (.int .i64 0)] out1' x25 fun x26 H_9 =>
 pAdd at2' size3 fun x29 =>
 pAdd i5 (.int .i64 1) fun x18 =>
 I_5 x26 x29 x18 H_9 ∧ m_6 x26 x29 x18 H_9 < m_6 out1' at2' i5 H_7)
 (pMul size3 (.int .i64 2) fun x31 =>
 pAdd e4 (.int .i64 1) fun x14 =>
 I_2 out1' at2' x31 x14 H_7 ∧ m_3 out1' at2' x31 x14 H_7 < m_3 out1 at2 size3 e4 H_4))
 (R out1 H_4)
set_option maxRecDepth 100000 in
theorem lighterref05_Dists.vc (H0 : Heap) (R : Value → Heap → Prop) (h : lighterref05_Dists.res H0 R) : CallsH Try.prog 17 #[] H0 R := by
  have e : vcFn Try.prog Try.C Try.f17 lighterref05_Dists.an [] H0 R = lighterref05_Dists.res H0 R := by kernel_rfl
  exact vcFn_sound Try.callable Try.mixed Try.func17 (by kernel_rfl) (e.mpr h)

def lighterref05_Find.an : Ann := (.seq (.reg (.op 0 [] .nil)) (.seq (.reg (.op 0 [] (.op 1 [] (.op 2 [] (.op 3 [] (.op 4 [] .nil)))))) (.seq (.seq (.reg (.op 0 [] .nil)) (.block (.loop [6] [6, 10, 11, 12, 13, 14, 15, 16, 17, 18, 19, 20, 21, 22, 23, 24, 25, 26] (.seq (.seq (.reg (.op 0 [] (.op 1 [] (.op 2 [] (.op 3 [] .nil))))) (.cond .leaf .leaf)) (.cut [] [16, 17, 18, 19, 20, 21, 22, 23, 24, 25, 26] (.block (.seq (.reg (.op 0 [] (.op 1 [] (.op 2 [] (.op 3 [] (.op 4 [] (.op 5 [] (.op 6 [] .nil)))))))) (.cond (.reg (.op 0 [] (.op 1 [] (.op 2 [] (.op 3 [] (.op 4 [] .nil)))))) .leaf))) (.reg (.op 0 [] (.op 1 [] (.op 2 [] .nil))))))))) (.seq (.reg (.op 0 [] (.op 1 [] .nil))) .leaf))))
/-- lighter/lighterref05.Find -/
def lighterref05_Find.res (l0 : Value) (n1 : Value) (H0 : Heap) (R : Value → Heap → Prop) : Prop :=
 pBox H0 42 (.agg #[(.int .i64 0), (.int .i64 0), (.int .i64 0)]) fun x4 H_1 =>
 pIdxSl 3 l0 (.int .i64 0) fun x8 =>
 pLoadN H_1 3 x8 fun x9 =>
 pBox H_1 42 (.agg #[(.int .i64 0), (.int .i64 0), (.int .i64 0)]) fun out5 H_2 =>
 pStoreN H_2 3 out5 x9 fun _ H_3 =>
 ∃ (I_4 : Value → Heap → Prop) (m_5 : Value → Heap → Nat), I_4 (.int .i64 0) H_3 ∧
 ∀ _ : Env, ∀ i6 : Value, ∀ H_6 : Heap, I_4 i6 H_6 →
 pLen l0 fun x12 =>
 pLt i6 x12 fun x13 =>
 pCond x13
 (∃ J_7 : Heap → Prop, (∀ _ : Env, ∀ H_8 : Heap, J_7 H_8 →
 pAdd i6 (.int .i64 1) fun x15 =>
 I_4 x15 H_8 ∧ m_5 x15 H_8 < m_5 i6 H_6) ∧
 pIdxSl 3 l0 i6 fun x18 =>
 pFieldAddr 1 x18 fun x19 =>
 pLoad H_6 x19 fun x20 =>
 pLe x20 n1 fun x22 =>
 pCond x22
 (pIdxSl 3 l0 i6 fun x25 =>
 pLoadN H_6 3 x25 fun x26 =>
 pStoreN H_6 3 out5 x26 fun _ H_9 =>
 J_7 H_9)
 (J_7 H_6))
 (pLoadN H_6 3 out5 fun x27 =>
 pStoreN H_6 3 x4 x27 fun _ H_10 =>
 pLoadN H_10 3 x4 fun r_11 =>
 R r_11 H_10)
set_option maxRecDepth 100000 in
theorem lighterref05_Find.vc (l0 : Value) (n1 : Value) (H0 : Heap) (R : Value → Heap → Prop) (h : lighterref05_Find.res l0 n1 H0 R) : CallsH Try.prog 20 #[l0, n1] H0 R := by
  have e : vcFn Try.prog Try.C Try.f20 lighterref05_Find.an [l0, n1] H0 R = lighterref05_Find.res l0 n1 H0 R := by kernel_rfl
  exact vcFn_sound Try.callable Try.mixed Try.func20 (by kernel_rfl) (e.mpr h)

end Go.Proofs.Ytabfckcbijinkaa
