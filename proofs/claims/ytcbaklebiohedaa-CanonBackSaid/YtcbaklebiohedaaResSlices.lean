/- The residuals of package slices's functions, printed by resid.py. -/
import Derived.Test.YtcbaklebiohedaaVcSeat
namespace Go.Proofs.Ytcbaklebiohedaa
open Go Go.Vc Go.Proofs
set_option linter.unusedVariables false
set_option maxHeartbeats 4000000
def slices_ContainsFunc_s_int_int.an : Ann := (.seq (.reg (.op 0 [] .nil)) (.seq (.reg (.op 0 [] (.op 1 [] (.op 2 [] (.op 3 [] (.op 4 [] .nil)))))) .leaf))
/-- slices.ContainsFunc[[]int,int] -/
def slices_ContainsFunc_s_int_int.res (s0 : Value) (f1 : Value) (H0 : Heap) (R : Value → Heap → Prop) : Prop :=
 CallsH Try.prog 38 #[s0, f1] H0 fun x7 H_1 =>
 pGe x7 (.int .i64 0) fun x8 =>
 R x8 H_1
set_option maxRecDepth 100000 in
theorem slices_ContainsFunc_s_int_int.vc (s0 : Value) (f1 : Value) (H0 : Heap) (R : Value → Heap → Prop) (h : slices_ContainsFunc_s_int_int.res s0 f1 H0 R) : CallsH Try.prog 28 #[s0, f1] H0 R := by
  have e : vcFn Try.prog Try.C Try.f28 slices_ContainsFunc_s_int_int.an [s0, f1] H0 R = slices_ContainsFunc_s_int_int.res s0 f1 H0 R := by kernel_rfl
  exact vcFn_sound Try.callable Try.mixed Try.func28 (by kernel_rfl) (e.mpr h)

def slices_Clone_s_int_int.an : Ann := (.seq (.reg (.op 0 [] .nil)) (.seq (.seq (.reg (.op 0 [] (.op 1 [] .nil))) (.cond (.seq (.reg (.op 0 [] .nil)) .leaf) .leaf)) (.seq (.reg (.op 0 [] (.op 1 [] (.op 2 [] (.op 3 [] .nil))))) .leaf)))
/-- slices.Clone[[]int,int] -/
def slices_Clone_s_int_int.res (s0 : Value) (H0 : Heap) (R : Value → Heap → Prop) : Prop :=
 pEq 4 s0 (.slice none 0 0) fun x4 =>
 pCond x4
 (R (.slice none 0 0) H0)
 (pBuildSl H0 3 0 [] [] fun x5 H_1 =>
 pAppend H_1 3 1 8 [(.int .i64 0)] x5 s0 fun x7 H_2 =>
 R x7 H_2)
set_option maxRecDepth 100000 in
theorem slices_Clone_s_int_int.vc (s0 : Value) (H0 : Heap) (R : Value → Heap → Prop) (h : slices_Clone_s_int_int.res s0 H0 R) : CallsH Try.prog 29 #[s0] H0 R := by
  have e : vcFn Try.prog Try.C Try.f29 slices_Clone_s_int_int.an [s0] H0 R = slices_Clone_s_int_int.res s0 H0 R := by kernel_rfl
  exact vcFn_sound Try.callable Try.mixed Try.func29 (by kernel_rfl) (e.mpr h)

def slices_IndexFunc_s_int_int.an : Ann := (.seq (.reg (.op 0 [] .nil)) (.seq (.seq (.reg (.op 0 [] (.op 1 [] (.op 2 [] .nil)))) (.block (.loop [8] [4, 5, 8, 9, 10, 11, 12, 13, 14, 15, 16, 17, 18] (.seq (.reg (.op 0 [] .nil)) (.seq (.cond .leaf .leaf) (.seq (.block (.seq (.reg (.op 0 [] (.op 1 [] .nil))) (.seq (.reg (.op 0 [] (.op 1 [] (.op 2 [] (.op 3 [] (.op 4 [] (.op 5 [] .nil))))))) (.cond (.seq (.reg (.op 0 [] (.op 1 [] .nil))) .leaf) .leaf)))) (.reg (.op 0 [] (.op 1 [] .nil))))))))) (.seq (.reg (.op 0 [] .nil)) .leaf)))
/-- slices.IndexFunc[[]int,int] -/
def slices_IndexFunc_s_int_int.res (s0 : Value) (f1 : Value) (H0 : Heap) (R : Value → Heap → Prop) : Prop :=
 pLen s0 fun x7 =>
 ∃ (I_1 : Value → Heap → Prop) (m_2 : Value → Heap → Nat), I_1 (.int .i64 0) H0 ∧
 ∀ _ : Env, ∀ x8 : Value, ∀ H_3 : Heap, I_1 x8 H_3 →
 pLt x8 x7 fun x9 =>
 pCond x9
 (pIdxSl 1 s0 x8 fun x14 =>
 pLoad H_3 x14 fun x15 =>
 callH Try.prog Try.C f1 [x15] H_3 fun x16 H_4 =>
 pCond x16
 (R x8 H_4)
 (pAdd x8 (.int .i64 1) fun x18 =>
 I_1 x18 H_4 ∧ m_2 x18 H_4 < m_2 x8 H_3))
 (R (.int .i64 (-1)) H_3)
set_option maxRecDepth 100000 in
theorem slices_IndexFunc_s_int_int.vc (s0 : Value) (f1 : Value) (H0 : Heap) (R : Value → Heap → Prop) (h : slices_IndexFunc_s_int_int.res s0 f1 H0 R) : CallsH Try.prog 38 #[s0, f1] H0 R := by
  have e : vcFn Try.prog Try.C Try.f38 slices_IndexFunc_s_int_int.an [s0, f1] H0 R = slices_IndexFunc_s_int_int.res s0 f1 H0 R := by kernel_rfl
  exact vcFn_sound Try.callable Try.mixed Try.func38 (by kernel_rfl) (e.mpr h)

def slices_ContainsFunc_s_canon_word_canon_word.an : Ann := (.seq (.reg (.op 0 [] .nil)) (.seq (.reg (.op 0 [] (.op 1 [] (.op 2 [] (.op 3 [] (.op 4 [] .nil)))))) .leaf))
/-- slices.ContainsFunc[[]lighter/canon.word,lighter/canon.word] -/
def slices_ContainsFunc_s_canon_word_canon_word.res (s0 : Value) (f1 : Value) (H0 : Heap) (R : Value → Heap → Prop) : Prop :=
 CallsH Try.prog 43 #[s0, f1] H0 fun x7 H_1 =>
 pGe x7 (.int .i64 0) fun x8 =>
 R x8 H_1
set_option maxRecDepth 100000 in
theorem slices_ContainsFunc_s_canon_word_canon_word.vc (s0 : Value) (f1 : Value) (H0 : Heap) (R : Value → Heap → Prop) (h : slices_ContainsFunc_s_canon_word_canon_word.res s0 f1 H0 R) : CallsH Try.prog 41 #[s0, f1] H0 R := by
  have e : vcFn Try.prog Try.C Try.f41 slices_ContainsFunc_s_canon_word_canon_word.an [s0, f1] H0 R = slices_ContainsFunc_s_canon_word_canon_word.res s0 f1 H0 R := by kernel_rfl
  exact vcFn_sound Try.callable Try.mixed Try.func41 (by kernel_rfl) (e.mpr h)

def slices_IndexFunc_s_canon_word_canon_word.an : Ann := (.seq (.reg (.op 0 [] .nil)) (.seq (.seq (.reg (.op 0 [] (.op 1 [] (.op 2 [] .nil)))) (.block (.loop [8] [4, 5, 8, 9, 10, 11, 12, 13, 14, 15, 16, 17, 18] (.seq (.reg (.op 0 [] .nil)) (.seq (.cond .leaf .leaf) (.seq (.block (.seq (.reg (.op 0 [] (.op 1 [] .nil))) (.seq (.reg (.op 0 [] (.op 1 [] (.op 2 [] (.op 3 [] (.op 4 [] (.op 5 [] .nil))))))) (.cond (.seq (.reg (.op 0 [] (.op 1 [] .nil))) .leaf) .leaf)))) (.reg (.op 0 [] (.op 1 [] .nil))))))))) (.seq (.reg (.op 0 [] .nil)) .leaf)))
/-- slices.IndexFunc[[]lighter/canon.word,lighter/canon.word] -/
def slices_IndexFunc_s_canon_word_canon_word.res (s0 : Value) (f1 : Value) (H0 : Heap) (R : Value → Heap → Prop) : Prop :=
 pLen s0 fun x7 =>
 ∃ (I_1 : Value → Heap → Prop) (m_2 : Value → Heap → Nat), I_1 (.int .i64 0) H0 ∧
 ∀ _ : Env, ∀ x8 : Value, ∀ H_3 : Heap, I_1 x8 H_3 →
 pLt x8 x7 fun x9 =>
 pCond x9
 (pIdxSl 2 s0 x8 fun x14 =>
 pLoadN H_3 2 x14 fun x15 =>
 callH Try.prog Try.C f1 [x15] H_3 fun x16 H_4 =>
 pCond x16
 (R x8 H_4)
 (pAdd x8 (.int .i64 1) fun x18 =>
 I_1 x18 H_4 ∧ m_2 x18 H_4 < m_2 x8 H_3))
 (R (.int .i64 (-1)) H_3)
set_option maxRecDepth 100000 in
theorem slices_IndexFunc_s_canon_word_canon_word.vc (s0 : Value) (f1 : Value) (H0 : Heap) (R : Value → Heap → Prop) (h : slices_IndexFunc_s_canon_word_canon_word.res s0 f1 H0 R) : CallsH Try.prog 43 #[s0, f1] H0 R := by
  have e : vcFn Try.prog Try.C Try.f43 slices_IndexFunc_s_canon_word_canon_word.an [s0, f1] H0 R = slices_IndexFunc_s_canon_word_canon_word.res s0 f1 H0 R := by kernel_rfl
  exact vcFn_sound Try.callable Try.mixed Try.func43 (by kernel_rfl) (e.mpr h)

end Go.Proofs.Ytcbaklebiohedaa
