/- The residuals of functions, printed by resid.py. -/
import Derived.Test.YtpnkoniomalcpaaDoorVcSeat
namespace Go.Proofs.YtpnkoniomalcpaaDoor
open Go Go.Vc Go.Proofs
set_option linter.unusedVariables false
set_option maxHeartbeats 4000000
def lighterref03_Why.an : Ann := (.seq (.reg (.op 0 [] .nil)) (.seq (.seq (.reg (.op 0 [] (.op 1 [] (.op 2 [] .nil)))) (.cond (.seq (.reg (.op 0 [] .nil)) .leaf) .leaf)) (.seq (.seq (.reg (.op 0 [] .nil)) (.block (.loop [5] [4, 5, 15, 16, 17, 18, 19, 20, 21, 22, 23, 24, 25, 26, 27, 28, 29, 30, 31, 32] (.seq (.seq (.reg (.op 0 [] (.op 1 [] (.op 2 [] (.op 3 [] .nil))))) (.cond .leaf .leaf)) (.seq (.block (.seq (.reg (.op 0 [] (.op 1 [] (.op 2 [] (.op 3 [] (.op 4 [] (.op 5 [] (.grp 5 (.op 6 [] (.op 7 [] (.op 8 [] (.op 9 [] (.op 10 [] .nil))))) 11 .nil)))))))) (.cond (.seq (.reg (.op 0 [] .nil)) .leaf) .leaf))) (.reg (.op 0 [] (.op 1 [] (.op 2 [] .nil))))))))) (.seq (.reg (.op 0 [] (.op 1 [] (.op 2 [] .nil)))) (.seq (.seq (.reg (.op 0 [] .nil)) (.block (.loop [6, 7, 8, 9] [6, 7, 8, 9, 10, 11, 33, 34, 35, 36, 37, 38, 39, 40, 41, 42, 43, 44, 45, 46, 47, 48, 49, 50, 51, 52, 53, 54, 55, 56, 57, 58, 59, 60, 61, 62, 63, 64, 65] (.seq (.seq (.reg (.op 0 [] (.op 1 [] (.op 2 [] (.op 3 [] .nil))))) (.cond .leaf .leaf)) (.cut [6, 7, 8] [6, 7, 8, 10, 11, 39, 40, 41, 42, 43, 44, 45, 46, 47, 48, 49, 50, 51, 52, 53, 54, 55, 56, 57, 58, 59, 60, 61, 62, 63, 64, 65] (.block (.seq (.seq (.reg (.op 0 [] (.op 1 [] (.op 2 [] (.op 3 [] (.op 4 [] .nil)))))) (.cond .leaf .leaf)) (.seq (.reg (.op 0 [] .nil)) (.seq (.seq (.reg (.op 0 [] .nil)) (.block (.loop [10, 11] [10, 11, 44, 45, 46, 47, 48, 49, 50, 51, 52, 53] (.seq (.seq (.reg (.op 0 [] (.op 1 [] (.op 2 [] (.op 3 [] (.op 4 [] (.op 5 [] .nil))))))) (.cond .leaf .leaf)) (.seq (.block (.reg (.op 0 [] (.op 1 [] (.op 2 [] .nil))))) (.reg (.op 0 [] (.op 1 [] (.op 2 [] .nil))))))))) (.seq (.reg (.op 0 [] (.op 1 [] (.op 2 [] (.op 3 [] .nil))))) (.seq (.reg (.op 0 [] (.op 1 [] (.op 2 [] .nil)))) (.seq (.reg (.op 0 [] (.op 1 [] (.op 2 [] (.op 3 [] (.op 4 [] .nil)))))) (.cond (.reg (.op 0 [] (.op 1 [] (.op 2 [] .nil)))) .leaf)))))))) (.reg (.op 0 [] (.op 1 [] (.op 2 [] .nil))))))))) (.seq (.seq (.reg (.op 0 [] (.op 1 [] .nil))) (.cond (.seq (.reg (.op 0 [] .nil)) .leaf) .leaf)) (.seq (.seq (.reg (.op 0 [] (.op 1 [] (.op 2 [] (.grp 2 (.op 3 [] (.op 4 [] (.grp 4 (.op 5 [] (.op 6 [] (.op 7 [] (.grp 7 (.op 8 [] (.op 9 [] (.op 10 [] (.grp 10 (.op 11 [] (.op 12 [] .nil)) 13 .nil)))) 14 .nil)))) 15 (.op 16 [] .nil)))) 17 .nil))))) (.cond (.seq (.reg (.op 0 [] .nil)) .leaf) .leaf)) (.seq (.reg (.op 0 [] .nil)) .leaf))))))))
/-- lighter/lighterref03.Why -/
def lighterref03_Why.res (l0 : Value) (loose1 : Value) (H0 : Heap) (R : Value → Heap → Prop) : Prop :=
 pLen l0 fun x13 =>
 pGt x13 (.int .i64 288) fun x14 =>
 pCond x14
 (R (.int .i64 1) H0)
 (∃ (I_1 : Value → Heap → Prop) (m_2 : Value → Heap → Nat), I_1 (.int .i64 0) H0 ∧
 ∀ _ : Env, ∀ i5 : Value, ∀ H_3 : Heap, I_1 i5 H_3 →
 pLen l0 fun x17 =>
 pLt i5 x17 fun x18 =>
 pCond x18
 (pIdxSl 1 l0 i5 fun x23 =>
 pLoad H_3 x23 fun x24 =>
 pLt x24 (.int .i64 0) fun x25 =>
 pOr x25 (fun J_4 =>
 pIdxSl 1 l0 i5 fun x29 =>
 pLoad H_3 x29 fun x30 =>
 pGt x30 (.int .i64 15) fun x31 =>
 J_4 x31 H_3) H_3 fun x32 H_5 => ∀ _ : Env,
 pCond x32
 (R (.int .i64 1) H_5)
 (pAdd i5 (.int .i64 1) fun x20 =>
 I_1 x20 H_5 ∧ m_2 x20 H_5 < m_2 i5 H_3))
 (∃ (I_6 : Value → Value → Value → Value → Heap → Prop) (m_7 : Value → Value → Value → Value → Heap → Nat), I_6 (.int .i64 0) (.int .i64 0) (.int .i64 0) (.int .i64 0) H_3 ∧
 ∀ _ : Env, ∀ sum6 : Value, ∀ all7 : Value, ∀ ones8 : Value, ∀ i9 : Value, ∀ H_8 : Heap, I_6 sum6 all7 ones8 i9 H_8 →
 pLen l0 fun x35 =>
 pLt i9 x35 fun x36 =>
 pCond x36
 (∃ J_9 : Value → Value → Value → Heap → Prop, (∀ _ : Env, ∀ sum6' : Value, ∀ all7' : Value, ∀ ones8' : Value, ∀ H_10 : Heap, J_9 sum6' all7' ones8' H_10 →
 pAdd i9 (.int .i64 1) fun x38 =>
 I_6 sum6' all7' ones8' x38 H_10 ∧ m_7 sum6' all7' ones8' x38 H_10 < m_7 sum6 all7 ones8 i9 H_8) ∧
 pIdxSl 1 l0 i9 fun x41 =>
 pLoad H_8 x41 fun x42 =>
 pEq 0 x42 (.int .i64 0) fun x43 =>
 pCond x43
 (J_9 sum6 all7 ones8 H_8)
 (∃ (I_11 : Value → Value → Heap → Prop) (m_12 : Value → Value → Heap → Nat), I_11 (.int .i64 32768) (.int .i64 0) H_8 ∧
 ∀ _ : Env, ∀ p10 : Value, ∀ k11 : Value, ∀ H_13 : Heap, I_11 p10 k11 H_13 →
 pIdxSl 1 l0 i9 fun x47 =>
 pLoad H_13 x47 fun x48 =>
 pLt k11 x48 fun x49 =>
 pCond x49
 (pQuo p10 (.int .i64 2) fun x53 =>
 pAdd k11 (.int .i64 1) fun x51 =>
 I_11 x53 x51 H_13 ∧ m_12 x53 x51 H_13 < m_12 p10 k11 H_13)
 (pAdd sum6 p10 fun x56 =>
 pAdd all7 (.int .i64 1) fun x58 =>
 pIdxSl 1 l0 i9 fun x61 =>
 pLoad H_13 x61 fun x62 =>
 pEq 0 x62 (.int .i64 1) fun x63 =>
 pCond x63
 (pAdd ones8 (.int .i64 1) fun x65 =>
 J_9 x56 x58 x65 H_13)
 (J_9 x56 x58 ones8 H_13))))
 (pGt sum6 (.int .i64 32768) fun x67 =>
 pCond x67
 (R (.int .i64 5) H_8)
 (pLt sum6 (.int .i64 32768) fun x69 =>
 pAnd x69 (fun J_14 =>
 pAnd loose1 (fun J_16 =>
 pEq 0 all7 (.int .i64 0) fun x74 =>
 pOr x74 (fun J_18 =>
 pEq 0 all7 (.int .i64 1) fun x77 =>
 pAnd x77 (fun J_20 =>
 pEq 0 ones8 (.int .i64 1) fun x80 =>
 J_20 x80 H_8) H_8 fun x81 H_21 => ∀ _ : Env,
 J_18 x81 H_21) H_8 fun x82 H_19 => ∀ _ : Env,
 J_16 x82 H_19) H_8 fun x83 H_17 => ∀ _ : Env,
 pNot x83 fun x84 =>
 J_14 x84 H_17) H_8 fun x85 H_15 => ∀ _ : Env,
 pCond x85
 (R (.int .i64 4) H_15)
 (R (.int .i64 0) H_15)))))
set_option maxRecDepth 100000 in
theorem lighterref03_Why.vc (l0 : Value) (loose1 : Value) (H0 : Heap) (R : Value → Heap → Prop) (h : lighterref03_Why.res l0 loose1 H0 R) : CallsH Tryd.prog 78 #[l0, loose1] H0 R := by
  have e : vcFn Tryd.prog Tryd.C Tryd.f78 lighterref03_Why.an [l0, loose1] H0 R = lighterref03_Why.res l0 loose1 H0 R := by kernel_rfl
  exact vcFn_sound Tryd.callable Tryd.mixed Tryd.func78 (by kernel_rfl) (e.mpr h)

def lighterref03_Find.an : Ann := (.seq (.reg (.op 0 [] .nil)) (.seq (.reg (.op 0 [] .nil)) (.seq (.seq (.reg (.op 0 [] .nil)) (.block (.loop [5, 6] [4, 5, 6, 7, 8, 9, 10, 11, 12, 13, 14, 15, 16, 17, 18, 19, 20, 21, 22, 23, 24, 25, 26, 27, 28, 29, 30, 31, 32, 33, 34, 35, 36, 37, 38, 39, 40, 41, 42, 43, 44, 45, 46] (.seq (.seq (.reg (.op 0 [] (.op 1 [] (.op 2 [] (.op 3 [] .nil))))) (.cond .leaf .leaf)) (.cut [5] [4, 5, 7, 14, 15, 16, 17, 18, 19, 20, 21, 22, 23, 24, 25, 26, 27, 28, 29, 30, 31, 32, 33, 34, 35, 36, 37, 38, 39, 40, 41, 42, 43, 44, 45, 46] (.block (.seq (.reg (.op 0 [] (.op 1 [] (.op 2 [] (.op 3 [] (.op 4 [] .nil)))))) (.seq (.seq (.reg (.op 0 [] (.op 1 [] .nil))) (.cond .leaf .leaf)) (.seq (.seq (.reg (.op 0 [] (.op 1 [] (.op 2 [] (.op 3 [] (.op 4 [] (.op 5 [] (.grp 5 (.op 6 [] (.op 7 [] (.op 8 [] (.op 9 [] (.op 10 [] (.op 11 [] .nil)))))) 12 .nil)))))))) (.cond (.seq (.reg (.op 0 [] (.op 1 [] .nil))) .leaf) .leaf)) (.seq (.reg (.op 0 [] (.op 1 [] (.op 2 [] (.op 3 [] (.op 4 [] (.op 5 [] (.grp 5 (.op 6 [] (.op 7 [] (.op 8 [] (.op 9 [] (.op 10 [] (.op 11 [] .nil)))))) 12 .nil)))))))) (.cond (.reg (.op 0 [] .nil)) .leaf)))))) (.reg (.op 0 [] (.op 1 [] (.op 2 [] .nil))))))))) (.seq (.seq (.reg (.op 0 [] .nil)) (.cond (.seq (.reg (.op 0 [] .nil)) .leaf) .leaf)) (.seq (.reg (.op 0 [] .nil)) .leaf)))))
/-- lighter/lighterref03.Find -/
def lighterref03_Find.res (words0 : Value) (s1 : Value) (H0 : Heap) (R : Value → Heap → Prop) : Prop :=
 ∃ (I_1 : Value → Value → Heap → Prop) (m_2 : Value → Value → Heap → Nat), I_1 (.bool false) (.int .i64 0) H0 ∧
 ∀ _ : Env, ∀ more5 : Value, ∀ i6 : Value, ∀ H_3 : Heap, I_1 more5 i6 H_3 →
 pLen words0 fun x10 =>
 pLt i6 x10 fun x11 =>
 pCond x11
 (∃ J_4 : Value → Heap → Prop, (∀ _ : Env, ∀ more5' : Value, ∀ H_5 : Heap, J_4 more5' H_5 →
 pAdd i6 (.int .i64 1) fun x13 =>
 I_1 more5' x13 H_5 ∧ m_2 more5' x13 H_5 < m_2 more5 i6 H_3) ∧
 pIdxSl 1 words0 i6 fun x16 =>
 pLoad H_3 x16 fun x17 =>
 pEq 1 x17 (str []) fun x19 =>
 pCond x19
 (J_4 more5 H_3)
 (pLenS x17 fun x21 =>
 pLenS s1 fun x23 =>
 pLe x21 x23 fun x24 =>
 pAnd x24 (fun J_6 =>
 pLenS x17 fun x28 =>
 pSlStr s1 none (some x28) fun x29 =>
 pEq 1 x29 x17 fun x31 =>
 J_6 x31 H_3) H_3 fun x32 H_7 => ∀ _ : Env,
 pCond x32
 (R i6 H_7)
 (pLenS x17 fun x35 =>
 pLenS s1 fun x37 =>
 pGt x35 x37 fun x38 =>
 pAnd x38 (fun J_8 =>
 pLenS s1 fun x42 =>
 pSlStr x17 none (some x42) fun x43 =>
 pEq 1 x43 s1 fun x45 =>
 J_8 x45 H_7) H_7 fun x46 H_9 => ∀ _ : Env,
 pCond x46
 (J_4 (.bool true) H_9)
 (J_4 more5 H_9))))
 (pCond more5
 (R (.int .i64 (-2)) H_3)
 (R (.int .i64 (-1)) H_3))
set_option maxRecDepth 100000 in
theorem lighterref03_Find.vc (words0 : Value) (s1 : Value) (H0 : Heap) (R : Value → Heap → Prop) (h : lighterref03_Find.res words0 s1 H0 R) : CallsH Tryd.prog 93 #[words0, s1] H0 R := by
  have e : vcFn Tryd.prog Tryd.C Tryd.f93 lighterref03_Find.an [words0, s1] H0 R = lighterref03_Find.res words0 s1 H0 R := by kernel_rfl
  exact vcFn_sound Tryd.callable Tryd.mixed Tryd.func93 (by kernel_rfl) (e.mpr h)

def slices_ContainsFunc_s_int_int.an : Ann := (.seq (.reg (.op 0 [] .nil)) (.seq (.reg (.op 0 [] (.op 1 [] (.op 2 [] (.op 3 [] (.op 4 [] .nil)))))) .leaf))
/-- slices.ContainsFunc[[]int,int] -/
def slices_ContainsFunc_s_int_int.res (s0 : Value) (f1 : Value) (H0 : Heap) (R : Value → Heap → Prop) : Prop :=
 CallsH Tryd.prog 96 #[s0, f1] H0 fun x7 H_1 =>
 pGe x7 (.int .i64 0) fun x8 =>
 R x8 H_1
set_option maxRecDepth 100000 in
theorem slices_ContainsFunc_s_int_int.vc (s0 : Value) (f1 : Value) (H0 : Heap) (R : Value → Heap → Prop) (h : slices_ContainsFunc_s_int_int.res s0 f1 H0 R) : CallsH Tryd.prog 80 #[s0, f1] H0 R := by
  have e : vcFn Tryd.prog Tryd.C Tryd.f80 slices_ContainsFunc_s_int_int.an [s0, f1] H0 R = slices_ContainsFunc_s_int_int.res s0 f1 H0 R := by kernel_rfl
  exact vcFn_sound Tryd.callable Tryd.mixed Tryd.func80 (by kernel_rfl) (e.mpr h)

def slices_Clone_s_int_int.an : Ann := (.seq (.reg (.op 0 [] .nil)) (.seq (.seq (.reg (.op 0 [] (.op 1 [] .nil))) (.cond (.seq (.reg (.op 0 [] .nil)) .leaf) .leaf)) (.seq (.reg (.op 0 [] (.op 1 [] (.op 2 [] (.op 3 [] .nil))))) .leaf)))
/-- slices.Clone[[]int,int] -/
def slices_Clone_s_int_int.res (s0 : Value) (H0 : Heap) (R : Value → Heap → Prop) : Prop :=
 pEq 4 s0 (.slice none 0 0) fun x4 =>
 pCond x4
 (R (.slice none 0 0) H0)
 (pBuildSl H0 3 0 [] [] fun x5 H_1 =>
 pAppend H_1 3 1 8 [(.int .i64 0)] x5 s0 fun x7 H_2 =>
 R x7 H_2)
set_option maxRecDepth 100000 in
theorem slices_Clone_s_int_int.vc (s0 : Value) (H0 : Heap) (R : Value → Heap → Prop) (h : slices_Clone_s_int_int.res s0 H0 R) : CallsH Tryd.prog 81 #[s0] H0 R := by
  have e : vcFn Tryd.prog Tryd.C Tryd.f81 slices_Clone_s_int_int.an [s0] H0 R = slices_Clone_s_int_int.res s0 H0 R := by kernel_rfl
  exact vcFn_sound Tryd.callable Tryd.mixed Tryd.func81 (by kernel_rfl) (e.mpr h)

def slices_ContainsFunc_s_canon_word_canon_word.an : Ann := (.seq (.reg (.op 0 [] .nil)) (.seq (.reg (.op 0 [] (.op 1 [] (.op 2 [] (.op 3 [] (.op 4 [] .nil)))))) .leaf))
/-- slices.ContainsFunc[[]lighter/canon.word,lighter/canon.word] -/
def slices_ContainsFunc_s_canon_word_canon_word.res (s0 : Value) (f1 : Value) (H0 : Heap) (R : Value → Heap → Prop) : Prop :=
 CallsH Tryd.prog 98 #[s0, f1] H0 fun x7 H_1 =>
 pGe x7 (.int .i64 0) fun x8 =>
 R x8 H_1
set_option maxRecDepth 100000 in
theorem slices_ContainsFunc_s_canon_word_canon_word.vc (s0 : Value) (f1 : Value) (H0 : Heap) (R : Value → Heap → Prop) (h : slices_ContainsFunc_s_canon_word_canon_word.res s0 f1 H0 R) : CallsH Tryd.prog 88 #[s0, f1] H0 R := by
  have e : vcFn Tryd.prog Tryd.C Tryd.f88 slices_ContainsFunc_s_canon_word_canon_word.an [s0, f1] H0 R = slices_ContainsFunc_s_canon_word_canon_word.res s0 f1 H0 R := by kernel_rfl
  exact vcFn_sound Tryd.callable Tryd.mixed Tryd.func88 (by kernel_rfl) (e.mpr h)

def slices_IndexFunc_s_int_int.an : Ann := (.seq (.reg (.op 0 [] .nil)) (.seq (.seq (.reg (.op 0 [] (.op 1 [] (.op 2 [] .nil)))) (.block (.loop [8] [4, 5, 8, 9, 10, 11, 12, 13, 14, 15, 16, 17, 18] (.seq (.reg (.op 0 [] .nil)) (.seq (.cond .leaf .leaf) (.seq (.block (.seq (.reg (.op 0 [] (.op 1 [] .nil))) (.seq (.reg (.op 0 [] (.op 1 [] (.op 2 [] (.op 3 [] (.op 4 [] (.op 5 [] .nil))))))) (.cond (.seq (.reg (.op 0 [] (.op 1 [] .nil))) .leaf) .leaf)))) (.reg (.op 0 [] (.op 1 [] .nil))))))))) (.seq (.reg (.op 0 [] .nil)) .leaf)))
/-- slices.IndexFunc[[]int,int] -/
def slices_IndexFunc_s_int_int.res (s0 : Value) (f1 : Value) (H0 : Heap) (R : Value → Heap → Prop) : Prop :=
 pLen s0 fun x7 =>
 ∃ (I_1 : Value → Heap → Prop) (m_2 : Value → Heap → Nat), I_1 (.int .i64 0) H0 ∧
 ∀ _ : Env, ∀ x8 : Value, ∀ H_3 : Heap, I_1 x8 H_3 →
 pLt x8 x7 fun x9 =>
 pCond x9
 (pIdxSl 1 s0 x8 fun x14 =>
 pLoad H_3 x14 fun x15 =>
 callH Tryd.prog Tryd.C f1 [x15] H_3 fun x16 H_4 =>
 pCond x16
 (R x8 H_4)
 (pAdd x8 (.int .i64 1) fun x18 =>
 I_1 x18 H_4 ∧ m_2 x18 H_4 < m_2 x8 H_3))
 (R (.int .i64 (-1)) H_3)
set_option maxRecDepth 100000 in
theorem slices_IndexFunc_s_int_int.vc (s0 : Value) (f1 : Value) (H0 : Heap) (R : Value → Heap → Prop) (h : slices_IndexFunc_s_int_int.res s0 f1 H0 R) : CallsH Tryd.prog 96 #[s0, f1] H0 R := by
  have e : vcFn Tryd.prog Tryd.C Tryd.f96 slices_IndexFunc_s_int_int.an [s0, f1] H0 R = slices_IndexFunc_s_int_int.res s0 f1 H0 R := by kernel_rfl
  exact vcFn_sound Tryd.callable Tryd.mixed Tryd.func96 (by kernel_rfl) (e.mpr h)

def slices_IndexFunc_s_canon_word_canon_word.an : Ann := (.seq (.reg (.op 0 [] .nil)) (.seq (.seq (.reg (.op 0 [] (.op 1 [] (.op 2 [] .nil)))) (.block (.loop [8] [4, 5, 8, 9, 10, 11, 12, 13, 14, 15, 16, 17, 18] (.seq (.reg (.op 0 [] .nil)) (.seq (.cond .leaf .leaf) (.seq (.block (.seq (.reg (.op 0 [] (.op 1 [] .nil))) (.seq (.reg (.op 0 [] (.op 1 [] (.op 2 [] (.op 3 [] (.op 4 [] (.op 5 [] .nil))))))) (.cond (.seq (.reg (.op 0 [] (.op 1 [] .nil))) .leaf) .leaf)))) (.reg (.op 0 [] (.op 1 [] .nil))))))))) (.seq (.reg (.op 0 [] .nil)) .leaf)))
/-- slices.IndexFunc[[]lighter/canon.word,lighter/canon.word] -/
def slices_IndexFunc_s_canon_word_canon_word.res (s0 : Value) (f1 : Value) (H0 : Heap) (R : Value → Heap → Prop) : Prop :=
 pLen s0 fun x7 =>
 ∃ (I_1 : Value → Heap → Prop) (m_2 : Value → Heap → Nat), I_1 (.int .i64 0) H0 ∧
 ∀ _ : Env, ∀ x8 : Value, ∀ H_3 : Heap, I_1 x8 H_3 →
 pLt x8 x7 fun x9 =>
 pCond x9
 (pIdxSl 2 s0 x8 fun x14 =>
 pLoadN H_3 2 x14 fun x15 =>
 callH Tryd.prog Tryd.C f1 [x15] H_3 fun x16 H_4 =>
 pCond x16
 (R x8 H_4)
 (pAdd x8 (.int .i64 1) fun x18 =>
 I_1 x18 H_4 ∧ m_2 x18 H_4 < m_2 x8 H_3))
 (R (.int .i64 (-1)) H_3)
set_option maxRecDepth 100000 in
theorem slices_IndexFunc_s_canon_word_canon_word.vc (s0 : Value) (f1 : Value) (H0 : Heap) (R : Value → Heap → Prop) (h : slices_IndexFunc_s_canon_word_canon_word.res s0 f1 H0 R) : CallsH Tryd.prog 98 #[s0, f1] H0 R := by
  have e : vcFn Tryd.prog Tryd.C Tryd.f98 slices_IndexFunc_s_canon_word_canon_word.an [s0, f1] H0 R = slices_IndexFunc_s_canon_word_canon_word.res s0 f1 H0 R := by kernel_rfl
  exact vcFn_sound Tryd.callable Tryd.mixed Tryd.func98 (by kernel_rfl) (e.mpr h)

end Go.Proofs.YtpnkoniomalcpaaDoor
