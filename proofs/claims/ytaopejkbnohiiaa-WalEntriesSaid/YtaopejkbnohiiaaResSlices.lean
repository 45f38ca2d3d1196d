/- The residuals of package slices's functions, printed by resid.py. -/
import Derived.Test.YtaopejkbnohiiaaVcSeat
namespace Go.Proofs.Ytaopejkbnohiiaa
open Go Go.Vc Go.Proofs
set_option linter.unusedVariables false
set_option maxHeartbeats 4000000
def slices_DeleteFunc_s_int_int.an : Ann := (.seq (.reg (.op 0 [] .nil)) (.seq (.reg (.op 0 [] (.op 1 [] (.op 2 [] (.op 3 [] .nil))))) (.seq (.seq (.reg (.op 0 [] (.op 1 [] .nil))) (.cond (.seq (.reg (.op 0 [] (.op 1 [] .nil))) .leaf) .leaf)) (.seq (.seq (.reg (.op 0 [] (.op 1 [] (.op 2 [] .nil)))) (.block (.loop [5, 6] [5, 6, 7, 16, 17, 18, 19, 20, 21, 22, 23, 24, 25, 26, 27, 28, 29, 30, 31, 32, 33, 34, 35] (.seq (.seq (.reg (.op 0 [] (.op 1 [] (.op 2 [] (.op 3 [] .nil))))) (.cond .leaf .leaf)) (.cut [5] [5, 7, 22, 23, 24, 25, 26, 27, 28, 29, 30, 31, 32, 33, 34, 35] (.block (.seq (.reg (.op 0 [] (.op 1 [] (.op 2 [] (.op 3 [] (.op 4 [] .nil)))))) (.seq (.reg (.op 0 [] (.op 1 [] (.op 2 [] (.op 3 [] .nil))))) (.cond (.seq (.reg (.op 0 [] (.op 1 [] (.op 2 [] (.op 3 [] (.op 4 [] .nil)))))) (.reg (.op 0 [] (.op 1 [] (.op 2 [] .nil))))) .leaf)))) (.reg (.op 0 [] (.op 1 [] (.op 2 [] .nil))))))))) (.seq (.reg (.op 0 [] (.op 1 [] (.op 2 [] (.op 3 [] .nil))))) (.seq (.reg (.op 0 [] (.op 1 [] (.op 2 [] (.op 3 [] .nil))))) .leaf))))))
/-- slices.DeleteFunc[[]int,int] -/
def slices_DeleteFunc_s_int_int.res (s0 : Value) (del1 : Value) (H0 : Heap) (R : Value → Heap → Prop) : Prop :=
 CallsH Try.prog 47 #[s0, del1] H0 fun x10 H_1 =>
 pEq 0 x10 (.int .i64 (-1)) fun x12 =>
 pCond x12
 (R s0 H_1)
 (pAdd x10 (.int .i64 1) fun x15 =>
 ∃ (I_2 : Value → Value → Heap → Prop) (m_3 : Value → Value → Heap → Nat), I_2 x10 x15 H_1 ∧
 ∀ _ : Env, ∀ i5 : Value, ∀ j6 : Value, ∀ H_4 : Heap, I_2 i5 j6 H_4 →
 pLen s0 fun x18 =>
 pLt j6 x18 fun x19 =>
 pCond x19
 (∃ J_5 : Value → Heap → Prop, (∀ _ : Env, ∀ i5' : Value, ∀ H_6 : Heap, J_5 i5' H_6 →
 pAdd j6 (.int .i64 1) fun x21 =>
 I_2 i5' x21 H_6 ∧ m_3 i5' x21 H_6 < m_3 i5 j6 H_4) ∧
 pIdxSl 1 s0 j6 fun x24 =>
 pLoad H_4 x24 fun x25 =>
 callH Try.prog Try.C del1 [x25] H_4 fun x28 H_7 =>
 pNot x28 fun x29 =>
 pCond x29
 (pIdxSl 1 s0 i5 fun x33 =>
 pStore H_7 x33 x25 fun _ H_8 =>
 pAdd i5 (.int .i64 1) fun x35 =>
 J_5 x35 H_8)
 (J_5 i5 H_7))
 (pSlSl 1 s0 (some i5) none fun x38 =>
 pClearS H_4 [(.int .i64 0)] x38 fun _ H_9 =>
 pSlSl 1 s0 none (some i5) fun x41 =>
 R x41 H_9))
set_option maxRecDepth 100000 in
theorem slices_DeleteFunc_s_int_int.vc (s0 : Value) (del1 : Value) (H0 : Heap) (R : Value → Heap → Prop) (h : slices_DeleteFunc_s_int_int.res s0 del1 H0 R) : CallsH Try.prog 28 #[s0, del1] H0 R := by
  have e : vcFn Try.prog Try.C Try.f28 slices_DeleteFunc_s_int_int.an [s0, del1] H0 R = slices_DeleteFunc_s_int_int.res s0 del1 H0 R := by kernel_rfl
  exact vcFn_sound Try.callable Try.mixed Try.func28 (by kernel_rfl) (e.mpr h)

def slices_SortStableFunc_s_wal_Entry_wal_Entry.an : Ann := (.reg (.op 0 [] (.op 1 [] (.op 2 [] (.op 3 [] (.op 4 [] .nil))))))
/-- slices.SortStableFunc[[]lighter/wal.Entry,lighter/wal.Entry] -/
def slices_SortStableFunc_s_wal_Entry_wal_Entry.res (x0 : Value) (cmp1 : Value) (H0 : Heap) (R : Value → Heap → Prop) : Prop :=
 pLen x0 fun x6 =>
 CallsH Try.prog 49 #[x0, x6, cmp1] H0 fun x8 H_1 =>
 R (.tuple #[]) H_1
set_option maxRecDepth 100000 in
theorem slices_SortStableFunc_s_wal_Entry_wal_Entry.vc (x0 : Value) (cmp1 : Value) (H0 : Heap) (R : Value → Heap → Prop) (h : slices_SortStableFunc_s_wal_Entry_wal_Entry.res x0 cmp1 H0 R) : CallsH Try.prog 35 #[x0, cmp1] H0 R := by
  have e : vcFn Try.prog Try.C Try.f35 slices_SortStableFunc_s_wal_Entry_wal_Entry.an [x0, cmp1] H0 R = slices_SortStableFunc_s_wal_Entry_wal_Entry.res x0 cmp1 H0 R := by kernel_rfl
  exact vcFn_sound Try.callable Try.mixed Try.func35 (by kernel_rfl) (e.mpr h)

def slices_IndexFunc_s_int_int.an : Ann := (.seq (.reg (.op 0 [] .nil)) (.seq (.seq (.reg (.op 0 [] (.op 1 [] (.op 2 [] .nil)))) (.block (.loop [8] [4, 5, 8, 9, 10, 11, 12, 13, 14, 15, 16, 17, 18] (.seq (.reg (.op 0 [] .nil)) (.seq (.cond .leaf .leaf) (.seq (.block (.seq (.reg (.op 0 [] (.op 1 [] .nil))) (.seq (.reg (.op 0 [] (.op 1 [] (.op 2 [] (.op 3 [] (.op 4 [] (.op 5 [] .nil))))))) (.cond (.seq (.reg (.op 0 [] (.op 1 [] .nil))) .leaf) .leaf)))) (.reg (.op 0 [] (.op 1 [] .nil))))))))) (.seq (.reg (.op 0 [] .nil)) .leaf)))
/-- slices.IndexFunc[[]int,int] -/
def slices_IndexFunc_s_int_int.res (s0 : Value) (f1 : Value) (H0 : Heap) (R : Value → Heap → Prop) : Prop :=
 pLen s0 fun x7 =>
 ∃ (I_1 : Value → Heap → Prop) (m_2 : Value → Heap → Nat), I_1 (.int .i64 0) H0 ∧
 ∀ _ : Env, ∀ x8 : Value, ∀ H_3 : Heap, I_1 x8 H_3 →
 pLt x8 x7 fun x9 =>
 pCond x9
 (pIdxSl 1 s0 x8 fun x14 =>
 pLoad H_3 x14 fun x15 =>
 callH Try.prog Try.C f1 [x15] H_3 fun x16 H_4 =>
 pCond x16
 (R x8 H_4)
 (pAdd x8 (.int .i64 1) fun x18 =>
 I_1 x18 H_4 ∧ m_2 x18 H_4 < m_2 x8 H_3))
 (R (.int .i64 (-1)) H_3)
set_option maxRecDepth 100000 in
theorem slices_IndexFunc_s_int_int.vc (s0 : Value) (f1 : Value) (H0 : Heap) (R : Value → Heap → Prop) (h : slices_IndexFunc_s_int_int.res s0 f1 H0 R) : CallsH Try.prog 47 #[s0, f1] H0 R := by
  have e : vcFn Try.prog Try.C Try.f47 slices_IndexFunc_s_int_int.an [s0, f1] H0 R = slices_IndexFunc_s_int_int.res s0 f1 H0 R := by kernel_rfl
  exact vcFn_sound Try.callable Try.mixed Try.func47 (by kernel_rfl) (e.mpr h)

def slices_stableCmpFunc_wal_Entry.an : Ann := (.seq (.reg (.op 0 [] .nil)) (.seq (.reg (.op 0 [] (.op 1 [] (.op 2 [] .nil)))) (.seq (.block (.loop [7, 8] [7, 8, 11, 12, 13, 14, 15, 16, 17, 18, 19, 20, 21, 22] (.seq (.seq (.reg (.op 0 [] (.op 1 [] (.op 2 [] .nil)))) (.cond .leaf .leaf)) (.block (.seq (.reg (.op 0 [] (.op 1 [] (.op 2 [] (.op 3 [] (.op 4 [] .nil)))))) (.seq (.reg (.op 0 [] (.op 1 [] .nil))) (.reg (.op 0 [] (.op 1 [] (.op 2 [] (.op 3 [] .nil))))))))))) (.seq (.reg (.op 0 [] (.op 1 [] (.op 2 [] (.op 3 [] (.op 4 [] .nil)))))) (.block (.loop [6] [6, 7, 8, 9, 28, 29, 30, 31, 32, 33, 34, 35, 36, 37, 38, 39, 40, 41, 42, 43, 44, 45, 46, 47, 48, 49, 50, 51, 52, 53, 54, 55, 56, 57, 58, 59, 60, 61, 62] (.seq (.seq (.reg (.op 0 [] (.op 1 [] (.op 2 [] .nil)))) (.cond .leaf .leaf)) (.block (.seq (.reg (.op 0 [] (.op 1 [] (.op 2 [] (.op 3 [] .nil))))) (.seq (.block (.loop [7, 8] [7, 8, 33, 34, 35, 36, 37, 38, 39, 40, 41, 42, 43, 44, 45, 46, 47, 48] (.seq (.seq (.reg (.op 0 [] (.op 1 [] (.op 2 [] .nil)))) (.cond .leaf .leaf)) (.block (.seq (.reg (.op 0 [] (.op 1 [] (.op 2 [] (.op 3 [] (.op 4 [] (.op 5 [] (.op 6 [] (.op 7 [] .nil))))))))) (.seq (.reg (.op 0 [] (.op 1 [] .nil))) (.reg (.op 0 [] (.op 1 [] (.op 2 [] (.op 3 [] (.op 4 [] .nil)))))))))))) (.cut [] [9, 49, 50, 51, 52, 53, 54, 55, 56, 57, 58, 59, 60] (.seq (.reg (.op 0 [] (.op 1 [] (.op 2 [] (.op 3 [] .nil))))) (.seq (.reg (.op 0 [] (.op 1 [] (.op 2 [] .nil)))) (.cond (.reg (.op 0 [] (.op 1 [] (.op 2 [] (.op 3 [] (.op 4 [] (.op 5 [] .nil))))))) .leaf))) (.reg (.op 0 [] (.op 1 [] (.op 2 [] .nil)))))))))))))))
/-- slices.stableCmpFunc[lighter/wal.Entry] -/
def slices_stableCmpFunc_wal_Entry.res (data0 : Value) (n1 : Value) (cmp2 : Value) (H0 : Heap) (R : Value → Heap → Prop) : Prop :=
 ∃ (I_1 : Value → Value → Heap → Prop) (m_2 : Value → Value → Heap → Nat), I_1 (.int .i64 0) (.int .i64 20) H0 ∧
 ∀ _ : Env, ∀ a7 : Value, ∀ b8 : Value, ∀ H_3 : Heap, I_1 a7 b8 H_3 →
 pLe b8 n1 fun x13 =>
 pCond x13
 (CallsH Try.prog 56 #[data0, a7, b8, cmp2] H_3 fun x18 H_4 =>
 pAdd b8 (.int .i64 20) fun x22 =>
 I_1 b8 x22 H_4 ∧ m_2 b8 x22 H_4 < m_2 a7 b8 H_3)
 (CallsH Try.prog 56 #[data0, a7, n1, cmp2] H_3 fun x27 H_5 =>
 ∃ (I_6 : Value → Heap → Prop) (m_7 : Value → Heap → Nat), I_6 (.int .i64 20) H_5 ∧
 ∀ _ : Env, ∀ blockSize6 : Value, ∀ H_8 : Heap, I_6 blockSize6 H_8 →
 pLt blockSize6 n1 fun x30 =>
 pCond x30
 (pMul (.int .i64 2) blockSize6 fun x32 =>
 ∃ (I_9 : Value → Value → Heap → Prop) (m_10 : Value → Value → Heap → Nat), I_9 (.int .i64 0) x32 H_8 ∧
 ∀ _ : Env, ∀ a7' : Value, ∀ b8' : Value, ∀ H_11 : Heap, I_9 a7' b8' H_11 →
 pLe b8' n1 fun x35 =>
 pCond x35
 (pAdd a7' blockSize6 fun x40 =>
 CallsH Try.prog 57 #[data0, a7', x40, b8', cmp2] H_11 fun x43 H_12 =>
 pMul (.int .i64 2) blockSize6 fun x47 =>
 pAdd b8' x47 fun x48 =>
 I_9 b8' x48 H_12 ∧ m_10 b8' x48 H_12 < m_10 a7' b8' H_11)
 (∃ J_13 : Heap → Prop, (∀ _ : Env, ∀ H_14 : Heap, J_13 H_14 →
 pMul blockSize6 (.int .i64 2) fun x62 =>
 I_6 x62 H_14 ∧ m_7 x62 H_14 < m_7 blockSize6 H_8) ∧
 pAdd a7' blockSize6 fun x51 =>
 pLt x51 n1 fun x54 =>
 pCond x54
 (CallsH Try.prog 57 #[data0, a7', x51, n1, cmp2] H_11 fun x60 H_15 =>
 J_13 H_15)
 (J_13 H_11)))
 (R (.tuple #[]) H_8))
set_option maxRecDepth 100000 in
theorem slices_stableCmpFunc_wal_Entry.vc (data0 : Value) (n1 : Value) (cmp2 : Value) (H0 : Heap) (R : Value → Heap → Prop) (h : slices_stableCmpFunc_wal_Entry.res data0 n1 cmp2 H0 R) : CallsH Try.prog 49 #[data0, n1, cmp2] H0 R := by
  have e : vcFn Try.prog Try.C Try.f49 slices_stableCmpFunc_wal_Entry.an [data0, n1, cmp2] H0 R = slices_stableCmpFunc_wal_Entry.res data0 n1 cmp2 H0 R := by kernel_rfl
  exact vcFn_sound Try.callable Try.mixed Try.func49 (by kernel_rfl) (e.mpr h)

def slices_insertionSortCmpFunc_wal_Entry.an : Ann := (.seq (.reg (.op 0 [] (.op 1 [] (.op 2 [] .nil)))) (.block (.loop [8] [8, 9, 12, 13, 14, 15, 16, 17, 18, 19, 20, 21, 22, 23, 24, 25, 26, 27, 28, 29, 30, 31, 32, 33, 34, 35, 36, 37, 38, 39, 40, 41, 42, 43, 44, 45, 46, 47, 48, 49, 50, 51, 52] (.seq (.seq (.reg (.op 0 [] (.op 1 [] (.op 2 [] .nil)))) (.cond .leaf .leaf)) (.seq (.block (.seq (.reg (.op 0 [] (.op 1 [] .nil))) (.block (.loop [9] [9, 18, 19, 20, 21, 22, 23, 24, 25, 26, 27, 28, 29, 30, 31, 32, 33, 34, 35, 36, 37, 38, 39, 40, 41, 42, 43, 44, 45, 46, 47, 48, 49, 50, 51, 52] (.seq (.seq (.drw [0, 0, 3, 7, 15, 15, 15, 111, 239, 15, 15, 1039, 3599, 7695, 16383, 32767, 65535] (.op 0 [] (.op 1 [] (.op 2 [] (.op 3 [] (.grp 3 (.op 4 [] (.op 5 [] (.op 6 [] (.op 7 [] (.op 8 [] (.op 9 [] (.op 10 [] (.op 11 [] (.op 12 [] (.op 13 [] (.op 14 [] (.op 15 [] .nil)))))))))))) 16 .nil)))))) (.cond .leaf .leaf)) (.seq (.block (.drw [0, 0, 0, 0, 8, 0, 0, 64, 224, 480, 0, 0, 3072, 7168, 16355, 32739, 65535, 131071] (.op 0 [] (.op 1 [] (.op 2 [] (.op 3 [] (.op 4 [] (.op 5 [] (.op 6 [] (.op 7 [] (.op 8 [] (.op 9 [] (.op 10 [] (.op 11 [] (.op 12 [] (.op 13 [] (.op 14 [] (.op 15 [] (.op 16 [] (.op 17 [] .nil)))))))))))))))))))) (.reg (.op 0 [] (.op 1 [] (.op 2 [] .nil)))))))))) (.reg (.op 0 [] (.op 1 [] (.op 2 [] .nil)))))))))
/-- slices.insertionSortCmpFunc[lighter/wal.Entry] -/
def slices_insertionSortCmpFunc_wal_Entry.res (data0 : Value) (a1 : Value) (b2 : Value) (cmp3 : Value) (H0 : Heap) (R : Value → Heap → Prop) : Prop :=
 pAdd a1 (.int .i64 1) fun x11 =>
 ∃ (I_1 : Value → Heap → Prop) (m_2 : Value → Heap → Nat), I_1 x11 H0 ∧
 ∀ _ : Env, ∀ i8 : Value, ∀ H_3 : Heap, I_1 i8 H_3 →
 pLt i8 b2 fun x14 =>
 pCond x14
 (∃ (I_4 : Value → Heap → Prop) (m_5 : Value → Heap → Nat), I_4 i8 H_3 ∧
 ∀ _ : Env, ∀ j9 : Value, ∀ H_6 : Heap, I_4 j9 H_6 →
 pGt j9 a1 fun x20 =>
 pAnd x20 (fun J_7 =>
 pIdxSl 2 data0 j9 fun x25 =>
 pLoadN H_6 2 x25 fun x26 =>
 pSub j9 (.int .i64 1) fun x29 =>
 pIdxSl 2 data0 x29 fun x30 =>
 pLoadN H_6 2 x30 fun x31 =>
 callH Try.prog Try.C cmp3 [x26, x31] H_6 fun x32 H_9 =>
 pLt x32 (.int .i64 0) fun x33 =>
 J_7 x33 H_9) H_6 fun x34 H_8 => ∀ _ : Env,
 pCond x34
 (pSub j9 (.int .i64 1) fun x41 =>
 pSub j9 (.int .i64 1) fun x44 =>
 pIdxSl 2 data0 x44 fun x45 =>
 pLoadN H_8 2 x45 fun x46 =>
 pIdxSl 2 data0 j9 fun x49 =>
 pLoadN H_8 2 x49 fun x50 =>
 pIdxSl 2 data0 j9 fun x51 =>
 pStoreN H_8 2 x51 x46 fun _ H_10 =>
 pIdxSl 2 data0 x41 fun x52 =>
 pStoreN H_10 2 x52 x50 fun _ H_11 =>
 pSub j9 (.int .i64 1) fun x36 =>
 I_4 x36 H_11 ∧ m_5 x36 H_11 < m_5 j9 H_6)
 (pAdd i8 (.int .i64 1) fun x16 =>
 I_1 x16 H_8 ∧ m_2 x16 H_8 < m_2 i8 H_3))
 (R (.tuple #[]) H_3)
set_option maxRecDepth 100000 in
theorem slices_insertionSortCmpFunc_wal_Entry.vc (data0 : Value) (a1 : Value) (b2 : Value) (cmp3 : Value) (H0 : Heap) (R : Value → Heap → Prop) (h : slices_insertionSortCmpFunc_wal_Entry.res data0 a1 b2 cmp3 H0 R) : CallsH Try.prog 56 #[data0, a1, b2, cmp3] H0 R := by
  have e : vcFn Try.prog Try.C Try.f56 slices_insertionSortCmpFunc_wal_Entry.an [data0, a1, b2, cmp3] H0 R = slices_insertionSortCmpFunc_wal_Entry.res data0 a1 b2 cmp3 H0 R := by kernel_rfl
  exact vcFn_sound Try.callable Try.mixed Try.func56 (by kernel_rfl) (e.mpr h)

def slices_symMergeCmpFunc_wal_Entry.an : Ann := (.seq (.seq (.reg (.op 0 [] (.op 1 [] (.op 2 [] (.op 3 [] .nil))))) (.cond (.seq (.reg (.op 0 [] (.op 1 [] .nil))) (.seq (.reg (.op 0 [] (.op 1 [] .nil))) (.seq (.block (.loop [10, 11] [10, 11, 12, 31, 32, 33, 34, 35, 36, 37, 38, 39, 40, 41, 42, 43, 44, 45, 46, 47, 48, 49, 50, 51, 52, 53] (.seq (.seq (.reg (.op 0 [] (.op 1 [] (.op 2 [] .nil)))) (.cond .leaf .leaf)) (.block (.seq (.reg (.op 0 [] (.op 1 [] (.op 2 [] (.op 3 [] (.op 4 [] (.op 5 [] (.op 6 [] .nil)))))))) (.seq (.drw [0, 0, 0, 6, 14, 0, 0, 96, 224, 511, 1023] (.op 0 [] (.op 1 [] (.op 2 [] (.op 3 [] (.op 4 [] (.op 5 [] (.op 6 [] (.op 7 [] (.op 8 [] (.op 9 [] (.op 10 [] .nil)))))))))))) (.cond (.reg (.op 0 [] (.op 1 [] (.op 2 [] .nil)))) (.reg (.op 0 [] (.op 1 [] .nil)))))))))) (.seq (.seq (.reg (.op 0 [] (.op 1 [] .nil))) (.block (.loop [13] [13, 55, 56, 57, 58, 59, 60, 61, 62, 63, 64, 65, 66, 67, 68, 69, 70, 71, 72, 73, 74, 75, 76] (.seq (.seq (.reg (.op 0 [] (.op 1 [] (.op 2 [] (.op 3 [] .nil))))) (.cond .leaf .leaf)) (.seq (.block (.drw [0, 0, 0, 0, 8, 0, 0, 64, 224, 480, 0, 0, 3072, 7168, 16355, 32739, 65535, 131071] (.op 0 [] (.op 1 [] (.op 2 [] (.op 3 [] (.op 4 [] (.op 5 [] (.op 6 [] (.op 7 [] (.op 8 [] (.op 9 [] (.op 10 [] (.op 11 [] (.op 12 [] (.op 13 [] (.op 14 [] (.op 15 [] (.op 16 [] (.op 17 [] .nil)))))))))))))))))))) (.reg (.op 0 [] (.op 1 [] (.op 2 [] .nil))))))))) .leaf)))) .leaf)) (.seq (.seq (.reg (.op 0 [] (.op 1 [] (.op 2 [] (.op 3 [] .nil))))) (.cond (.seq (.reg (.op 0 [] (.op 1 [] .nil))) (.seq (.reg (.op 0 [] (.op 1 [] .nil))) (.seq (.block (.loop [14, 15] [14, 15, 16, 83, 84, 85, 86, 87, 88, 89, 90, 91, 92, 93, 94, 95, 96, 97, 98, 99, 100, 101, 102, 103, 104, 105, 106] (.seq (.seq (.reg (.op 0 [] (.op 1 [] (.op 2 [] .nil)))) (.cond .leaf .leaf)) (.block (.seq (.reg (.op 0 [] (.op 1 [] (.op 2 [] (.op 3 [] (.op 4 [] (.op 5 [] (.op 6 [] .nil)))))))) (.seq (.drw [0, 0, 0, 6, 14, 0, 0, 96, 224, 511, 1023, 2047] (.op 0 [] (.op 1 [] (.op 2 [] (.op 3 [] (.op 4 [] (.op 5 [] (.op 6 [] (.op 7 [] (.op 8 [] (.op 9 [] (.op 10 [] (.op 11 [] .nil))))))))))))) (.cond (.reg (.op 0 [] (.op 1 [] (.op 2 [] .nil)))) (.reg (.op 0 [] (.op 1 [] .nil)))))))))) (.seq (.seq (.reg (.op 0 [] (.op 1 [] .nil))) (.block (.loop [17] [17, 108, 109, 110, 111, 112, 113, 114, 115, 116, 117, 118, 119, 120, 121, 122, 123, 124, 125, 126, 127, 128] (.seq (.seq (.reg (.op 0 [] (.op 1 [] (.op 2 [] .nil)))) (.cond .leaf .leaf)) (.seq (.block (.drw [0, 0, 0, 0, 8, 0, 0, 64, 224, 480, 0, 0, 3072, 7168, 16355, 32739, 65535, 131071] (.op 0 [] (.op 1 [] (.op 2 [] (.op 3 [] (.op 4 [] (.op 5 [] (.op 6 [] (.op 7 [] (.op 8 [] (.op 9 [] (.op 10 [] (.op 11 [] (.op 12 [] (.op 13 [] (.op 14 [] (.op 15 [] (.op 16 [] (.op 17 [] .nil)))))))))))))))))))) (.reg (.op 0 [] (.op 1 [] (.op 2 [] .nil))))))))) .leaf)))) .leaf)) (.seq (.reg (.op 0 [] (.op 1 [] (.op 2 [] (.op 3 [] (.op 4 [] (.op 5 [] (.op 6 [] .nil)))))))) (.seq (.reg (.op 0 [] (.op 1 [] (.op 2 [] (.op 3 [] .nil))))) (.seq (.reg (.op 0 [] (.op 1 [] .nil))) (.cut [20, 21] [20, 21, 138, 139, 140, 141, 142, 143, 144, 145, 146] (.seq (.reg (.op 0 [] (.op 1 [] (.op 2 [] .nil)))) (.cond (.seq (.reg (.op 0 [] (.op 1 [] (.op 2 [] (.op 3 [] .nil))))) (.reg (.op 0 [] (.op 1 [] .nil)))) (.seq (.reg (.op 0 [] (.op 1 [] .nil))) (.reg (.op 0 [] (.op 1 [] .nil)))))) (.seq (.reg (.op 0 [] (.op 1 [] (.op 2 [] .nil)))) (.seq (.block (.loop [20, 21] [20, 21, 23, 149, 150, 151, 152, 153, 154, 155, 156, 157, 158, 159, 160, 161, 162, 163, 164, 165, 166, 167, 168, 169, 170, 171, 172, 173, 174] (.seq (.seq (.reg (.op 0 [] (.op 1 [] (.op 2 [] .nil)))) (.cond .leaf .leaf)) (.block (.seq (.reg (.op 0 [] (.op 1 [] (.op 2 [] (.op 3 [] (.op 4 [] (.op 5 [] (.op 6 [] .nil)))))))) (.seq (.drw [0, 0, 0, 0, 12, 30, 62, 0, 0, 384, 896, 2047, 4095, 8191] (.op 0 [] (.op 1 [] (.op 2 [] (.op 3 [] (.op 4 [] (.op 5 [] (.op 6 [] (.op 7 [] (.op 8 [] (.op 9 [] (.op 10 [] (.op 11 [] (.op 12 [] (.op 13 [] .nil))))))))))))))) (.cond (.reg (.op 0 [] (.op 1 [] (.op 2 [] .nil)))) (.reg (.op 0 [] (.op 1 [] .nil)))))))))) (.seq (.reg (.op 0 [] (.op 1 [] (.op 2 [] (.op 3 [] .nil))))) (.cut [] [178, 179, 180, 181, 182, 183, 184, 185, 186, 187, 188, 189, 190, 191] (.seq (.reg (.op 0 [] (.op 1 [] (.op 2 [] (.op 3 [] (.grp 3 (.op 4 [] (.op 5 [] (.op 6 [] .nil))) 7 .nil)))))) (.cond (.reg (.op 0 [] (.op 1 [] (.op 2 [] (.op 3 [] (.op 4 [] (.op 5 [] .nil))))))) .leaf)) (.cut [] [192, 193, 194, 195, 196, 197, 198, 199, 200, 201, 202, 203, 204, 205] (.seq (.reg (.op 0 [] (.op 1 [] (.op 2 [] (.op 3 [] (.grp 3 (.op 4 [] (.op 5 [] (.op 6 [] .nil))) 7 .nil)))))) (.cond (.reg (.op 0 [] (.op 1 [] (.op 2 [] (.op 3 [] (.op 4 [] (.op 5 [] .nil))))))) .leaf)) (.seq (.reg (.op 0 [] (.op 1 [] (.op 2 [] (.op 3 [] (.grp 3 (.op 4 [] (.op 5 [] (.op 6 [] .nil))) 7 .nil)))))) (.cond (.reg (.op 0 [] (.op 1 [] (.op 2 [] (.op 3 [] (.op 4 [] (.op 5 [] .nil))))))) .leaf)))))))))))))
/-- slices.symMergeCmpFunc[lighter/wal.Entry] -/
def slices_symMergeCmpFunc_wal_Entry.res (data0 : Value) (a1 : Value) (m2 : Value) (b3 : Value) (cmp4 : Value) (H0 : Heap) (R : Value → Heap → Prop) : Prop :=
 pSub m2 a1 fun x27 =>
 pEq 0 x27 (.int .i64 1) fun x28 =>
 pCond x28
 (∃ (I_1 : Value → Value → Heap → Prop) (m_2 : Value → Value → Heap → Nat), I_1 m2 b3 H0 ∧
 ∀ _ : Env, ∀ i10 : Value, ∀ j11 : Value, ∀ H_3 : Heap, I_1 i10 j11 H_3 →
 pLt i10 j11 fun x33 =>
 pCond x33
 (pAdd i10 j11 fun x36 =>
 pConv .u64 x36 fun x37 =>
 pShr x37 (.int .u64 1) fun x38 =>
 pConv .i64 x38 fun x39 =>
 pIdxSl 2 data0 x39 fun x43 =>
 pLoadN H_3 2 x43 fun x44 =>
 pIdxSl 2 data0 a1 fun x47 =>
 pLoadN H_3 2 x47 fun x48 =>
 callH Try.prog Try.C cmp4 [x44, x48] H_3 fun x49 H_4 =>
 pLt x49 (.int .i64 0) fun x50 =>
 pCond x50
 (pAdd x39 (.int .i64 1) fun x52 =>
 I_1 x52 j11 H_4 ∧ m_2 x52 j11 H_4 < m_2 i10 j11 H_3)
 (I_1 i10 x39 H_4 ∧ m_2 i10 x39 H_4 < m_2 i10 j11 H_3))
 (∃ (I_5 : Value → Heap → Prop) (m_6 : Value → Heap → Nat), I_5 a1 H_3 ∧
 ∀ _ : Env, ∀ k13 : Value, ∀ H_7 : Heap, I_5 k13 H_7 →
 pSub i10 (.int .i64 1) fun x57 =>
 pLt k13 x57 fun x58 =>
 pCond x58
 (pAdd k13 (.int .i64 1) fun x65 =>
 pAdd k13 (.int .i64 1) fun x68 =>
 pIdxSl 2 data0 x68 fun x69 =>
 pLoadN H_7 2 x69 fun x70 =>
 pIdxSl 2 data0 k13 fun x73 =>
 pLoadN H_7 2 x73 fun x74 =>
 pIdxSl 2 data0 k13 fun x75 =>
 pStoreN H_7 2 x75 x70 fun _ H_8 =>
 pIdxSl 2 data0 x65 fun x76 =>
 pStoreN H_8 2 x76 x74 fun _ H_9 =>
 pAdd k13 (.int .i64 1) fun x60 =>
 I_5 x60 H_9 ∧ m_6 x60 H_9 < m_6 k13 H_7)
 (R (.tuple #[]) H_7)))
 (pSub b3 m2 fun x79 =>
 pEq 0 x79 (.int .i64 1) fun x80 =>
 pCond x80
 (∃ (I_10 : Value → Value → Heap → Prop) (m_11 : Value → Value → Heap → Nat), I_10 a1 m2 H0 ∧
 ∀ _ : Env, ∀ i14 : Value, ∀ j15 : Value, ∀ H_12 : Heap, I_10 i14 j15 H_12 →
 pLt i14 j15 fun x85 =>
 pCond x85
 (pAdd i14 j15 fun x88 =>
 pConv .u64 x88 fun x89 =>
 pShr x89 (.int .u64 1) fun x90 =>
 pConv .i64 x90 fun x91 =>
 pIdxSl 2 data0 m2 fun x95 =>
 pLoadN H_12 2 x95 fun x96 =>
 pIdxSl 2 data0 x91 fun x99 =>
 pLoadN H_12 2 x99 fun x100 =>
 callH Try.prog Try.C cmp4 [x96, x100] H_12 fun x101 H_13 =>
 pLt x101 (.int .i64 0) fun x102 =>
 pNot x102 fun x103 =>
 pCond x103
 (pAdd x91 (.int .i64 1) fun x105 =>
 I_10 x105 j15 H_13 ∧ m_11 x105 j15 H_13 < m_11 i14 j15 H_12)
 (I_10 i14 x91 H_13 ∧ m_11 i14 x91 H_13 < m_11 i14 j15 H_12))
 (∃ (I_14 : Value → Heap → Prop) (m_15 : Value → Heap → Nat), I_14 m2 H_12 ∧
 ∀ _ : Env, ∀ k17 : Value, ∀ H_16 : Heap, I_14 k17 H_16 →
 pGt k17 i14 fun x110 =>
 pCond x110
 (pSub k17 (.int .i64 1) fun x117 =>
 pSub k17 (.int .i64 1) fun x120 =>
 pIdxSl 2 data0 x120 fun x121 =>
 pLoadN H_16 2 x121 fun x122 =>
 pIdxSl 2 data0 k17 fun x125 =>
 pLoadN H_16 2 x125 fun x126 =>
 pIdxSl 2 data0 k17 fun x127 =>
 pStoreN H_16 2 x127 x122 fun _ H_17 =>
 pIdxSl 2 data0 x117 fun x128 =>
 pStoreN H_17 2 x128 x126 fun _ H_18 =>
 pSub k17 (.int .i64 1) fun x112 =>
 I_14 x112 H_18 ∧ m_15 x112 H_18 < m_15 k17 H_16)
 (R (.tuple #[]) H_16)))
 (pAdd a1 b3 fun x131 =>
 pConv .u64 x131 fun x132 =>
 pShr x132 (.int .u64 1) fun x133 =>
 pConv .i64 x133 fun x134 =>
 pAdd x134 m2 fun x137 =>
 ∃ J_19 : Value → Value → Heap → Prop, (∀ _ : Env, ∀ start20 : Value, ∀ r21 : Value, ∀ H_20 : Heap, J_19 start20 r21 H_20 →
 pSub x137 (.int .i64 1) fun x148 =>
 ∃ (I_21 : Value → Value → Heap → Prop) (m_22 : Value → Value → Heap → Nat), I_21 start20 r21 H_20 ∧
 ∀ _ : Env, ∀ start20' : Value, ∀ r21' : Value, ∀ H_23 : Heap, I_21 start20' r21' H_23 →
 pLt start20' r21' fun x151 =>
 pCond x151
 (pAdd start20' r21' fun x154 =>
 pConv .u64 x154 fun x155 =>
 pShr x155 (.int .u64 1) fun x156 =>
 pConv .i64 x156 fun x157 =>
 pSub x148 x157 fun x162 =>
 pIdxSl 2 data0 x162 fun x163 =>
 pLoadN H_23 2 x163 fun x164 =>
 pIdxSl 2 data0 x157 fun x167 =>
 pLoadN H_23 2 x167 fun x168 =>
 callH Try.prog Try.C cmp4 [x164, x168] H_23 fun x169 H_24 =>
 pLt x169 (.int .i64 0) fun x170 =>
 pNot x170 fun x171 =>
 pCond x171
 (pAdd x157 (.int .i64 1) fun x173 =>
 I_21 x173 r21' H_24 ∧ m_22 x173 r21' H_24 < m_22 start20' r21' H_23)
 (I_21 start20' x157 H_24 ∧ m_22 start20' x157 H_24 < m_22 start20' r21' H_23))
 (pSub x137 start20' fun x177 =>
 ∃ J_25 : Heap → Prop, (∀ _ : Env, ∀ H_26 : Heap, J_25 H_26 →
 ∃ J_27 : Heap → Prop, (∀ _ : Env, ∀ H_28 : Heap, J_27 H_28 →
 pLt x134 x177 fun x208 =>
 pAnd x208 (fun J_29 =>
 pLt x177 b3 fun x212 =>
 J_29 x212 H_28) H_28 fun x213 H_30 => ∀ _ : Env,
 pCond x213
 (CallsH Try.prog 57 #[data0, x134, x177, b3, cmp4] H_30 fun x219 H_31 =>
 R (.tuple #[]) H_31)
 (R (.tuple #[]) H_30)) ∧
 pLt a1 start20' fun x194 =>
 pAnd x194 (fun J_32 =>
 pLt start20' x134 fun x198 =>
 J_32 x198 H_26) H_26 fun x199 H_33 => ∀ _ : Env,
 pCond x199
 (CallsH Try.prog 57 #[data0, a1, start20', x134, cmp4] H_33 fun x205 H_34 =>
 J_27 H_34)
 (J_27 H_33)) ∧
 pLt start20' m2 fun x180 =>
 pAnd x180 (fun J_35 =>
 pLt m2 x177 fun x184 =>
 J_35 x184 H_23) H_23 fun x185 H_36 => ∀ _ : Env,
 pCond x185
 (CallsH Try.prog 60 #[data0, start20', m2, x177, cmp4] H_36 fun x191 H_37 =>
 J_25 H_37)
 (J_25 H_36))) ∧
 pGt m2 x134 fun x140 =>
 pCond x140
 (pSub x137 b3 fun x143 =>
 J_19 x143 x134 H0)
 (J_19 a1 m2 H0)))
set_option maxRecDepth 100000 in
theorem slices_symMergeCmpFunc_wal_Entry.vc (data0 : Value) (a1 : Value) (m2 : Value) (b3 : Value) (cmp4 : Value) (H0 : Heap) (R : Value → Heap → Prop) (h : slices_symMergeCmpFunc_wal_Entry.res data0 a1 m2 b3 cmp4 H0 R) : CallsH Try.prog 57 #[data0, a1, m2, b3, cmp4] H0 R := by
  have e : vcFn Try.prog Try.C Try.f57 slices_symMergeCmpFunc_wal_Entry.an [data0, a1, m2, b3, cmp4] H0 R = slices_symMergeCmpFunc_wal_Entry.res data0 a1 m2 b3 cmp4 H0 R := by kernel_rfl
  exact vcFn_sound Try.callable Try.mixed Try.func57 (by kernel_rfl) (e.mpr h)

def slices_rotateCmpFunc_wal_Entry.an : Ann := (.seq (.reg (.op 0 [] (.op 1 [] (.op 2 [] (.op 3 [] .nil))))) (.seq (.reg (.op 0 [] (.op 1 [] (.op 2 [] (.op 3 [] .nil))))) (.seq (.block (.loop [10, 11] [10, 11, 18, 19, 20, 21, 22, 23, 24, 25, 26, 27, 28, 29, 30, 31, 32, 33, 34, 35, 36, 37, 38, 39, 40, 41, 42, 43, 44, 45, 46, 47, 48, 49] (.seq (.seq (.reg (.op 0 [] (.op 1 [] (.op 2 [] .nil)))) (.cond .leaf .leaf)) (.block (.seq (.reg (.op 0 [] (.op 1 [] (.op 2 [] .nil)))) (.cond (.seq (.reg (.op 0 [] (.op 1 [] (.op 2 [] (.op 3 [] (.op 4 [] (.op 5 [] (.op 6 [] (.op 7 [] .nil))))))))) (.reg (.op 0 [] (.op 1 [] (.op 2 [] (.op 3 [] .nil)))))) (.seq (.reg (.op 0 [] (.op 1 [] (.op 2 [] (.op 3 [] (.op 4 [] (.op 5 [] (.op 6 [] (.op 7 [] (.op 8 [] (.op 9 [] (.op 10 [] (.op 11 [] .nil))))))))))))) (.reg (.op 0 [] (.op 1 [] (.op 2 [] (.op 3 [] .nil)))))))))))) (.reg (.op 0 [] (.op 1 [] (.op 2 [] (.op 3 [] (.op 4 [] (.op 5 [] (.op 6 [] (.op 7 [] .nil))))))))))))
/-- slices.rotateCmpFunc[lighter/wal.Entry] -/
def slices_rotateCmpFunc_wal_Entry.res (data0 : Value) (a1 : Value) (m2 : Value) (b3 : Value) (cmp4 : Value) (H0 : Heap) (R : Value → Heap → Prop) : Prop :=
 pSub m2 a1 fun x14 =>
 pSub b3 m2 fun x17 =>
 ∃ (I_1 : Value → Value → Heap → Prop) (m_2 : Value → Value → Heap → Nat), I_1 x14 x17 H0 ∧
 ∀ _ : Env, ∀ i10 : Value, ∀ j11 : Value, ∀ H_3 : Heap, I_1 i10 j11 H_3 →
 pNe 0 i10 j11 fun x20 =>
 pCond x20
 (pGt i10 j11 fun x23 =>
 pCond x23
 (pSub m2 i10 fun x27 =>
 CallsH Try.prog 61 #[data0, x27, m2, j11, cmp4] H_3 fun x31 H_4 =>
 pSub i10 j11 fun x34 =>
 I_1 x34 j11 H_4 ∧ m_2 x34 j11 H_4 < m_2 i10 j11 H_3)
 (pSub m2 i10 fun x38 =>
 pAdd m2 j11 fun x41 =>
 pSub x41 i10 fun x43 =>
 CallsH Try.prog 61 #[data0, x38, x43, i10, cmp4] H_3 fun x46 H_5 =>
 pSub j11 i10 fun x49 =>
 I_1 i10 x49 H_5 ∧ m_2 i10 x49 H_5 < m_2 i10 j11 H_3))
 (pSub m2 i10 fun x53 =>
 CallsH Try.prog 61 #[data0, x53, m2, i10, cmp4] H_3 fun x57 H_6 =>
 R (.tuple #[]) H_6)
set_option maxRecDepth 100000 in
theorem slices_rotateCmpFunc_wal_Entry.vc (data0 : Value) (a1 : Value) (m2 : Value) (b3 : Value) (cmp4 : Value) (H0 : Heap) (R : Value → Heap → Prop) (h : slices_rotateCmpFunc_wal_Entry.res data0 a1 m2 b3 cmp4 H0 R) : CallsH Try.prog 60 #[data0, a1, m2, b3, cmp4] H0 R := by
  have e : vcFn Try.prog Try.C Try.f60 slices_rotateCmpFunc_wal_Entry.an [data0, a1, m2, b3, cmp4] H0 R = slices_rotateCmpFunc_wal_Entry.res data0 a1 m2 b3 cmp4 H0 R := by kernel_rfl
  exact vcFn_sound Try.callable Try.mixed Try.func60 (by kernel_rfl) (e.mpr h)

def slices_swapRangeCmpFunc_wal_Entry.an : Ann := (.seq (.reg (.op 0 [] .nil)) (.block (.loop [10] [10, 11, 12, 13, 14, 15, 16, 17, 18, 19, 20, 21, 22, 23, 24, 25, 26, 27, 28, 29, 30, 31, 32, 33, 34, 35, 36, 37] (.seq (.seq (.reg (.op 0 [] (.op 1 [] (.op 2 [] .nil)))) (.cond .leaf .leaf)) (.seq (.block (.drw [0, 0, 0, 6, 0, 0, 0, 96, 0, 0, 0, 1536, 3840, 7936, 0, 0, 0, 98304, 245760, 507904, 1048335, 2096911, 4194303, 8388607] (.op 0 [] (.op 1 [] (.op 2 [] (.op 3 [] (.op 4 [] (.op 5 [] (.op 6 [] (.op 7 [] (.op 8 [] (.op 9 [] (.op 10 [] (.op 11 [] (.op 12 [] (.op 13 [] (.op 14 [] (.op 15 [] (.op 16 [] (.op 17 [] (.op 18 [] (.op 19 [] (.op 20 [] (.op 21 [] (.op 22 [] (.op 23 [] .nil)))))))))))))))))))))))))) (.reg (.op 0 [] (.op 1 [] (.op 2 [] .nil)))))))))
/-- slices.swapRangeCmpFunc[lighter/wal.Entry] -/
def slices_swapRangeCmpFunc_wal_Entry.res (data0 : Value) (a1 : Value) (b2 : Value) (n3 : Value) (cmp4 : Value) (H0 : Heap) (R : Value → Heap → Prop) : Prop :=
 ∃ (I_1 : Value → Heap → Prop) (m_2 : Value → Heap → Nat), I_1 (.int .i64 0) H0 ∧
 ∀ _ : Env, ∀ i10 : Value, ∀ H_3 : Heap, I_1 i10 H_3 →
 pLt i10 n3 fun x13 =>
 pCond x13
 (pAdd a1 i10 fun x19 =>
 pAdd b2 i10 fun x23 =>
 pAdd b2 i10 fun x27 =>
 pIdxSl 2 data0 x27 fun x28 =>
 pLoadN H_3 2 x28 fun x29 =>
 pAdd a1 i10 fun x33 =>
 pIdxSl 2 data0 x33 fun x34 =>
 pLoadN H_3 2 x34 fun x35 =>
 pIdxSl 2 data0 x19 fun x36 =>
 pStoreN H_3 2 x36 x29 fun _ H_4 =>
 pIdxSl 2 data0 x23 fun x37 =>
 pStoreN H_4 2 x37 x35 fun _ H_5 =>
 pAdd i10 (.int .i64 1) fun x15 =>
 I_1 x15 H_5 ∧ m_2 x15 H_5 < m_2 i10 H_3)
 (R (.tuple #[]) H_3)
set_option maxRecDepth 100000 in
theorem slices_swapRangeCmpFunc_wal_Entry.vc (data0 : Value) (a1 : Value) (b2 : Value) (n3 : Value) (cmp4 : Value) (H0 : Heap) (R : Value → Heap → Prop) (h : slices_swapRangeCmpFunc_wal_Entry.res data0 a1 b2 n3 cmp4 H0 R) : CallsH Try.prog 61 #[data0, a1, b2, n3, cmp4] H0 R := by
  have e : vcFn Try.prog Try.C Try.f61 slices_swapRangeCmpFunc_wal_Entry.an [data0, a1, b2, n3, cmp4] H0 R = slices_swapRangeCmpFunc_wal_Entry.res data0 a1 b2 n3 cmp4 H0 R := by kernel_rfl
  exact vcFn_sound Try.callable Try.mixed Try.func61 (by kernel_rfl) (e.mpr h)

end Go.Proofs.Ytaopejkbnohiiaa
