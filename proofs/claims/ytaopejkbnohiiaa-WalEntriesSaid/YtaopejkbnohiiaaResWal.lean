/- The residuals of package wal's functions, printed by resid.py. -/
import Derived.Test.YtaopejkbnohiiaaVcSeat
namespace Go.Proofs.Ytaopejkbnohiiaa
open Go Go.Vc Go.Proofs
set_option linter.unusedVariables false
set_option maxHeartbeats 4000000
def wal_Open.an : Ann := (.seq (.reg (.op 0 [] (.op 1 [] .nil))) (.seq (.block (.seq (.reg (.op 0 [] (.op 1 [] (.op 2 [] (.grp 2 (.op 3 [] (.op 4 [] .nil)) 5 (.op 6 [] .nil)))))) (.cond (.seq (.reg (.op 0 [] (.op 1 [] .nil))) .leaf) (.seq (.reg (.op 0 [] (.op 1 [] (.op 2 [] (.grp 2 (.op 3 [] (.op 4 [] (.op 5 [] (.op 6 [] .nil)))) 7 (.op 8 [] (.grp 8 (.op 9 [] (.op 10 [] (.op 11 [] (.op 12 [] (.op 13 [] (.op 14 [] .nil)))))) 15 (.op 16 [] .nil)))))))) (.cond (.seq (.reg (.op 0 [] (.op 1 [] .nil))) .leaf) .leaf))))) (.seq (.reg (.op 0 [] (.op 1 [] (.op 2 [] (.op 3 [] (.op 4 [] (.op 5 [] .nil))))))) (.seq (.seq (.reg (.op 0 [] (.op 1 [] .nil))) (.block (.loop [45] [6, 7, 9, 10, 11, 12, 13, 14, 45, 46, 47, 48, 49, 50, 51, 52, 53, 54, 55, 56, 57, 58, 59, 60, 61, 62, 63, 64, 65, 66, 67, 68, 69, 70, 71, 72, 73, 74, 75, 76, 77, 78, 79, 80, 81, 82] (.seq (.reg (.op 0 [] .nil)) (.seq (.cond .leaf .leaf) (.seq (.block (.seq (.reg (.op 0 [] (.op 1 [] .nil))) (.seq (.reg (.op 0 [] (.op 1 [] (.op 2 [] (.op 3 [] (.op 4 [] (.op 5 [] (.op 6 [] (.op 7 [] (.op 8 [] (.op 9 [] .nil))))))))))) (.seq (.seq (.reg (.op 0 [] (.op 1 [] .nil))) (.cond (.seq (.reg (.op 0 [] (.op 1 [] (.op 2 [] .nil)))) .leaf) .leaf)) (.seq (.reg (.op 0 [] (.op 1 [] (.op 2 [] (.op 3 [] (.op 4 [] (.op 5 [] (.op 6 [] (.op 7 [] (.op 8 [] .nil)))))))))) (.seq (.reg (.op 0 [] (.op 1 [] (.grp 1 (.op 2 [] (.op 3 [] (.op 4 [] (.op 5 [] (.op 6 [] (.op 7 [] .nil)))))) 8 .nil)))) (.cond (.reg (.op 0 [] (.op 1 [] (.op 2 [] (.op 3 [] (.op 4 [] (.op 5 [] (.op 6 [] (.op 7 [] (.op 8 [] (.op 9 [] .nil))))))))))) .leaf))))))) (.reg (.op 0 [] (.op 1 [] .nil))))))))) (.seq (.reg (.op 0 [] (.op 1 [] (.op 2 [] .nil)))) .leaf)))))
/-- lighter/wal.Open -/
def wal_Open.res (d0 : Value) (at1 : Value) (sectors2 : Value) (H0 : Heap) (R : Value → Heap → Prop) : Prop :=
 pEq 3 d0 (.pointer none) fun x17 =>
 pOr x17 (fun J_1 =>
 pLt sectors2 (.int .i64 2) fun x20 =>
 J_1 x20 H0) H0 fun x21 H_2 => ∀ _ : Env,
 pCond x21
 (R (.tuple #[(.pointer none), (.int .i64 1)]) H_2)
 (pLt at1 (.int .i64 0) fun x24 =>
 pOr x24 (fun J_3 =>
 CallsH Try.prog 21 #[d0] H_2 fun x28 H_5 =>
 pGt at1 x28 fun x29 =>
 J_3 x29 H_5) H_2 fun x30 H_4 => ∀ _ : Env,
 pOr x30 (fun J_6 =>
 CallsH Try.prog 21 #[d0] H_4 fun x34 H_8 =>
 pSub x34 at1 fun x36 =>
 pGt sectors2 x36 fun x37 =>
 J_6 x37 H_8) H_4 fun x38 H_7 => ∀ _ : Env,
 pCond x38
 (R (.tuple #[(.pointer none), (.int .i64 20)]) H_7)
 (pBuild [(.pointer none), (.int .i64 0), (.int .i64 0), (str []), (.int .u64 0), (.bool false)] [(0, 1, d0), (1, 1, at1), (2, 1, sectors2)] fun x42 =>
 pBox H_7 57 x42 fun x43 H_9 =>
 ∃ (I_10 : Value → Heap → Prop) (m_11 : Value → Heap → Nat), I_10 (.int .i64 0) H_9 ∧
 ∀ _ : Env, ∀ x45 : Value, ∀ H_12 : Heap, I_10 x45 H_12 →
 pLt x45 sectors2 fun x46 =>
 pCond x46
 (pAdd at1 x45 fun x52 =>
 CallsH Try.prog 11 #[d0, x52] H_12 fun x53 H_13 =>
 pExtract 0 x53 fun x54 =>
 pExtract 1 x53 fun x55 =>
 pNe 0 x55 (.int .i64 0) fun x57 =>
 pCond x57
 (R (.tuple #[(.pointer none), x55]) H_13)
 (CallsH Try.prog 22 #[x54] H_13 fun x61 H_14 =>
 pExtract 0 x61 fun x62 =>
 pExtract 1 x61 fun x63 =>
 pExtract 2 x61 fun x64 =>
 pAnd x64 (fun J_15 =>
 pNil x43 fun x69 =>
 pFieldAddr 4 x69 fun x70 =>
 pLoad H_14 x70 fun x71 =>
 pGt x62 x71 fun x72 =>
 J_15 x72 H_14) H_14 fun x73 H_16 => ∀ _ : Env,
 pCond x73
 (pNil x43 fun x78 =>
 pFieldAddr 4 x78 fun x79 =>
 pStore H_16 x79 x62 fun _ H_17 =>
 pNil x43 fun x80 =>
 pFieldAddr 3 x80 fun x81 =>
 pStore H_17 x81 x63 fun _ H_18 =>
 pAdd x45 (.int .i64 1) fun x82 =>
 I_10 x82 H_18 ∧ m_11 x82 H_18 < m_11 x45 H_12)
 (pAdd x45 (.int .i64 1) fun x82 =>
 I_10 x82 H_16 ∧ m_11 x82 H_16 < m_11 x45 H_12)))
 (R (.tuple #[x43, (.int .i64 0)]) H_12)))
set_option maxRecDepth 100000 in
theorem wal_Open.vc (d0 : Value) (at1 : Value) (sectors2 : Value) (H0 : Heap) (R : Value → Heap → Prop) (h : wal_Open.res d0 at1 sectors2 H0 R) : CallsH Try.prog 9 #[d0, at1, sectors2] H0 R := by
  have e : vcFn Try.prog Try.C Try.f9 wal_Open.an [d0, at1, sectors2] H0 R = wal_Open.res d0 at1 sectors2 H0 R := by kernel_rfl
  exact vcFn_sound Try.callable Try.mixed Try.func9 (by kernel_rfl) (e.mpr h)

def wal_Log_Put.an : Ann := (.seq (.reg (.op 0 [] .nil)) (.seq (.block (.seq (.reg (.op 0 [] (.op 1 [] (.op 2 [] (.grp 2 (.op 3 [] (.op 4 [] (.op 5 [] .nil))) 6 (.op 7 [] .nil)))))) (.cond (.seq (.reg (.op 0 [] .nil)) .leaf) (.seq (.reg (.op 0 [] (.op 1 [] (.op 2 [] (.op 3 [] (.op 4 [] .nil)))))) (.cond (.seq (.reg (.op 0 [] .nil)) .leaf) (.seq (.reg (.op 0 [] (.op 1 [] (.op 2 [] (.op 3 [] (.op 4 [] (.op 5 [] .nil))))))) (.cond (.seq (.reg (.op 0 [] .nil)) .leaf) .leaf))))))) (.seq (.seq (.reg (.op 0 [] (.op 1 [] (.op 2 [] (.op 3 [] (.op 4 [] (.op 5 [] (.op 6 [] (.op 7 [] (.op 8 [] .nil)))))))))) (.seq (.reg (.op 0 [] (.op 1 [] .nil))) (.cond (.seq (.reg (.op 0 [] (.op 1 [] (.op 2 [] (.op 3 [] .nil))))) (.seq (.reg (.op 0 [] (.op 1 [] .nil))) .leaf)) .leaf))) (.seq (.reg (.op 0 [] (.op 1 [] (.op 2 [] (.op 3 [] (.op 4 [] (.op 5 [] (.op 6 [] (.op 7 [] (.op 8 [] (.op 9 [] (.op 10 [] (.op 11 [] (.op 12 [] (.op 13 [] .nil))))))))))))))) (.seq (.reg (.op 0 [] .nil)) .leaf)))))
/-- (*lighter/wal.Log).Put -/
def wal_Log_Put.res (l0 : Value) (s1 : Value) (H0 : Heap) (R : Value → Heap → Prop) : Prop :=
 pEq 3 l0 (.pointer none) fun x8 =>
 pOr x8 (fun J_1 =>
 pLenS s1 fun x11 =>
 pGt x11 (.int .i64 23) fun x12 =>
 J_1 x12 H0) H0 fun x13 H_2 => ∀ _ : Env,
 pCond x13
 (R (.int .i64 1) H_2)
 (pNil l0 fun x16 =>
 pFieldAddr 5 x16 fun x17 =>
 pLoad H_2 x17 fun x18 =>
 pCond x18
 (R (.int .i64 16) H_2)
 (pNil l0 fun x21 =>
 pFieldAddr 4 x21 fun x22 =>
 pLoad H_2 x22 fun x23 =>
 pEq 0 x23 (.int .u64 18446744073709551615) fun x24 =>
 pCond x24
 (R (.int .i64 15) H_2)
 (pNil l0 fun x27 =>
 pFieldAddr 4 x27 fun x28 =>
 pLoad H_2 x28 fun x29 =>
 pAdd x29 (.int .u64 1) fun x30 =>
 CallsH Try.prog 23 #[l0, x30, s1] H_2 fun x32 H_3 =>
 pNe 0 x32 (.int .i64 0) fun x34 =>
 pCond x34
 (pNil l0 fun x36 =>
 pFieldAddr 5 x36 fun x37 =>
 pStore H_3 x37 (.bool true) fun _ H_4 =>
 R x32 H_4)
 (pNil l0 fun x42 =>
 pFieldAddr 4 x42 fun x43 =>
 pLoad H_3 x43 fun x44 =>
 pAdd x44 (.int .u64 1) fun x45 =>
 pNil l0 fun x47 =>
 pFieldAddr 4 x47 fun x48 =>
 pStore H_3 x48 x45 fun _ H_5 =>
 pNil l0 fun x49 =>
 pFieldAddr 3 x49 fun x50 =>
 pStore H_5 x50 s1 fun _ H_6 =>
 R (.int .i64 0) H_6))))
set_option maxRecDepth 100000 in
theorem wal_Log_Put.vc (l0 : Value) (s1 : Value) (H0 : Heap) (R : Value → Heap → Prop) (h : wal_Log_Put.res l0 s1 H0 R) : CallsH Try.prog 10 #[l0, s1] H0 R := by
  have e : vcFn Try.prog Try.C Try.f10 wal_Log_Put.an [l0, s1] H0 R = wal_Log_Put.res l0 s1 H0 R := by kernel_rfl
  exact vcFn_sound Try.callable Try.mixed Try.func10 (by kernel_rfl) (e.mpr h)

def wal_Log_Note.an : Ann := (.seq (.reg (.op 0 [] (.op 1 [] .nil))) (.seq (.seq (.reg (.op 0 [] (.op 1 [] .nil))) (.cond (.seq (.reg (.op 0 [] (.op 1 [] .nil))) .leaf) .leaf)) (.seq (.drw [0, 1, 3, 7, 0, 16, 48, 112, 15, 511] (.op 0 [] (.op 1 [] (.op 2 [] (.op 3 [] (.op 4 [] (.op 5 [] (.op 6 [] (.op 7 [] (.op 8 [] (.op 9 [] .nil))))))))))) .leaf)))
/-- (*lighter/wal.Log).Note -/
def wal_Log_Note.res (l0 : Value) (H0 : Heap) (R : Value → Heap → Prop) : Prop :=
 pEq 3 l0 (.pointer none) fun x5 =>
 pCond x5
 (R (.tuple #[(str []), (.int .u64 0)]) H0)
 (pNil l0 fun x7 =>
 pFieldAddr 3 x7 fun x8 =>
 pLoad H0 x8 fun x9 =>
 pNil l0 fun x11 =>
 pFieldAddr 4 x11 fun x12 =>
 pLoad H0 x12 fun x13 =>
 R (.tuple #[x9, x13]) H0)
set_option maxRecDepth 100000 in
theorem wal_Log_Note.vc (l0 : Value) (H0 : Heap) (R : Value → Heap → Prop) (h : wal_Log_Note.res l0 H0 R) : CallsH Try.prog 13 #[l0] H0 R := by
  have e : vcFn Try.prog Try.C Try.f13 wal_Log_Note.an [l0] H0 R = wal_Log_Note.res l0 H0 R := by kernel_rfl
  exact vcFn_sound Try.callable Try.mixed Try.func13 (by kernel_rfl) (e.mpr h)

def wal_Slot.an : Ann := (.seq (.reg (.op 0 [] .nil)) (.seq (.seq (.reg (.op 0 [] (.op 1 [] (.op 2 [] (.grp 2 (.op 3 [] (.op 4 [] (.op 5 [] .nil))) 6 .nil))))) (.cond (.seq (.reg (.op 0 [] .nil)) .leaf) .leaf)) (.seq (.reg (.op 0 [] (.op 1 [] (.op 2 [] (.op 3 [] (.op 4 [] (.op 5 [] (.op 6 [] (.op 7 [] (.op 8 [] (.op 9 [] .nil))))))))))) (.seq (.reg (.op 0 [] (.op 1 [] (.op 2 [] (.op 3 [] (.op 4 [] (.op 5 [] (.op 6 [] .nil)))))))) (.seq (.reg (.op 0 [] (.op 1 [] (.op 2 [] (.op 3 [] (.op 4 [] (.op 5 [] (.op 6 [] (.op 7 [] .nil))))))))) .leaf)))))
/-- lighter/wal.Slot -/
def wal_Slot.res (n0 : Value) (s1 : Value) (H0 : Heap) (R : Value → Heap → Prop) : Prop :=
 pEq 0 n0 (.int .u64 0) fun x7 =>
 pOr x7 (fun J_1 =>
 pLenS s1 fun x10 =>
 pGt x10 (.int .i64 23) fun x11 =>
 J_1 x11 H0) H0 fun x12 H_2 => ∀ _ : Env,
 pCond x12
 (R (str []) H_2)
 (CallsH Try.prog 30 #[n0, (.int .i64 8)] H_2 fun x14 H_3 =>
 pLenS s1 fun x16 =>
 pConv .u64 x16 fun x17 =>
 CallsH Try.prog 30 #[x17, (.int .i64 1)] H_3 fun x18 H_4 =>
 pAdd x14 x18 fun x19 =>
 pAdd x19 s1 fun x21 =>
 pLenS x21 fun x24 =>
 pSub (.int .i64 60) x24 fun x25 =>
 CallsH Try.prog 20 #[(str [0]), x25] H_4 fun x26 H_5 =>
 pAdd x21 x26 fun x27 =>
 CallsH Try.prog 31 #[] H_5 fun x29 H_6 =>
 CallsH Try.prog 32 #[x29, x27] H_6 fun x31 H_7 =>
 pConv .u64 x31 fun x32 =>
 CallsH Try.prog 30 #[x32, (.int .i64 4)] H_7 fun x33 H_8 =>
 pAdd x27 x33 fun x34 =>
 R x34 H_8)
set_option maxRecDepth 100000 in
theorem wal_Slot.vc (n0 : Value) (s1 : Value) (H0 : Heap) (R : Value → Heap → Prop) (h : wal_Slot.res n0 s1 H0 R) : CallsH Try.prog 15 #[n0, s1] H0 R := by
  have e : vcFn Try.prog Try.C Try.f15 wal_Slot.an [n0, s1] H0 R = wal_Slot.res n0 s1 H0 R := by kernel_rfl
  exact vcFn_sound Try.callable Try.mixed Try.func15 (by kernel_rfl) (e.mpr h)

def wal_Log_Entries.an : Ann := (.seq (.reg (.op 0 [] (.op 1 [] .nil))) (.seq (.seq (.reg (.op 0 [] (.op 1 [] .nil))) (.cond (.seq (.reg (.op 0 [] (.op 1 [] .nil))) .leaf) .leaf)) (.seq (.reg (.op 0 [] .nil)) (.seq (.seq (.reg (.op 0 [] (.op 1 [] (.op 2 [] (.op 3 [] (.op 4 [] .nil)))))) (.block (.loop [4, 17] [2, 3, 4, 5, 6, 7, 8, 9, 10, 17, 18, 19, 20, 21, 22, 23, 24, 25, 26, 27, 28, 29, 30, 31, 32, 33, 34, 35, 36, 37, 38, 39, 40, 41, 42, 43, 44, 45, 46, 47, 48, 49, 50] (.seq (.reg (.op 0 [] .nil)) (.seq (.cond .leaf .leaf) (.seq (.block (.seq (.reg (.op 0 [] (.op 1 [] .nil))) (.seq (.drw [0, 1, 3, 7, 0, 16, 48, 112, 0, 496, 1023, 2047, 4095, 4095, 8191, 32767] (.op 0 [] (.op 1 [] (.op 2 [] (.op 3 [] (.op 4 [] (.op 5 [] (.op 6 [] (.op 7 [] (.op 8 [] (.op 9 [] (.op 10 [] (.op 11 [] (.op 12 [] (.op 13 [] (.op 14 [] (.op 15 [] .nil))))))))))))))))) (.seq (.seq (.reg (.op 0 [] (.op 1 [] .nil))) (.cond (.seq (.reg (.op 0 [] (.op 1 [] (.op 2 [] .nil)))) .leaf) .leaf)) (.seq (.reg (.op 0 [] (.op 1 [] (.op 2 [] (.op 3 [] (.op 4 [] (.op 5 [] (.op 6 [] (.op 7 [] (.op 8 [] .nil)))))))))) (.seq (.reg (.op 0 [] .nil)) (.cond (.reg (.op 0 [] (.op 1 [] (.op 2 [] (.op 3 [] (.op 4 [] (.op 5 [] (.op 6 [] .nil)))))))) .leaf))))))) (.reg (.op 0 [] (.op 1 [] .nil))))))))) (.seq (.reg (.op 0 [] (.op 1 [] .nil))) (.seq (.reg (.op 0 [] (.op 1 [] (.op 2 [] .nil)))) .leaf))))))
/-- (*lighter/wal.Log).Entries -/
def wal_Log_Entries.res (l0 : Value) (H0 : Heap) (R : Value → Heap → Prop) : Prop :=
 pEq 3 l0 (.pointer none) fun x12 =>
 pCond x12
 (R (.tuple #[(.slice none 0 0), (.int .i64 1)]) H0)
 (pNil l0 fun x14 =>
 pFieldAddr 2 x14 fun x15 =>
 pLoad H0 x15 fun x16 =>
 ∃ (I_1 : Value → Value → Heap → Prop) (m_2 : Value → Value → Heap → Nat), I_1 (.slice none 0 0) (.int .i64 0) H0 ∧
 ∀ _ : Env, ∀ out4 : Value, ∀ x17 : Value, ∀ H_3 : Heap, I_1 out4 x17 H_3 →
 pLt x17 x16 fun x18 =>
 pCond x18
 (pNil l0 fun x22 =>
 pFieldAddr 0 x22 fun x23 =>
 pLoad H_3 x23 fun x24 =>
 pNil l0 fun x26 =>
 pFieldAddr 1 x26 fun x27 =>
 pLoad H_3 x27 fun x28 =>
 pAdd x28 x17 fun x30 =>
 CallsH Try.prog 11 #[x24, x30] H_3 fun x31 H_4 =>
 pExtract 0 x31 fun x32 =>
 pExtract 1 x31 fun x33 =>
 pNe 0 x33 (.int .i64 0) fun x35 =>
 pCond x35
 (R (.tuple #[(.slice none 0 0), x33]) H_4)
 (CallsH Try.prog 22 #[x32] H_4 fun x39 H_5 =>
 pExtract 0 x39 fun x40 =>
 pExtract 1 x39 fun x41 =>
 pExtract 2 x39 fun x42 =>
 pCond x42
 (pBuild [(.int .u64 0), (str [])] [(0, 1, x40), (1, 1, x41)] fun x47 =>
 pBuildSl H_5 49 1 [(.int .u64 0), (str [])] [(0, 2, x47)] fun x48 H_6 =>
 pAppend H_6 49 2 24 [(.int .u64 0), (str [])] out4 x48 fun x49 H_7 =>
 pAdd x17 (.int .i64 1) fun x50 =>
 I_1 x49 x50 H_7 ∧ m_2 x49 x50 H_7 < m_2 out4 x17 H_3)
 (pAdd x17 (.int .i64 1) fun x50 =>
 I_1 out4 x50 H_5 ∧ m_2 out4 x50 H_5 < m_2 out4 x17 H_3)))
 (CallsH Try.prog 35 #[out4, (.func (.func 36) #[] #[])] H_3 fun x52 H_8 =>
 R (.tuple #[out4, (.int .i64 0)]) H_8))
set_option maxRecDepth 100000 in
theorem wal_Log_Entries.vc (l0 : Value) (H0 : Heap) (R : Value → Heap → Prop) (h : wal_Log_Entries.res l0 H0 R) : CallsH Try.prog 19 #[l0] H0 R := by
  have e : vcFn Try.prog Try.C Try.f19 wal_Log_Entries.an [l0] H0 R = wal_Log_Entries.res l0 H0 R := by kernel_rfl
  exact vcFn_sound Try.callable Try.mixed Try.func19 (by kernel_rfl) (e.mpr h)

def wal_read.an : Ann := (.seq (.reg (.op 0 [] (.op 1 [] (.op 2 [] .nil)))) (.seq (.drw [0, 1, 3, 0, 8, 24, 7, 127] (.op 0 [] (.op 1 [] (.op 3 [] (.op 4 [] (.op 5 [] (.op 2 [] (.op 6 [] (.op 7 [] .nil))))))))) (.seq (.seq (.reg (.op 0 [] (.op 1 [] (.op 2 [] (.grp 2 (.op 3 [] (.op 4 [] .nil)) 5 .nil))))) (.cond (.seq (.reg (.op 0 [] (.op 1 [] (.op 2 [] .nil)))) .leaf) .leaf)) (.seq (.reg (.op 0 [] (.op 1 [] (.op 2 [] (.op 3 [] (.op 4 [] .nil)))))) (.seq (.reg (.op 0 [] (.op 1 [] (.op 2 [] (.op 3 [] (.op 4 [] (.op 5 [] (.op 6 [] (.op 7 [] (.op 8 [] (.op 9 [] .nil))))))))))) .leaf)))))
/-- lighter/wal.read -/
def wal_read.res (b0 : Value) (H0 : Heap) (R : Value → Heap → Prop) : Prop :=
 pSlStr b0 none (some (.int .i64 8)) fun x9 =>
 pIdxStr b0 (.int .i64 8) fun x12 =>
 pConv .i64 x12 fun x13 =>
 CallsH Try.prog 44 #[x9] H0 fun x10 H_1 =>
 pEq 0 x10 (.int .u64 0) fun x15 =>
 pOr x15 (fun J_2 =>
 pGt x13 (.int .i64 23) fun x18 =>
 J_2 x18 H_1) H_1 fun x19 H_3 => ∀ _ : Env,
 pCond x19
 (R (.tuple #[(.int .u64 0), (str []), (.bool false)]) H_3)
 (pAdd (.int .i64 9) x13 fun x22 =>
 pSlStr b0 (some (.int .i64 9)) (some x22) fun x23 =>
 CallsH Try.prog 15 #[x10, x23] H_3 fun x28 H_4 =>
 pEq 1 x28 b0 fun x30 =>
 R (.tuple #[x10, x23, x30]) H_4)
set_option maxRecDepth 100000 in
theorem wal_read.vc (b0 : Value) (H0 : Heap) (R : Value → Heap → Prop) (h : wal_read.res b0 H0 R) : CallsH Try.prog 22 #[b0] H0 R := by
  have e : vcFn Try.prog Try.C Try.f22 wal_read.an [b0] H0 R = wal_read.res b0 H0 R := by kernel_rfl
  exact vcFn_sound Try.callable Try.mixed Try.func22 (by kernel_rfl) (e.mpr h)

def wal_Log_write.an : Ann := (.seq (.reg (.op 0 [] .nil)) (.seq (.seq (.drw [0, 1, 3, 7, 0, 16, 48, 112, 0, 0, 512, 1536, 3584, 7680, 16128, 32512, 65520, 0, 0, 393216, 1048575, 2097151] (.op 0 [] (.op 1 [] (.op 2 [] (.op 3 [] (.op 4 [] (.op 5 [] (.op 6 [] (.op 7 [] (.op 8 [] (.op 9 [] (.op 10 [] (.op 11 [] (.op 12 [] (.op 13 [] (.op 14 [] (.op 15 [] (.op 16 [] (.op 17 [] (.op 18 [] (.op 19 [3, 7, 12] (.op 20 [] (.op 21 [] .nil))))))))))))))))))))))) (.seq (.reg (.op 0 [] (.op 1 [] .nil))) (.cond (.seq (.reg (.op 0 [] (.op 1 [] .nil))) .leaf) .leaf))) (.seq (.reg (.op 0 [] (.op 1 [] (.op 2 [] (.op 3 [] (.op 4 [] (.op 5 [] .nil))))))) .leaf)))
/-- (*lighter/wal.Log).write -/
def wal_Log_write.res (l0 : Value) (n1 : Value) (s2 : Value) (H0 : Heap) (R : Value → Heap → Prop) : Prop :=
 pNil l0 fun x9 =>
 pFieldAddr 0 x9 fun x10 =>
 pLoad H0 x10 fun x11 =>
 pNil l0 fun x13 =>
 pFieldAddr 1 x13 fun x14 =>
 pLoad H0 x14 fun x15 =>
 pNil l0 fun x18 =>
 pFieldAddr 2 x18 fun x19 =>
 pLoad H0 x19 fun x20 =>
 pConv .u64 x20 fun x21 =>
 pRem n1 x21 fun x22 =>
 pConv .i64 x22 fun x23 =>
 pAdd x15 x23 fun x24 =>
 CallsH Try.prog 15 #[n1, s2] H0 fun x27 H_1 =>
 (pLoad H_1 x10 fun r_ =>
 r_ = x11) ∧
 (pLoad H_1 x14 fun r_ =>
 r_ = x15) ∧
 (pLoad H_1 x19 fun r_ =>
 r_ = x20) ∧
 CallsH Try.prog 14 #[x11, x24, x27] H_1 fun x28 H_2 =>
 pNe 0 x28 (.int .i64 0) fun x30 =>
 pCond x30
 (R x28 H_2)
 (pNil l0 fun x33 =>
 pFieldAddr 0 x33 fun x34 =>
 pLoad H_2 x34 fun x35 =>
 CallsH Try.prog 45 #[x35] H_2 fun x36 H_3 =>
 R x36 H_3)
set_option maxRecDepth 100000 in
theorem wal_Log_write.vc (l0 : Value) (n1 : Value) (s2 : Value) (H0 : Heap) (R : Value → Heap → Prop) (h : wal_Log_write.res l0 n1 s2 H0 R) : CallsH Try.prog 23 #[l0, n1, s2] H0 R := by
  have e : vcFn Try.prog Try.C Try.f23 wal_Log_write.an [l0, n1, s2] H0 R = wal_Log_write.res l0 n1 s2 H0 R := by kernel_rfl
  exact vcFn_sound Try.callable Try.mixed Try.func23 (by kernel_rfl) (e.mpr h)

def wal_Log_Entries_f1.an : Ann := (.seq (.reg (.op 0 [] (.op 1 [] (.op 2 [] .nil)))) (.seq (.reg (.op 0 [] (.op 1 [] (.op 2 [] (.op 3 [] (.op 4 [] (.op 5 [] .nil))))))) .leaf))
/-- (*lighter/wal.Log).Entries$1 -/
def wal_Log_Entries_f1.res (a0 : Value) (b1 : Value) (H0 : Heap) (R : Value → Heap → Prop) : Prop :=
 pBox H0 49 a0 fun a2 H_1 =>
 pBox H_1 49 b1 fun b3 H_2 =>
 pFieldAddr 0 a2 fun x5 =>
 pLoad H_2 x5 fun x6 =>
 pFieldAddr 0 b3 fun x7 =>
 pLoad H_2 x7 fun x8 =>
 CallsH Try.prog 37 #[x6, x8] H_2 fun x9 H_3 =>
 R x9 H_3
set_option maxRecDepth 100000 in
theorem wal_Log_Entries_f1.vc (a0 : Value) (b1 : Value) (H0 : Heap) (R : Value → Heap → Prop) (h : wal_Log_Entries_f1.res a0 b1 H0 R) : CallsH Try.prog 36 #[a0, b1] H0 R := by
  have e : vcFn Try.prog Try.C Try.f36 wal_Log_Entries_f1.an [a0, b1] H0 R = wal_Log_Entries_f1.res a0 b1 H0 R := by kernel_rfl
  exact vcFn_sound Try.callable Try.mixed Try.func36 (by kernel_rfl) (e.mpr h)

end Go.Proofs.Ytaopejkbnohiiaa
