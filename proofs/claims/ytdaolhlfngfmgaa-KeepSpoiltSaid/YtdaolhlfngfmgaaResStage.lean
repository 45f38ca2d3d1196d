/- The residuals of package stage's functions, printed by resid.py. -/
import Derived.Test.YtdaolhlfngfmgaaVcSeat
namespace Go.Proofs.Ytdaolhlfngfmgaa
open Go Go.Vc Go.Proofs
set_option linter.unusedVariables false
set_option maxHeartbeats 4000000
def stage_New.an : Ann := (.seq (.reg (.op 0 [] (.op 1 [] .nil))) (.seq (.block (.seq (.reg (.op 0 [] (.op 1 [] (.op 2 [] (.grp 2 (.op 3 [] (.op 4 [] .nil)) 5 (.op 6 [] .nil)))))) (.cond (.seq (.reg (.op 0 [] (.op 1 [] .nil))) .leaf) (.seq (.reg (.op 0 [] (.op 1 [] (.op 2 [] (.grp 2 (.op 3 [] (.op 4 [] (.op 5 [] (.op 6 [] .nil)))) 7 (.op 8 [] (.grp 8 (.op 9 [] (.op 10 [] (.op 11 [] (.op 12 [] (.op 13 [] (.op 14 [] .nil)))))) 15 (.op 16 [] (.grp 16 (.op 17 [] (.op 18 [] .nil)) 19 (.op 20 [] (.grp 20 (.op 21 [] (.op 22 [] (.op 23 [] (.op 24 [] .nil)))) 25 (.op 26 [] .nil)))))))))))) (.cond (.seq (.reg (.op 0 [] (.op 1 [] .nil))) .leaf) .leaf))))) (.seq (.reg (.op 0 [] (.op 1 [] (.op 2 [] (.op 3 [] (.op 4 [] (.op 5 [] (.op 6 [] (.op 7 [] .nil))))))))) .leaf)))
/-- lighter/stage.New -/
def stage_New.res (d0 : Value) (at1 : Value) (sectors2 : Value) (size3 : Value) (H0 : Heap) (R : Value → Heap → Prop) : Prop :=
 pEq 3 d0 (.pointer none) fun x12 =>
 pOr x12 (fun J_1 =>
 pLt sectors2 (.int .i64 1) fun x15 =>
 J_1 x15 H0) H0 fun x16 H_2 => ∀ _ : Env,
 pCond x16
 (R (.tuple #[(.pointer none), (.int .i64 1)]) H_2)
 (pLt at1 (.int .i64 0) fun x19 =>
 pOr x19 (fun J_3 =>
 CallsH Try.prog 19 #[d0] H_2 fun x23 H_5 =>
 pGt at1 x23 fun x24 =>
 J_3 x24 H_5) H_2 fun x25 H_4 => ∀ _ : Env,
 pOr x25 (fun J_6 =>
 CallsH Try.prog 19 #[d0] H_4 fun x29 H_8 =>
 pSub x29 at1 fun x31 =>
 pGt sectors2 x31 fun x32 =>
 J_6 x32 H_8) H_4 fun x33 H_7 => ∀ _ : Env,
 pOr x33 (fun J_9 =>
 pLt size3 (.int .i64 0) fun x36 =>
 J_9 x36 H_7) H_7 fun x37 H_10 => ∀ _ : Env,
 pOr x37 (fun J_11 =>
 pMul sectors2 (.int .i64 64) fun x41 =>
 pGt size3 x41 fun x42 =>
 J_11 x42 H_10) H_10 fun x43 H_12 => ∀ _ : Env,
 pCond x43
 (R (.tuple #[(.pointer none), (.int .i64 20)]) H_12)
 (pBuild [(.pointer none), (.int .i64 0), (.int .i64 0), (.int .i64 0)] [(0, 1, d0), (1, 1, at1), (2, 1, sectors2), (3, 1, size3)] fun x48 =>
 pBox H_12 100 x48 fun x49 H_13 =>
 R (.tuple #[x49, (.int .i64 0)]) H_13))
set_option maxRecDepth 100000 in
theorem stage_New.vc (d0 : Value) (at1 : Value) (sectors2 : Value) (size3 : Value) (H0 : Heap) (R : Value → Heap → Prop) (h : stage_New.res d0 at1 sectors2 size3 H0 R) : CallsH Try.prog 24 #[d0, at1, sectors2, size3] H0 R := by
  have e : vcFn Try.prog Try.C Try.f24 stage_New.an [d0, at1, sectors2, size3] H0 R = stage_New.res d0 at1 sectors2 size3 H0 R := by kernel_rfl
  exact vcFn_sound Try.callable Try.mixed Try.func24 (by kernel_rfl) (e.mpr h)

def stage_File_Read.an : Ann := (.seq (.reg (.op 0 [] (.op 1 [] .nil))) (.seq (.block (.seq (.reg (.op 0 [] (.op 1 [] (.op 2 [] .nil)))) (.cond (.seq (.reg (.op 0 [] (.op 1 [] .nil))) .leaf) (.seq (.reg (.op 0 [] (.op 1 [] (.op 2 [] (.grp 2 (.op 3 [] (.op 4 [] .nil)) 5 (.op 6 [] (.grp 6 (.op 7 [] (.op 8 [] (.op 9 [] (.op 10 [] (.op 11 [] (.op 12 [] .nil)))))) 13 (.op 14 [] (.grp 14 (.op 15 [] (.op 16 [] (.op 17 [] (.op 18 [] (.op 19 [] (.op 20 [] (.op 21 [] (.op 22 [] .nil)))))))) 23 (.op 24 [] .nil)))))))))) (.cond (.seq (.reg (.op 0 [] (.op 1 [] .nil))) .leaf) .leaf))))) (.seq (.reg (.op 0 [] .nil)) (.seq (.seq (.reg (.op 0 [] (.op 1 [] (.op 2 [] (.op 3 [] .nil))))) (.block (.loop [1] [1, 6, 7, 10, 11, 12, 13, 45, 46, 47, 48, 49, 50, 51, 52, 53, 54, 55, 56, 57, 58, 59, 60, 61, 62, 63, 64, 65, 66, 67, 68, 69, 70, 71, 72, 73, 74, 75, 76, 77, 78, 79, 80, 81, 82, 83] (.seq (.seq (.reg (.op 0 [] (.op 1 [] (.op 2 [] .nil)))) (.cond .leaf .leaf)) (.block (.seq (.drw [0, 1, 3, 7, 0, 16, 48, 112, 0, 256, 1008, 2047, 4095, 8191, 8191, 16383, 65535] (.op 0 [] (.op 1 [] (.op 2 [] (.op 3 [] (.op 4 [] (.op 5 [] (.op 6 [] (.op 7 [] (.op 8 [] (.op 9 [] (.op 10 [] (.op 11 [] (.op 12 [] (.op 13 [] (.op 14 [] (.op 15 [] (.op 16 [] .nil)))))))))))))))))) (.seq (.seq (.reg (.op 0 [] (.op 1 [] .nil))) (.cond (.seq (.reg (.op 0 [] (.op 1 [] (.op 2 [] .nil)))) .leaf) .leaf)) (.seq (.reg (.op 0 [] (.op 1 [] (.op 2 [] .nil)))) (.seq (.reg (.op 0 [] (.op 1 [] (.op 2 [] (.op 3 [] (.op 4 [] (.op 5 [] (.op 6 [] .nil)))))))) (.seq (.reg (.op 0 [] (.op 1 [] (.op 2 [] (.op 3 [] (.op 4 [] (.op 5 [] (.op 6 [] .nil)))))))) (.reg (.op 0 [] (.op 1 [] (.op 2 [] (.op 3 [] .nil))))))))))))))) (.seq (.reg (.op 0 [] (.op 1 [] (.op 2 [] .nil)))) .leaf)))))
/-- (*lighter/stage.File).Read -/
def stage_File_Read.res (f0 : Value) (at1 : Value) (n2 : Value) (H0 : Heap) (R : Value → Heap → Prop) : Prop :=
 pEq 3 f0 (.pointer none) fun x16 =>
 pCond x16
 (R (.tuple #[(str []), (.int .i64 1)]) H0)
 (pLt at1 (.int .i64 0) fun x19 =>
 pOr x19 (fun J_1 =>
 pLt n2 (.int .i64 0) fun x22 =>
 J_1 x22 H0) H0 fun x23 H_2 => ∀ _ : Env,
 pOr x23 (fun J_3 =>
 pNil f0 fun x27 =>
 pFieldAddr 3 x27 fun x28 =>
 pLoad H_2 x28 fun x29 =>
 pGt at1 x29 fun x30 =>
 J_3 x30 H_2) H_2 fun x31 H_4 => ∀ _ : Env,
 pOr x31 (fun J_5 =>
 pNil f0 fun x35 =>
 pFieldAddr 3 x35 fun x36 =>
 pLoad H_4 x36 fun x37 =>
 pSub x37 at1 fun x39 =>
 pGt n2 x39 fun x40 =>
 J_5 x40 H_4) H_4 fun x41 H_6 => ∀ _ : Env,
 pCond x41
 (R (.tuple #[(str []), (.int .i64 20)]) H_6)
 (pBox H_6 85 (.agg #[(.pointer none), (.slice none 0 0)]) fun b8 H_7 =>
 pAdd at1 n2 fun x44 =>
 ∃ (I_8 : Value → Heap → Prop) (m_9 : Value → Heap → Nat), I_8 at1 H_7 ∧
 ∀ _ : Env, ∀ at1' : Value, ∀ H_10 : Heap, I_8 at1' H_10 →
 pLt at1' x44 fun x47 =>
 pCond x47
 (pNil f0 fun x50 =>
 pFieldAddr 0 x50 fun x51 =>
 pLoad H_10 x51 fun x52 =>
 pNil f0 fun x54 =>
 pFieldAddr 1 x54 fun x55 =>
 pLoad H_10 x55 fun x56 =>
 pQuo at1' (.int .i64 64) fun x58 =>
 pAdd x56 x58 fun x59 =>
 CallsH Try.prog 10 #[x52, x59] H_10 fun x60 H_11 =>
 pExtract 0 x60 fun x61 =>
 pExtract 1 x60 fun x62 =>
 pNe 0 x62 (.int .i64 0) fun x64 =>
 pCond x64
 (R (.tuple #[(str []), x62]) H_11)
 (pRem at1' (.int .i64 64) fun x67 =>
 pSub (.int .i64 64) x67 fun x69 =>
 pSub x44 at1' fun x72 =>
 pMin x69 x72 fun x73 =>
 pAdd x67 x73 fun x78 =>
 pSlStr x61 (some x67) (some x78) fun x79 =>
 CallsH Try.prog 46 #[b8, x79] H_11 fun x80 H_12 =>
 pAdd at1' x73 fun x83 =>
 I_8 x83 H_12 ∧ m_9 x83 H_12 < m_9 at1' H_10))
 (CallsH Try.prog 48 #[b8] H_10 fun x84 H_13 =>
 R (.tuple #[x84, (.int .i64 0)]) H_13)))
set_option maxRecDepth 100000 in
theorem stage_File_Read.vc (f0 : Value) (at1 : Value) (n2 : Value) (H0 : Heap) (R : Value → Heap → Prop) (h : stage_File_Read.res f0 at1 n2 H0 R) : CallsH Try.prog 25 #[f0, at1, n2] H0 R := by
  have e : vcFn Try.prog Try.C Try.f25 stage_File_Read.an [f0, at1, n2] H0 R = stage_File_Read.res f0 at1 n2 H0 R := by kernel_rfl
  exact vcFn_sound Try.callable Try.mixed Try.func25 (by kernel_rfl) (e.mpr h)

def stage_File_Append.an : Ann := (.seq (.reg (.op 0 [] .nil)) (.seq (.block (.seq (.reg (.op 0 [] (.op 1 [] (.op 2 [] .nil)))) (.cond (.seq (.reg (.op 0 [] .nil)) .leaf) (.seq (.reg (.op 0 [] (.op 1 [] (.op 2 [] (.op 3 [] (.op 4 [] (.op 5 [] .nil))))))) (.cond (.seq (.reg (.op 0 [] .nil)) .leaf) .leaf))))) (.seq (.reg (.op 0 [] (.op 1 [] (.op 2 [] (.op 3 [] (.op 4 [] .nil)))))) (.seq (.block (.loop [1, 5] [1, 4, 5, 6, 7, 8, 22, 23, 24, 25, 26, 27, 28, 29, 30, 31, 32, 33, 34, 35, 36, 37, 38, 39, 40, 41, 42, 43, 44, 45, 46, 47] (.seq (.seq (.reg (.op 0 [] (.op 1 [] .nil))) (.cond .leaf .leaf)) (.block (.seq (.reg (.op 0 [] (.op 1 [] (.op 2 [] .nil)))) (.seq (.reg (.op 0 [] (.op 1 [] (.op 2 [] (.op 3 [] (.op 4 [] (.op 5 [] .nil))))))) (.seq (.seq (.reg (.op 0 [] (.op 1 [] (.op 2 [] (.op 3 [] (.op 4 [] (.op 5 [] (.op 6 [] (.op 7 [] (.op 8 [] .nil)))))))))) (.seq (.reg (.op 0 [] (.op 1 [] .nil))) (.cond (.seq (.reg (.op 0 [] (.op 1 [] .nil))) .leaf) .leaf))) (.reg (.op 0 [] (.op 1 [] (.op 2 [] (.op 3 [] (.op 4 [] (.op 5 [] (.op 6 [] (.op 7 [] .nil)))))))))))))))) (.seq (.reg (.op 0 [] (.op 1 [] (.op 2 [] (.op 3 [] (.op 4 [] .nil)))))) (.seq (.reg (.op 0 [] .nil)) .leaf))))))
/-- (*lighter/stage.File).Append -/
def stage_File_Append.res (f0 : Value) (s1 : Value) (H0 : Heap) (R : Value → Heap → Prop) : Prop :=
 pEq 3 f0 (.pointer none) fun x11 =>
 pCond x11
 (R (.int .i64 1) H0)
 (pLenS s1 fun x14 =>
 CallsH Try.prog 42 #[f0] H0 fun x16 H_1 =>
 pGt x14 x16 fun x17 =>
 pCond x17
 (R (.int .i64 15) H_1)
 (pNil f0 fun x19 =>
 pFieldAddr 3 x19 fun x20 =>
 pLoad H_1 x20 fun x21 =>
 ∃ (I_2 : Value → Value → Heap → Prop) (m_3 : Value → Value → Heap → Nat), I_2 s1 x21 H_1 ∧
 ∀ _ : Env, ∀ s1' : Value, ∀ size5 : Value, ∀ H_4 : Heap, I_2 s1' size5 H_4 →
 pNe 1 s1' (str []) fun x23 =>
 pCond x23
 (pRem size5 (.int .i64 64) fun x25 =>
 pLenS s1' fun x27 =>
 pSub (.int .i64 64) x25 fun x29 =>
 pMin x27 x29 fun x30 =>
 pQuo size5 (.int .i64 64) fun x33 =>
 pSlStr s1' none (some x30) fun x37 =>
 CallsH Try.prog 52 #[f0, x33, x25, x37] H_4 fun x38 H_5 =>
 pNe 0 x38 (.int .i64 0) fun x40 =>
 pCond x40
 (R x38 H_5)
 (pSlStr s1' (some x30) none fun x44 =>
 pAdd size5 x30 fun x47 =>
 I_2 x44 x47 H_5 ∧ m_3 x44 x47 H_5 < m_3 s1' size5 H_4))
 (pNil f0 fun x50 =>
 pFieldAddr 3 x50 fun x51 =>
 pStore H_4 x51 size5 fun _ H_6 =>
 R (.int .i64 0) H_6)))
set_option maxRecDepth 100000 in
theorem stage_File_Append.vc (f0 : Value) (s1 : Value) (H0 : Heap) (R : Value → Heap → Prop) (h : stage_File_Append.res f0 s1 H0 R) : CallsH Try.prog 28 #[f0, s1] H0 R := by
  have e : vcFn Try.prog Try.C Try.f28 stage_File_Append.an [f0, s1] H0 R = stage_File_Append.res f0 s1 H0 R := by kernel_rfl
  exact vcFn_sound Try.callable Try.mixed Try.func28 (by kernel_rfl) (e.mpr h)

def stage_File_Sync.an : Ann := (.seq (.reg (.op 0 [] .nil)) (.seq (.seq (.reg (.op 0 [] (.op 1 [] .nil))) (.cond (.seq (.reg (.op 0 [] .nil)) .leaf) .leaf)) (.seq (.reg (.op 0 [] (.op 1 [] (.op 2 [] (.op 3 [] (.op 4 [] (.op 5 [] .nil))))))) .leaf)))
/-- (*lighter/stage.File).Sync -/
def stage_File_Sync.res (f0 : Value) (H0 : Heap) (R : Value → Heap → Prop) : Prop :=
 pEq 3 f0 (.pointer none) fun x4 =>
 pCond x4
 (R (.int .i64 1) H0)
 (pNil f0 fun x6 =>
 pFieldAddr 0 x6 fun x7 =>
 pLoad H0 x7 fun x8 =>
 CallsH Try.prog 53 #[x8] H0 fun x9 H_1 =>
 R x9 H_1)
set_option maxRecDepth 100000 in
theorem stage_File_Sync.vc (f0 : Value) (H0 : Heap) (R : Value → Heap → Prop) (h : stage_File_Sync.res f0 H0 R) : CallsH Try.prog 30 #[f0] H0 R := by
  have e : vcFn Try.prog Try.C Try.f30 stage_File_Sync.an [f0] H0 R = stage_File_Sync.res f0 H0 R := by kernel_rfl
  exact vcFn_sound Try.callable Try.mixed Try.func30 (by kernel_rfl) (e.mpr h)

def stage_File_Cut.an : Ann := (.seq (.reg (.op 0 [] .nil)) (.seq (.block (.seq (.reg (.op 0 [] (.op 1 [] (.op 2 [] .nil)))) (.cond (.seq (.reg (.op 0 [] .nil)) .leaf) (.seq (.reg (.op 0 [] (.op 1 [] (.op 2 [] (.grp 2 (.op 3 [] (.op 4 [] (.op 5 [] (.op 6 [] (.op 7 [] (.op 8 [] .nil)))))) 9 (.op 10 [] .nil)))))) (.cond (.seq (.reg (.op 0 [] .nil)) .leaf) .leaf))))) (.seq (.reg (.op 0 [] (.op 1 [] (.op 2 [] (.op 3 [] (.op 4 [] .nil)))))) (.seq (.reg (.op 0 [] .nil)) .leaf))))
/-- (*lighter/stage.File).Cut -/
def stage_File_Cut.res (f0 : Value) (n1 : Value) (H0 : Heap) (R : Value → Heap → Prop) : Prop :=
 pEq 3 f0 (.pointer none) fun x7 =>
 pCond x7
 (R (.int .i64 1) H0)
 (pLt n1 (.int .i64 0) fun x10 =>
 pOr x10 (fun J_1 =>
 pNil f0 fun x14 =>
 pFieldAddr 3 x14 fun x15 =>
 pLoad H0 x15 fun x16 =>
 pGt n1 x16 fun x17 =>
 J_1 x17 H0) H0 fun x18 H_2 => ∀ _ : Env,
 pCond x18
 (R (.int .i64 20) H_2)
 (pNil f0 fun x21 =>
 pFieldAddr 3 x21 fun x22 =>
 pStore H_2 x22 n1 fun _ H_3 =>
 R (.int .i64 0) H_3))
set_option maxRecDepth 100000 in
theorem stage_File_Cut.vc (f0 : Value) (n1 : Value) (H0 : Heap) (R : Value → Heap → Prop) (h : stage_File_Cut.res f0 n1 H0 R) : CallsH Try.prog 40 #[f0, n1] H0 R := by
  have e : vcFn Try.prog Try.C Try.f40 stage_File_Cut.an [f0, n1] H0 R = stage_File_Cut.res f0 n1 H0 R := by kernel_rfl
  exact vcFn_sound Try.callable Try.mixed Try.func40 (by kernel_rfl) (e.mpr h)

def stage_File_Room.an : Ann := (.seq (.reg (.op 0 [] .nil)) (.seq (.seq (.reg (.op 0 [] (.op 1 [] .nil))) (.cond (.seq (.reg (.op 0 [] .nil)) .leaf) .leaf)) (.seq (.drw [0, 1, 3, 7, 15, 0, 32, 96, 224, 511, 1023] (.op 0 [] (.op 1 [] (.op 2 [] (.op 3 [] (.op 4 [] (.op 5 [] (.op 6 [] (.op 7 [] (.op 8 [] (.op 9 [] (.op 10 [] .nil)))))))))))) .leaf)))
/-- (*lighter/stage.File).Room -/
def stage_File_Room.res (f0 : Value) (H0 : Heap) (R : Value → Heap → Prop) : Prop :=
 pEq 3 f0 (.pointer none) fun x4 =>
 pCond x4
 (R (.int .i64 0) H0)
 (pNil f0 fun x6 =>
 pFieldAddr 2 x6 fun x7 =>
 pLoad H0 x7 fun x8 =>
 pMul x8 (.int .i64 64) fun x9 =>
 pNil f0 fun x11 =>
 pFieldAddr 3 x11 fun x12 =>
 pLoad H0 x12 fun x13 =>
 pSub x9 x13 fun x14 =>
 R x14 H0)
set_option maxRecDepth 100000 in
theorem stage_File_Room.vc (f0 : Value) (H0 : Heap) (R : Value → Heap → Prop) (h : stage_File_Room.res f0 H0 R) : CallsH Try.prog 42 #[f0] H0 R := by
  have e : vcFn Try.prog Try.C Try.f42 stage_File_Room.an [f0] H0 R = stage_File_Room.res f0 H0 R := by kernel_rfl
  exact vcFn_sound Try.callable Try.mixed Try.func42 (by kernel_rfl) (e.mpr h)

def stage_File_fill.an : Ann := (.seq (.reg (.op 0 [] .nil)) (.seq (.reg (.op 0 [] .nil)) (.cut [9] [8, 9, 10, 11, 13, 14, 15, 16, 17, 18, 19, 20, 21, 22, 23, 24, 25, 26, 27, 28, 29, 30, 31, 32, 33, 34] (.seq (.reg (.op 0 [] (.op 1 [] .nil))) (.cond (.seq (.drw [0, 1, 3, 7, 0, 16, 48, 112, 0, 496, 1023, 2047, 4095, 4095, 8191, 32767] (.op 0 [] (.op 1 [] (.op 2 [] (.op 3 [] (.op 4 [] (.op 5 [] (.op 6 [] (.op 7 [] (.op 8 [] (.op 9 [] (.op 10 [] (.op 11 [] (.op 12 [] (.op 13 [] (.op 14 [] (.op 15 [] .nil))))))))))))))))) (.seq (.seq (.reg (.op 0 [] (.op 1 [] .nil))) (.cond (.seq (.reg (.op 0 [] (.op 1 [] .nil))) .leaf) .leaf)) (.reg (.op 0 [] (.op 1 [] (.op 2 [] (.op 3 [] .nil))))))) .leaf)) (.seq (.reg (.op 0 [] (.op 1 [] (.op 2 [] (.op 3 [] .nil))))) (.seq (.drw [0, 1, 3, 7, 0, 16, 48, 112, 0, 496, 0, 0, 2048, 6144, 14336, 31744, 65535, 131071] (.op 0 [] (.op 1 [] (.op 2 [] (.op 3 [] (.op 4 [] (.op 5 [] (.op 6 [] (.op 7 [] (.op 8 [] (.op 9 [] (.op 10 [] (.op 11 [] (.op 12 [] (.op 13 [] (.op 14 [3, 7] (.op 15 [] (.op 16 [] (.op 17 [] .nil))))))))))))))))))) .leaf)))))
/-- (*lighter/stage.File).fill -/
def stage_File_fill.res (f0 : Value) (sector1 : Value) (from2 : Value) (s3 : Value) (H0 : Heap) (R : Value → Heap → Prop) : Prop :=
 ∃ J_1 : Value → Heap → Prop, (∀ _ : Env, ∀ was9 : Value, ∀ H_2 : Heap, J_1 was9 H_2 →
 pAdd was9 s3 fun x37 =>
 pNil f0 fun x39 =>
 pFieldAddr 0 x39 fun x40 =>
 pLoad H_2 x40 fun x41 =>
 pNil f0 fun x43 =>
 pFieldAddr 1 x43 fun x44 =>
 pLoad H_2 x44 fun x45 =>
 pAdd x45 sector1 fun x47 =>
 pLenS x37 fun x50 =>
 pSub (.int .i64 64) x50 fun x51 =>
 CallsH Try.prog 18 #[(str [0]), x51] H_2 fun x52 H_3 =>
 (pLoad H_3 x40 fun r_ =>
 r_ = x41) ∧
 (pLoad H_3 x44 fun r_ =>
 r_ = x45) ∧
 pAdd x37 x52 fun x53 =>
 CallsH Try.prog 11 #[x41, x47, x53] H_3 fun x54 H_4 =>
 R x54 H_4) ∧
 pGt from2 (.int .i64 0) fun x14 =>
 pCond x14
 (pNil f0 fun x17 =>
 pFieldAddr 0 x17 fun x18 =>
 pLoad H0 x18 fun x19 =>
 pNil f0 fun x21 =>
 pFieldAddr 1 x21 fun x22 =>
 pLoad H0 x22 fun x23 =>
 pAdd x23 sector1 fun x25 =>
 CallsH Try.prog 10 #[x19, x25] H0 fun x26 H_5 =>
 pExtract 0 x26 fun x27 =>
 pExtract 1 x26 fun x28 =>
 pNe 0 x28 (.int .i64 0) fun x30 =>
 pCond x30
 (R x28 H_5)
 (pSlStr x27 none (some from2) fun x34 =>
 J_1 x34 H_5))
 (J_1 (str []) H0)
set_option maxRecDepth 100000 in
theorem stage_File_fill.vc (f0 : Value) (sector1 : Value) (from2 : Value) (s3 : Value) (H0 : Heap) (R : Value → Heap → Prop) (h : stage_File_fill.res f0 sector1 from2 s3 H0 R) : CallsH Try.prog 52 #[f0, sector1, from2, s3] H0 R := by
  have e : vcFn Try.prog Try.C Try.f52 stage_File_fill.an [f0, sector1, from2, s3] H0 R = stage_File_fill.res f0 sector1 from2 s3 H0 R := by kernel_rfl
  exact vcFn_sound Try.callable Try.mixed Try.func52 (by kernel_rfl) (e.mpr h)

end Go.Proofs.Ytdaolhlfngfmgaa
