/- The residuals of package disk's functions, printed by resid.py. -/
import Derived.Test.YtaopejkbnohiiaaVcSeat
namespace Go.Proofs.Ytaopejkbnohiiaa
open Go Go.Vc Go.Proofs
set_option linter.unusedVariables false
set_option maxHeartbeats 4000000
def disk_New.an : Ann := (.seq (.reg (.op 0 [] (.op 1 [] .nil))) (.seq (.seq (.reg (.op 0 [] (.op 1 [] (.op 2 [] (.grp 2 (.op 3 [] (.op 4 [] .nil)) 5 .nil))))) (.cond (.seq (.reg (.op 0 [] (.op 1 [] .nil))) .leaf) .leaf)) (.seq (.reg (.op 0 [] (.op 1 [] (.op 2 [] (.op 3 [] (.op 4 [] (.op 5 [] .nil))))))) (.seq (.seq (.reg (.op 0 [] (.op 1 [] (.op 2 [] (.op 3 [] (.op 4 [] (.op 5 [] .nil))))))) (.block (.loop [22] [5, 22, 23, 24, 25, 26, 27, 28, 29, 30, 31, 32] (.seq (.reg (.op 0 [] .nil)) (.seq (.cond .leaf .leaf) (.seq (.block (.seq (.reg (.op 0 [] (.op 1 [] .nil))) (.drw [0, 1, 3, 7, 0, 0, 63, 127] (.op 0 [] (.op 1 [] (.op 2 [] (.op 3 [] (.op 4 [] (.op 5 [3] (.op 6 [] (.op 7 [] .nil))))))))))) (.reg (.op 0 [] (.op 1 [] .nil))))))))) (.seq (.reg (.op 0 [] (.op 1 [] (.op 2 [] .nil)))) .leaf)))))
/-- lighter/disk.New -/
def disk_New.res (sectors0 : Value) (H0 : Heap) (R : Value → Heap → Prop) : Prop :=
 pLt sectors0 (.int .i64 1) fun x7 =>
 pOr x7 (fun J_1 =>
 pGt sectors0 (.int .i64 65536) fun x10 =>
 J_1 x10 H0) H0 fun x11 H_2 => ∀ _ : Env,
 pCond x11
 (R (.tuple #[(.pointer none), (.int .i64 1)]) H_2)
 (pMakeSl H_2 9 16 [(str [])] sectors0 sectors0 fun x13 H_3 =>
 pMakeMap H_3 fun x14 H_4 =>
 pBuild [(.slice none 0 0), (.map none), (.slice none 0 0), (.bool false), (.bool false), (.int .i64 0)] [(0, 1, x13), (1, 1, x14)] fun x15 =>
 pBox H_4 53 x15 fun x16 H_5 =>
 pNil x16 fun x18 =>
 pFieldAddr 0 x18 fun x19 =>
 pLoad H_5 x19 fun x20 =>
 pLen x20 fun x21 =>
 ∃ (I_6 : Value → Heap → Prop) (m_7 : Value → Heap → Nat), I_6 (.int .i64 0) H_5 ∧
 ∀ _ : Env, ∀ x22 : Value, ∀ H_8 : Heap, I_6 x22 H_8 →
 pLt x22 x21 fun x23 =>
 pCond x23
 (pNil x16 fun x26 =>
 pFieldAddr 0 x26 fun x27 =>
 pLoad H_8 x27 fun x28 =>
 CallsH Try.prog 20 #[(str [0]), (.int .i64 64)] H_8 fun x30 H_9 =>
 (pLoad H_9 x27 fun r_ =>
 r_ = x28) ∧
 pIdxSl 1 x28 x22 fun x31 =>
 pStore H_9 x31 x30 fun _ H_10 =>
 pAdd x22 (.int .i64 1) fun x32 =>
 I_6 x32 H_10 ∧ m_7 x32 H_10 < m_7 x22 H_8)
 (R (.tuple #[x16, (.int .i64 0)]) H_8))
set_option maxRecDepth 100000 in
theorem disk_New.vc (sectors0 : Value) (H0 : Heap) (R : Value → Heap → Prop) (h : disk_New.res sectors0 H0 R) : CallsH Try.prog 8 #[sectors0] H0 R := by
  have e : vcFn Try.prog Try.C Try.f8 disk_New.an [sectors0] H0 R = disk_New.res sectors0 H0 R := by kernel_rfl
  exact vcFn_sound Try.callable Try.mixed Try.func8 (by kernel_rfl) (e.mpr h)

def disk_Disk_Read.an : Ann := (.seq (.reg (.op 0 [] (.op 1 [] .nil))) (.seq (.seq (.reg (.op 0 [] (.op 1 [] (.op 2 [] (.op 3 [] .nil))))) (.seq (.reg (.op 0 [] (.op 1 [] .nil))) (.cond (.seq (.reg (.op 0 [] (.op 1 [] (.op 2 [] .nil)))) .leaf) .leaf))) (.seq (.seq (.reg (.op 0 [] (.op 1 [] (.op 2 [] (.op 3 [] (.op 4 [] (.op 5 [] (.op 6 [] (.op 7 [] (.op 8 [] (.op 9 [] (.op 10 [] .nil)))))))))))) (.seq (.reg (.op 0 [] .nil)) (.cond (.seq (.reg (.op 0 [] (.op 1 [] (.op 2 [] .nil)))) .leaf) .leaf))) (.seq (.reg (.op 0 [] (.op 1 [] (.op 2 [] (.op 3 [] (.op 4 [] (.op 5 [] (.op 6 [] (.op 7 [] (.op 8 [] .nil)))))))))) .leaf))))
/-- (*lighter/disk.Disk).Read -/
def disk_Disk_Read.res (d0 : Value) (i1 : Value) (H0 : Heap) (R : Value → Heap → Prop) : Prop :=
 CallsH Try.prog 24 #[d0, i1] H0 fun x11 H_1 =>
 pNe 0 x11 (.int .i64 0) fun x13 =>
 pCond x13
 (R (.tuple #[(str []), x11]) H_1)
 (pNil d0 fun x17 =>
 pFieldAddr 1 x17 fun x18 =>
 pLoad H_1 x18 fun x19 =>
 pLookup H_1 0 (str []) true x19 i1 fun x21 =>
 pExtract 0 x21 fun x22 =>
 pExtract 1 x21 fun x23 =>
 pCond x23
 (R (.tuple #[x22, (.int .i64 0)]) H_1)
 (pNil d0 fun x27 =>
 pFieldAddr 0 x27 fun x28 =>
 pLoad H_1 x28 fun x29 =>
 pIdxSl 1 x29 i1 fun x31 =>
 pLoad H_1 x31 fun x32 =>
 R (.tuple #[x32, (.int .i64 0)]) H_1))
set_option maxRecDepth 100000 in
theorem disk_Disk_Read.vc (d0 : Value) (i1 : Value) (H0 : Heap) (R : Value → Heap → Prop) (h : disk_Disk_Read.res d0 i1 H0 R) : CallsH Try.prog 11 #[d0, i1] H0 R := by
  have e : vcFn Try.prog Try.C Try.f11 disk_Disk_Read.an [d0, i1] H0 R = disk_Disk_Read.res d0 i1 H0 R := by kernel_rfl
  exact vcFn_sound Try.callable Try.mixed Try.func11 (by kernel_rfl) (e.mpr h)

def disk_Disk_Write.an : Ann := (.seq (.reg (.op 0 [] (.op 1 [] .nil))) (.seq (.seq (.reg (.op 0 [] (.op 1 [] (.op 2 [] (.grp 2 (.op 3 [] (.op 4 [] (.op 5 [] .nil))) 6 .nil))))) (.cond (.seq (.reg (.op 0 [] .nil)) .leaf) .leaf)) (.seq (.seq (.reg (.op 0 [] (.op 1 [] (.op 2 [] (.op 3 [] .nil))))) (.seq (.reg (.op 0 [] (.op 1 [] .nil))) (.cond (.seq (.reg (.op 0 [] (.op 1 [] .nil))) .leaf) .leaf))) (.seq (.seq (.reg (.op 0 [] (.op 1 [] .nil))) (.cond (.seq (.reg (.op 0 [] .nil)) .leaf) .leaf)) (.seq (.reg (.op 0 [] (.op 1 [] (.op 2 [] (.op 3 [] (.op 4 [] (.op 5 [] (.op 6 [] (.op 7 [] .nil))))))))) (.cut [] [30, 31, 32, 33, 34, 35, 36, 37, 38, 39, 40, 41] (.drw [0, 0, 2, 6, 14, 0, 62, 0, 128, 510, 1023, 2047, 4095] (.op 0 [] (.op 1 [] (.op 2 [] (.op 3 [] (.op 4 [] (.op 5 [] (.op 7 [] (.fork (.op 6 [7] (.op 8 [4] (.op 9 [] (.op 10 [] (.op 11 [] (.op 12 [] .nil)))))) (.op 8 [4] (.op 6 [7] (.op 9 [] (.op 10 [] (.op 11 [] (.op 12 [] .nil))))))))))))))) (.seq (.drw [0, 1, 3, 7, 0, 0, 63] (.op 0 [] (.op 1 [] (.op 2 [] (.op 3 [] (.op 4 [] (.op 5 [] (.op 6 [] .nil)))))))) (.seq (.reg (.op 0 [] .nil)) .leaf))))))))
/-- (*lighter/disk.Disk).Write -/
def disk_Disk_Write.res (d0 : Value) (i1 : Value) (s2 : Value) (H0 : Heap) (R : Value → Heap → Prop) : Prop :=
 pBox H0 3 i1 fun i4 H_1 =>
 pEq 3 d0 (.pointer none) fun x9 =>
 pOr x9 (fun J_2 =>
 pLenS s2 fun x12 =>
 pNe 0 x12 (.int .i64 64) fun x13 =>
 J_2 x13 H_1) H_1 fun x14 H_3 => ∀ _ : Env,
 pCond x14
 (R (.int .i64 1) H_3)
 (pLoad H_3 i4 fun x16 =>
 CallsH Try.prog 24 #[d0, x16] H_3 fun x17 H_4 =>
 pNe 0 x17 (.int .i64 0) fun x19 =>
 pCond x19
 (R x17 H_4)
 (CallsH Try.prog 27 #[d0] H_4 fun x22 H_5 =>
 pCond x22
 (R (.int .i64 14) H_5)
 (pNil d0 fun x24 =>
 pFieldAddr 5 x24 fun x25 =>
 pLoad H_5 x25 fun x26 =>
 pSub x26 (.int .i64 1) fun x27 =>
 pNil d0 fun x28 =>
 pFieldAddr 5 x28 fun x29 =>
 pStore H_5 x29 x27 fun _ H_6 =>
 ∃ J_7 : Heap → Prop, (∀ _ : Env, ∀ H_8 : Heap, J_7 H_8 →
 pNil d0 fun x43 =>
 pFieldAddr 1 x43 fun x44 =>
 pLoad H_8 x44 fun x45 =>
 pLoad H_8 i4 fun x46 =>
 pMapSet H_8 0 x45 x46 s2 fun _ H_9 =>
 R (.int .i64 0) H_9) ∧
 pNil d0 fun x32 =>
 pFieldAddr 2 x32 fun x33 =>
 pLoad H_6 x33 fun x34 =>
 pLoad H_6 i4 fun x37 =>
 (CallsH Try.prog 28 #[x34, (.func (.func 29) #[] #[i4])] H_6 fun x36 H_10 =>
 (pLoad H_10 i4 fun r_ =>
 r_ = x37) ∧
 pBuildSl H_10 3 1 [(.int .i64 0)] [(0, 1, x37)] fun x38 H_11 =>
 (pLoad H_11 x33 fun r_ =>
 r_ = x34) ∧
 pAppend H_11 3 1 8 [(.int .i64 0)] x36 x38 fun x39 H_12 =>
 pNil d0 fun x40 =>
 pFieldAddr 2 x40 fun x41 =>
 pStore H_12 x41 x39 fun _ H_13 =>
 J_7 H_13) ∧
 (pBuildSl H_6 3 1 [(.int .i64 0)] [(0, 1, x37)] fun x38 H_14 =>
 (pLoad H_14 x33 fun r_ =>
 r_ = x34) ∧
 CallsH Try.prog 28 #[x34, (.func (.func 29) #[] #[i4])] H_14 fun x36 H_15 =>
 (pLoad H_15 i4 fun r_ =>
 r_ = x37) ∧
 pAppend H_15 3 1 8 [(.int .i64 0)] x36 x38 fun x39 H_16 =>
 pNil d0 fun x40 =>
 pFieldAddr 2 x40 fun x41 =>
 pStore H_16 x41 x39 fun _ H_17 =>
 J_7 H_17))))
set_option maxRecDepth 100000 in
theorem disk_Disk_Write.vc (d0 : Value) (i1 : Value) (s2 : Value) (H0 : Heap) (R : Value → Heap → Prop) (h : disk_Disk_Write.res d0 i1 s2 H0 R) : CallsH Try.prog 14 #[d0, i1, s2] H0 R := by
  have e : vcFn Try.prog Try.C Try.f14 disk_Disk_Write.an [d0, i1, s2] H0 R = disk_Disk_Write.res d0 i1 s2 H0 R := by kernel_rfl
  exact vcFn_sound Try.callable Try.mixed Try.func14 (by kernel_rfl) (e.mpr h)

def disk_Disk_Crash.an : Ann := (.seq (.seq (.reg (.op 0 [] (.op 1 [] (.op 2 [] (.grp 2 (.op 3 [] (.op 4 [] (.op 5 [] (.op 6 [] .nil)))) 7 .nil))))) (.cond .leaf .leaf)) (.seq (.seq (.reg (.op 0 [] (.op 1 [] (.op 2 [] (.op 3 [] (.op 4 [] (.op 5 [] .nil))))))) (.block (.loop [20] [4, 5, 6, 20, 21, 22, 23, 24, 25, 26, 27, 28, 29, 30, 31, 32, 33, 34, 35, 36, 37, 38, 39, 40, 41, 42, 43, 44, 45, 46, 47, 48, 49, 50, 51, 52, 53, 54, 55, 56, 57] (.seq (.reg (.op 0 [] .nil)) (.seq (.cond .leaf .leaf) (.seq (.block (.seq (.reg (.op 0 [] (.op 1 [] (.op 2 [] (.op 3 [] (.op 4 [] .nil)))))) (.seq (.reg (.op 0 [] .nil)) (.cut [6] [6, 25, 26, 27, 28, 29, 30, 31, 32, 33, 34, 35] (.seq (.reg (.op 0 [] (.op 1 [] (.op 2 [] (.op 3 [] .nil))))) (.cond (.reg (.op 0 [] (.op 1 [] (.op 2 [] (.op 3 [] (.op 4 [] (.op 5 [] (.op 6 [] (.op 7 [] .nil))))))))) .leaf)) (.drw [0, 1, 3, 7, 0, 0, 32, 96, 224, 0, 992, 2016, 0, 4096, 12288, 28672, 0, 126976, 0, 524256, 1048575, 2097151] (.op 0 [] (.op 1 [] (.op 2 [] (.op 3 [] (.op 4 [] (.op 5 [] (.op 6 [] (.op 7 [] (.op 8 [] (.op 9 [] (.op 10 [] (.op 11 [] (.op 12 [] (.op 13 [] (.op 14 [] (.op 15 [] (.op 16 [] (.op 17 [] (.op 18 [] (.op 19 [3] (.op 20 [] (.op 21 [] .nil))))))))))))))))))))))))))) (.reg (.op 0 [] (.op 1 [] .nil))))))))) (.seq (.reg (.op 0 [] (.op 1 [] .nil))) (.reg (.op 0 [] (.op 1 [] (.op 2 [] (.op 3 [] (.op 4 [] (.op 5 [] (.op 6 [] (.op 7 [] .nil))))))))))))
/-- (*lighter/disk.Disk).Crash -/
def disk_Disk_Crash.res (d0 : Value) (l1 : Value) (H0 : Heap) (R : Value → Heap → Prop) : Prop :=
 pEq 3 d0 (.pointer none) fun x8 =>
 pOr x8 (fun J_1 =>
 pNil d0 fun x11 =>
 pFieldAddr 3 x11 fun x12 =>
 pLoad H0 x12 fun x13 =>
 J_1 x13 H0) H0 fun x14 H_2 => ∀ _ : Env,
 pCond x14
 (R (.tuple #[]) H_2)
 (pNil d0 fun x16 =>
 pFieldAddr 2 x16 fun x17 =>
 pLoad H_2 x17 fun x18 =>
 pLen x18 fun x19 =>
 ∃ (I_3 : Value → Heap → Prop) (m_4 : Value → Heap → Nat), I_3 (.int .i64 0) H_2 ∧
 ∀ _ : Env, ∀ x20 : Value, ∀ H_5 : Heap, I_3 x20 H_5 →
 pLt x20 x19 fun x21 =>
 pCond x21
 (pIdxSl 1 x18 x20 fun x23 =>
 pLoad H_5 x23 fun x24 =>
 ∃ J_6 : Value → Heap → Prop, (∀ _ : Env, ∀ fate6 : Value, ∀ H_7 : Heap, J_6 fate6 H_7 →
 pNil d0 fun x37 =>
 pFieldAddr 0 x37 fun x38 =>
 pLoad H_7 x38 fun x39 =>
 pNil d0 fun x42 =>
 pFieldAddr 0 x42 fun x43 =>
 pLoad H_7 x43 fun x44 =>
 pIdxSl 1 x44 x24 fun x46 =>
 pLoad H_7 x46 fun x47 =>
 pNil d0 fun x49 =>
 pFieldAddr 1 x49 fun x50 =>
 pLoad H_7 x50 fun x51 =>
 pLookup H_7 0 (str []) false x51 x24 fun x53 =>
 CallsH Try.prog 33 #[x47, x53, fate6] H_7 fun x55 H_8 =>
 (pLoad H_8 x38 fun r_ =>
 r_ = x39) ∧
 pIdxSl 1 x39 x24 fun x56 =>
 pStore H_8 x56 x55 fun _ H_9 =>
 pAdd x20 (.int .i64 1) fun x57 =>
 I_3 x57 H_9 ∧ m_4 x57 H_9 < m_4 x20 H_5) ∧
 pLen l1 fun x27 =>
 pLt x20 x27 fun x28 =>
 pCond x28
 (pIdxSl 1 l1 x20 fun x31 =>
 pLoad H_5 x31 fun x32 =>
 pRem x32 (.int .i64 4) fun x33 =>
 pAdd x33 (.int .i64 4) fun x34 =>
 pRem x34 (.int .i64 4) fun x35 =>
 J_6 x35 H_5)
 (J_6 (.int .i64 0) H_5))
 (CallsH Try.prog 34 #[d0] H_5 fun x59 H_10 =>
 pNil d0 fun x62 =>
 pFieldAddr 3 x62 fun x63 =>
 pStore H_10 x63 (.bool true) fun _ H_11 =>
 pNil d0 fun x64 =>
 pFieldAddr 4 x64 fun x65 =>
 pStore H_11 x65 (.bool false) fun _ H_12 =>
 R (.tuple #[]) H_12))
set_option maxRecDepth 100000 in
theorem disk_Disk_Crash.vc (d0 : Value) (l1 : Value) (H0 : Heap) (R : Value → Heap → Prop) (h : disk_Disk_Crash.res d0 l1 H0 R) : CallsH Try.prog 16 #[d0, l1] H0 R := by
  have e : vcFn Try.prog Try.C Try.f16 disk_Disk_Crash.an [d0, l1] H0 R = disk_Disk_Crash.res d0 l1 H0 R := by kernel_rfl
  exact vcFn_sound Try.callable Try.mixed Try.func16 (by kernel_rfl) (e.mpr h)

def disk_Disk_Start.an : Ann := (.seq (.reg (.op 0 [] (.op 1 [] .nil))) (.cond (.reg (.op 0 [] (.op 1 [] (.op 2 [] (.op 3 [] .nil))))) .leaf))
/-- (*lighter/disk.Disk).Start -/
def disk_Disk_Start.res (d0 : Value) (H0 : Heap) (R : Value → Heap → Prop) : Prop :=
 pNe 3 d0 (.pointer none) fun x3 =>
 pCond x3
 (pNil d0 fun x5 =>
 pFieldAddr 3 x5 fun x6 =>
 pStore H0 x6 (.bool false) fun _ H_1 =>
 R (.tuple #[]) H_1)
 (R (.tuple #[]) H0)
set_option maxRecDepth 100000 in
theorem disk_Disk_Start.vc (d0 : Value) (H0 : Heap) (R : Value → Heap → Prop) (h : disk_Disk_Start.res d0 H0 R) : CallsH Try.prog 17 #[d0] H0 R := by
  have e : vcFn Try.prog Try.C Try.f17 disk_Disk_Start.an [d0] H0 R = disk_Disk_Start.res d0 H0 R := by kernel_rfl
  exact vcFn_sound Try.callable Try.mixed Try.func17 (by kernel_rfl) (e.mpr h)

def disk_Disk_Fuse.an : Ann := (.seq (.reg (.op 0 [] (.op 1 [] .nil))) (.cond (.reg (.op 0 [] (.op 1 [] (.op 2 [] (.op 3 [] (.op 4 [] (.op 5 [] (.op 6 [] (.op 7 [] (.op 8 [] (.op 9 [] (.op 10 [] .nil)))))))))))) .leaf))
/-- (*lighter/disk.Disk).Fuse -/
def disk_Disk_Fuse.res (d0 : Value) (n1 : Value) (H0 : Heap) (R : Value → Heap → Prop) : Prop :=
 pNe 3 d0 (.pointer none) fun x5 =>
 pCond x5
 (pGe n1 (.int .i64 0) fun x9 =>
 pNil d0 fun x11 =>
 pFieldAddr 4 x11 fun x12 =>
 pStore H0 x12 x9 fun _ H_1 =>
 pNil d0 fun x13 =>
 pFieldAddr 5 x13 fun x14 =>
 pStore H_1 x14 n1 fun _ H_2 =>
 R (.tuple #[]) H_2)
 (R (.tuple #[]) H0)
set_option maxRecDepth 100000 in
theorem disk_Disk_Fuse.vc (d0 : Value) (n1 : Value) (H0 : Heap) (R : Value → Heap → Prop) (h : disk_Disk_Fuse.res d0 n1 H0 R) : CallsH Try.prog 18 #[d0, n1] H0 R := by
  have e : vcFn Try.prog Try.C Try.f18 disk_Disk_Fuse.an [d0, n1] H0 R = disk_Disk_Fuse.res d0 n1 H0 R := by kernel_rfl
  exact vcFn_sound Try.callable Try.mixed Try.func18 (by kernel_rfl) (e.mpr h)

def disk_Disk_Sectors.an : Ann := (.seq (.reg (.op 0 [] .nil)) (.seq (.seq (.reg (.op 0 [] (.op 1 [] .nil))) (.cond (.seq (.reg (.op 0 [] .nil)) .leaf) .leaf)) (.seq (.reg (.op 0 [] (.op 1 [] (.op 2 [] (.op 3 [] (.op 4 [] (.op 5 [] .nil))))))) .leaf)))
/-- (*lighter/disk.Disk).Sectors -/
def disk_Disk_Sectors.res (d0 : Value) (H0 : Heap) (R : Value → Heap → Prop) : Prop :=
 pEq 3 d0 (.pointer none) fun x4 =>
 pCond x4
 (R (.int .i64 0) H0)
 (pNil d0 fun x6 =>
 pFieldAddr 0 x6 fun x7 =>
 pLoad H0 x7 fun x8 =>
 pLen x8 fun x9 =>
 R x9 H0)
set_option maxRecDepth 100000 in
theorem disk_Disk_Sectors.vc (d0 : Value) (H0 : Heap) (R : Value → Heap → Prop) (h : disk_Disk_Sectors.res d0 H0 R) : CallsH Try.prog 21 #[d0] H0 R := by
  have e : vcFn Try.prog Try.C Try.f21 disk_Disk_Sectors.an [d0] H0 R = disk_Disk_Sectors.res d0 H0 R := by kernel_rfl
  exact vcFn_sound Try.callable Try.mixed Try.func21 (by kernel_rfl) (e.mpr h)

def disk_Disk_ready.an : Ann := (.seq (.reg (.op 0 [] .nil)) (.seq (.block (.seq (.reg (.op 0 [] (.op 1 [] (.op 2 [] .nil)))) (.cond (.seq (.reg (.op 0 [] .nil)) .leaf) (.seq (.reg (.op 0 [] (.op 1 [] (.op 2 [] (.op 3 [] (.op 4 [] .nil)))))) (.cond (.seq (.reg (.op 0 [] .nil)) .leaf) (.seq (.reg (.op 0 [] (.op 1 [] (.op 2 [] (.grp 2 (.op 3 [] (.op 4 [] (.op 5 [] (.op 6 [] (.op 7 [] (.op 8 [] (.op 9 [] .nil))))))) 10 (.op 11 [] .nil)))))) (.cond (.seq (.reg (.op 0 [] .nil)) .leaf) .leaf))))))) (.seq (.reg (.op 0 [] .nil)) .leaf)))
/-- (*lighter/disk.Disk).ready -/
def disk_Disk_ready.res (d0 : Value) (i1 : Value) (H0 : Heap) (R : Value → Heap → Prop) : Prop :=
 pEq 3 d0 (.pointer none) fun x7 =>
 pCond x7
 (R (.int .i64 1) H0)
 (pNil d0 fun x10 =>
 pFieldAddr 3 x10 fun x11 =>
 pLoad H0 x11 fun x12 =>
 pCond x12
 (R (.int .i64 14) H0)
 (pLt i1 (.int .i64 0) fun x15 =>
 pOr x15 (fun J_1 =>
 pNil d0 fun x19 =>
 pFieldAddr 0 x19 fun x20 =>
 pLoad H0 x20 fun x21 =>
 pLen x21 fun x22 =>
 pGe i1 x22 fun x23 =>
 J_1 x23 H0) H0 fun x24 H_2 => ∀ _ : Env,
 pCond x24
 (R (.int .i64 20) H_2)
 (R (.int .i64 0) H_2)))
set_option maxRecDepth 100000 in
theorem disk_Disk_ready.vc (d0 : Value) (i1 : Value) (H0 : Heap) (R : Value → Heap → Prop) (h : disk_Disk_ready.res d0 i1 H0 R) : CallsH Try.prog 24 #[d0, i1] H0 R := by
  have e : vcFn Try.prog Try.C Try.f24 disk_Disk_ready.an [d0, i1] H0 R = disk_Disk_ready.res d0 i1 H0 R := by kernel_rfl
  exact vcFn_sound Try.callable Try.mixed Try.func24 (by kernel_rfl) (e.mpr h)

def disk_Disk_burn.an : Ann := (.seq (.reg (.op 0 [] .nil)) (.seq (.seq (.reg (.op 0 [] (.op 1 [] (.op 2 [] (.op 3 [] (.op 4 [] (.grp 4 (.op 5 [] (.op 6 [] (.op 7 [] (.op 8 [] (.op 9 [] .nil))))) 10 .nil))))))) (.cond (.seq (.reg (.op 0 [] (.op 1 [] .nil))) (.seq (.reg (.op 0 [] .nil)) .leaf)) .leaf)) (.seq (.reg (.op 0 [] .nil)) .leaf)))
/-- (*lighter/disk.Disk).burn -/
def disk_Disk_burn.res (d0 : Value) (H0 : Heap) (R : Value → Heap → Prop) : Prop :=
 pNil d0 fun x4 =>
 pFieldAddr 4 x4 fun x5 =>
 pLoad H0 x5 fun x6 =>
 pAnd x6 (fun J_1 =>
 pNil d0 fun x9 =>
 pFieldAddr 5 x9 fun x10 =>
 pLoad H0 x10 fun x11 =>
 pLe x11 (.int .i64 0) fun x12 =>
 J_1 x12 H0) H0 fun x13 H_2 => ∀ _ : Env,
 pCond x13
 (CallsH Try.prog 16 #[d0, (.slice none 0 0)] H_2 fun x15 H_3 =>
 R (.bool true) H_3)
 (R (.bool false) H_2)
set_option maxRecDepth 100000 in
theorem disk_Disk_burn.vc (d0 : Value) (H0 : Heap) (R : Value → Heap → Prop) (h : disk_Disk_burn.res d0 H0 R) : CallsH Try.prog 27 #[d0] H0 R := by
  have e : vcFn Try.prog Try.C Try.f27 disk_Disk_burn.an [d0] H0 R = disk_Disk_burn.res d0 H0 R := by kernel_rfl
  exact vcFn_sound Try.callable Try.mixed Try.func27 (by kernel_rfl) (e.mpr h)

def disk_Disk_Write_f1.an : Ann := (.seq (.reg (.op 0 [] .nil)) (.seq (.reg (.op 0 [] (.op 1 [] (.op 2 [] (.op 3 [] .nil))))) .leaf))
/-- (*lighter/disk.Disk).Write$1 -/
def disk_Disk_Write_f1.res (k0 : Value) (a1 : Value) (H0 : Heap) (R : Value → Heap → Prop) : Prop :=
 pLoad H0 a1 fun x5 =>
 pEq 0 k0 x5 fun x6 =>
 R x6 H0
set_option maxRecDepth 100000 in
theorem disk_Disk_Write_f1.vc (k0 : Value) (a1 : Value) (H0 : Heap) (R : Value → Heap → Prop) (h : disk_Disk_Write_f1.res k0 a1 H0 R) : CallsH Try.prog 29 #[k0, a1] H0 R := by
  have e : vcFn Try.prog Try.C Try.f29 disk_Disk_Write_f1.an [k0, a1] H0 R = disk_Disk_Write_f1.res k0 a1 H0 R := by kernel_rfl
  exact vcFn_sound Try.callable Try.mixed Try.func29 (by kernel_rfl) (e.mpr h)

def disk_torn.an : Ann := (.seq (.reg (.op 0 [] .nil)) (.seq (.seq (.reg (.op 0 [] .nil)) (.block (.seq (.reg (.op 0 [] (.op 1 [] .nil))) (.cond (.seq (.reg (.op 0 [] (.op 1 [] .nil))) .leaf) (.seq (.reg (.op 0 [] (.op 1 [] .nil))) (.cond (.seq (.drw [0, 1, 0, 4, 15, 31] (.op 0 [] (.op 1 [] (.op 2 [] (.op 3 [] (.op 4 [] (.op 5 [] .nil))))))) .leaf) (.seq (.reg (.op 0 [] (.op 1 [] .nil))) (.cond (.seq (.drw [0, 1, 0, 4, 15, 31] (.op 0 [] (.op 1 [] (.op 2 [] (.op 3 [] (.op 4 [] (.op 5 [] .nil))))))) .leaf) .leaf)))))))) (.seq (.reg (.op 0 [] (.op 1 [] .nil))) .leaf)))
/-- lighter/disk.torn -/
def disk_torn.res (was0 : Value) (is1 : Value) (fate2 : Value) (H0 : Heap) (R : Value → Heap → Prop) : Prop :=
 pEq 0 fate2 (.int .i64 1) fun x9 =>
 pCond x9
 (R is1 H0)
 (pEq 0 fate2 (.int .i64 2) fun x12 =>
 pCond x12
 (pSlStr is1 none (some (.int .i64 32)) fun x14 =>
 pSlStr was0 (some (.int .i64 32)) none fun x16 =>
 pAdd x14 x16 fun x17 =>
 R x17 H0)
 (pEq 0 fate2 (.int .i64 3) fun x19 =>
 pCond x19
 (pSlStr was0 none (some (.int .i64 32)) fun x21 =>
 pSlStr is1 (some (.int .i64 32)) none fun x23 =>
 pAdd x21 x23 fun x24 =>
 R x24 H0)
 (R was0 H0)))
set_option maxRecDepth 100000 in
theorem disk_torn.vc (was0 : Value) (is1 : Value) (fate2 : Value) (H0 : Heap) (R : Value → Heap → Prop) (h : disk_torn.res was0 is1 fate2 H0 R) : CallsH Try.prog 33 #[was0, is1, fate2] H0 R := by
  have e : vcFn Try.prog Try.C Try.f33 disk_torn.an [was0, is1, fate2] H0 R = disk_torn.res was0 is1 fate2 H0 R := by kernel_rfl
  exact vcFn_sound Try.callable Try.mixed Try.func33 (by kernel_rfl) (e.mpr h)

def disk_Disk_clear.an : Ann := (.seq (.reg (.op 0 [] (.op 1 [] (.op 2 [] (.op 3 [] (.op 4 [] .nil)))))) (.reg (.op 0 [] (.op 1 [] (.op 2 [] (.op 3 [] .nil))))))
/-- (*lighter/disk.Disk).clear -/
def disk_Disk_clear.res (d0 : Value) (H0 : Heap) (R : Value → Heap → Prop) : Prop :=
 pNil d0 fun x3 =>
 pFieldAddr 1 x3 fun x4 =>
 pLoad H0 x4 fun x5 =>
 pClearM H0 x5 fun _ H_1 =>
 pNil d0 fun x7 =>
 pFieldAddr 2 x7 fun x8 =>
 pStore H_1 x8 (.slice none 0 0) fun _ H_2 =>
 R (.tuple #[]) H_2
set_option maxRecDepth 100000 in
theorem disk_Disk_clear.vc (d0 : Value) (H0 : Heap) (R : Value → Heap → Prop) (h : disk_Disk_clear.res d0 H0 R) : CallsH Try.prog 34 #[d0] H0 R := by
  have e : vcFn Try.prog Try.C Try.f34 disk_Disk_clear.an [d0] H0 R = disk_Disk_clear.res d0 H0 R := by kernel_rfl
  exact vcFn_sound Try.callable Try.mixed Try.func34 (by kernel_rfl) (e.mpr h)

def disk_Disk_Sync.an : Ann := (.seq (.reg (.op 0 [] .nil)) (.seq (.seq (.reg (.op 0 [] (.op 1 [] (.op 2 [] .nil)))) (.seq (.reg (.op 0 [] (.op 1 [] .nil))) (.cond (.seq (.reg (.op 0 [] (.op 1 [] .nil))) .leaf) .leaf))) (.seq (.seq (.reg (.op 0 [] (.op 1 [] .nil))) (.cond (.seq (.reg (.op 0 [] .nil)) .leaf) .leaf)) (.seq (.seq (.reg (.op 0 [] (.op 1 [] (.op 2 [] (.op 3 [] (.op 4 [] .nil)))))) (.block (.loop [] [4, 5, 18, 19, 20, 21, 22, 23, 24, 25, 26, 27, 28, 29] (.seq (.reg (.op 0 [] (.op 1 [] .nil))) (.seq (.cond .leaf .leaf) (.block (.seq (.reg (.op 0 [] (.op 1 [] (.op 2 [] (.op 3 [] (.op 4 [] .nil)))))) (.reg (.op 0 [] (.op 1 [] (.op 2 [] (.op 3 [] (.op 4 [] (.op 5 [] (.op 6 [] (.op 7 [] .nil)))))))))))))))) (.seq (.reg (.op 0 [] (.op 1 [] .nil))) (.seq (.reg (.op 0 [] .nil)) .leaf))))))
/-- (*lighter/disk.Disk).Sync -/
def disk_Disk_Sync.res (d0 : Value) (H0 : Heap) (R : Value → Heap → Prop) : Prop :=
 CallsH Try.prog 24 #[d0, (.int .i64 0)] H0 fun x7 H_1 =>
 pNe 0 x7 (.int .i64 0) fun x9 =>
 pCond x9
 (R x7 H_1)
 (CallsH Try.prog 27 #[d0] H_1 fun x12 H_2 =>
 pCond x12
 (R (.int .i64 14) H_2)
 (pNil d0 fun x14 =>
 pFieldAddr 1 x14 fun x15 =>
 pLoad H_2 x15 fun x16 =>
 pSem H_2 Try.prog (Instr.range 51 x16) fun x17 H_3 =>
 ∃ (I_4 : Heap → Prop) (m_5 : Heap → Nat), I_4 H_3 ∧
 ∀ _ : Env, ∀ H_6 : Heap, I_4 H_6 →
 pSem H_6 Try.prog (Instr.next x17 false 0) fun x18 H_7 =>
 pExtract 0 x18 fun x19 =>
 pCond x19
 (pSem H_7 Try.prog (Instr.entry x17) fun x20 H_8 =>
 pExtract 0 x20 fun x21 =>
 pExtract 1 x20 fun x22 =>
 pNil d0 fun x24 =>
 pFieldAddr 0 x24 fun x25 =>
 pLoad H_8 x25 fun x26 =>
 pIdxSl 1 x26 x21 fun x29 =>
 pStore H_8 x29 x22 fun _ H_9 =>
 I_4 H_9 ∧ m_5 H_9 < m_5 H_6)
 (CallsH Try.prog 34 #[d0] H_7 fun x31 H_10 =>
 R (.int .i64 0) H_10)))
set_option maxRecDepth 100000 in
theorem disk_Disk_Sync.vc (d0 : Value) (H0 : Heap) (R : Value → Heap → Prop) (h : disk_Disk_Sync.res d0 H0 R) : CallsH Try.prog 45 #[d0] H0 R := by
  have e : vcFn Try.prog Try.C Try.f45 disk_Disk_Sync.an [d0] H0 R = disk_Disk_Sync.res d0 H0 R := by kernel_rfl
  exact vcFn_sound Try.callable Try.mixed Try.func45 (by kernel_rfl) (e.mpr h)

end Go.Proofs.Ytaopejkbnohiiaa
