/- The residuals of package keep's functions, printed by resid.py. -/
import Derived.Test.YtdaolhlfngfmgaaVcSeat
namespace Go.Proofs.Ytdaolhlfngfmgaa
open Go Go.Vc Go.Proofs
set_option linter.unusedVariables false
set_option maxHeartbeats 4000000
def keep_Open.an : Ann := (.seq (.reg (.op 0 [] (.op 1 [] .nil))) (.seq (.block (.seq (.reg (.op 0 [] (.op 1 [] (.op 2 [] .nil)))) (.cond (.seq (.reg (.op 0 [] (.op 1 [] .nil))) .leaf) (.seq (.reg (.op 0 [] (.op 1 [] (.op 2 [] (.op 3 [] .nil))))) (.cond (.seq (.reg (.op 0 [] (.op 1 [] .nil))) .leaf) .leaf))))) (.seq (.reg (.op 0 [] (.op 1 [] (.op 2 [] (.op 3 [] (.op 4 [] (.op 5 [] (.op 6 [] .nil)))))))) (.seq (.seq (.reg (.op 0 [] (.op 1 [] .nil))) (.cond (.seq (.reg (.op 0 [] (.op 1 [] (.op 2 [] .nil)))) .leaf) .leaf)) (.seq (.reg (.op 0 [] (.op 1 [] (.op 2 [] (.op 3 [] (.op 4 [] .nil)))))) (.cut [] [2, 3, 7, 8, 9, 10, 31, 32, 33, 34, 35, 36, 37, 38, 39, 40, 41, 42, 43, 44, 45, 46, 47, 48] (.seq (.reg (.op 0 [] (.op 1 [] (.op 2 [] (.op 3 [] (.op 4 [] (.op 5 [] (.op 6 [] .nil)))))))) (.seq (.reg (.op 0 [] (.op 1 [] .nil))) (.cond (.seq (.reg (.op 0 [] (.op 1 [] (.op 2 [] (.op 3 [] (.op 4 [] (.op 5 [] (.op 6 [] (.op 7 [] .nil))))))))) (.seq (.seq (.reg (.op 0 [] (.op 1 [] .nil))) (.cond (.seq (.reg (.op 0 [] (.op 1 [] .nil))) .leaf) .leaf)) (.reg (.op 0 [] (.op 1 [] (.op 2 [] (.op 3 [] (.op 4 [] .nil)))))))) .leaf))) (.seq (.seq (.drw [0, 0, 0, 4, 12, 0, 32, 96, 224, 480, 1022, 2046, 4094, 4094, 8191, 24575, 57343, 131071] (.op 0 [] (.op 1 [] (.op 2 [] (.op 5 [] (.op 6 [] (.op 7 [] (.op 8 [] (.op 9 [] (.op 3 [9] (.op 4 [] (.op 10 [] (.op 11 [] (.op 12 [] (.op 13 [] (.op 14 [] (.op 15 [] (.op 16 [] (.op 17 [] .nil))))))))))))))))))) (.seq (.reg (.op 0 [] (.op 1 [] .nil))) (.cond (.seq (.reg (.op 0 [] (.op 1 [] .nil))) .leaf) .leaf))) (.seq (.drw [0, 1, 3, 7, 0, 16, 48, 112, 240, 511, 1023, 2047, 2047, 4095, 16383] (.op 0 [] (.op 1 [] (.op 2 [] (.op 3 [] (.op 4 [] (.op 5 [] (.op 6 [] (.op 7 [] (.op 8 [] (.op 9 [] (.op 10 [] (.op 11 [] (.op 12 [] (.op 13 [] (.op 14 [] .nil)))))))))))))))) (.seq (.block (.seq (.reg (.op 0 [] (.op 1 [] (.op 2 [] .nil)))) (.cond (.seq (.reg (.op 0 [] (.op 1 [] (.op 2 [] .nil)))) .leaf) (.seq (.drw [0, 1, 3, 7, 0, 31, 0, 64, 192, 448, 960, 2047, 4095] (.op 0 [] (.op 1 [] (.op 2 [] (.op 3 [] (.op 4 [] (.op 6 [] (.op 7 [] (.op 8 [] (.op 9 [] (.op 10 [] (.op 5 [10] (.op 11 [] (.op 12 [] .nil)))))))))))))) (.cond (.seq (.reg (.op 0 [] (.op 1 [] .nil))) .leaf) .leaf))))) (.seq (.reg (.op 0 [] (.op 1 [] (.op 2 [] .nil)))) .leaf))))))))))
/-- lighter/keep.Open -/
def keep_Open.res (d0 : Value) (H0 : Heap) (R : Value → Heap → Prop) : Prop :=
 pEq 3 d0 (.pointer none) fun x14 =>
 pCond x14
 (R (.tuple #[(.pointer none), (.int .i64 1)]) H0)
 (CallsH Try.prog 19 #[d0] H0 fun x17 H_1 =>
 pLt x17 (.int .i64 9) fun x18 =>
 pCond x18
 (R (.tuple #[(.pointer none), (.int .i64 20)]) H_1)
 (CallsH Try.prog 20 #[d0, (.int .i64 0), (.int .i64 8)] H_1 fun x21 H_2 =>
 pExtract 0 x21 fun x22 =>
 pExtract 1 x21 fun x23 =>
 pNe 0 x23 (.int .i64 0) fun x25 =>
 pCond x25
 (R (.tuple #[(.pointer none), x23]) H_2)
 (CallsH Try.prog 21 #[] H_2 fun x28 H_3 =>
 pBuild [(.pointer none), (.pointer none), (.pointer none), (.int .u32 0), (.int .u32 0), (.int .i64 0), (.int .u32 0), (.bool false), (.bool false)] [(0, 1, x22), (2, 1, x28)] fun x29 =>
 pBox H_3 60 x29 fun x30 H_4 =>
 ∃ J_5 : Heap → Prop, (∀ _ : Env, ∀ H_6 : Heap, J_5 H_6 →
 pNil x30 fun x56 =>
 pFieldAddr 3 x56 fun x57 =>
 pFieldAddr 2 x57 fun x58 =>
 pLoad H_6 x58 fun x59 =>
 CallsH Try.prog 19 #[d0] H_6 fun x53 H_7 =>
 (pLoad H_7 x58 fun r_ =>
 r_ = x59) ∧
 pSub x53 (.int .i64 8) fun x54 =>
 CallsH Try.prog 24 #[d0, (.int .i64 8), x54, x59] H_7 fun x60 H_8 =>
 pExtract 0 x60 fun x61 =>
 pExtract 1 x60 fun x62 =>
 pNil x30 fun x63 =>
 pFieldAddr 1 x63 fun x64 =>
 pStore H_8 x64 x61 fun _ H_9 =>
 pNe 0 x62 (.int .i64 0) fun x66 =>
 pCond x66
 (R (.tuple #[(.pointer none), (.int .i64 3)]) H_9)
 (pNil x30 fun x69 =>
 pFieldAddr 1 x69 fun x70 =>
 pLoad H_9 x70 fun x71 =>
 pNil x30 fun x73 =>
 pFieldAddr 3 x73 fun x74 =>
 pFieldAddr 2 x74 fun x75 =>
 pLoad H_9 x75 fun x76 =>
 CallsH Try.prog 25 #[x71, (.int .i64 0), x76] H_9 fun x77 H_10 =>
 pExtract 0 x77 fun x78 =>
 pExtract 1 x77 fun x79 =>
 pNe 0 x79 (.int .i64 0) fun x82 =>
 pCond x82
 (R (.tuple #[(.pointer none), x79]) H_10)
 (pNil x30 fun x86 =>
 pFieldAddr 2 x86 fun x87 =>
 pLoad H_10 x87 fun x88 =>
 pNil x30 fun x92 =>
 pFieldAddr 3 x92 fun x93 =>
 pFieldAddr 3 x93 fun x94 =>
 pLoad H_10 x94 fun x95 =>
 CallsH Try.prog 26 #[x88, x78] H_10 fun x90 H_11 =>
 (pLoad H_11 x94 fun r_ =>
 r_ = x95) ∧
 pNe 0 x90 x95 fun x96 =>
 pCond x96
 (R (.tuple #[(.pointer none), (.int .i64 7)]) H_11)
 (R (.tuple #[x30, (.int .i64 0)]) H_11)))) ∧
 CallsH Try.prog 22 #[x22] H_4 fun x33 H_12 =>
 pExtract 0 x33 fun x34 =>
 pExtract 1 x33 fun x35 =>
 pGt x35 (.int .u64 0) fun x37 =>
 pCond x37
 (CallsH Try.prog 23 #[x34] H_12 fun x40 H_13 =>
 pExtract 0 x40 fun x41 =>
 pExtract 1 x40 fun x42 =>
 pBox H_13 40 (.agg #[(.int .u32 0), (.int .u32 0), (.int .i64 0), (.int .u32 0), (.bool false)]) fun s9 H_14 =>
 pStoreN H_14 5 s9 x41 fun _ H_15 =>
 pNot x42 fun x44 =>
 pCond x44
 (R (.tuple #[(.pointer none), (.int .i64 3)]) H_15)
 (pLoadN H_15 5 s9 fun x46 =>
 pNil x30 fun x47 =>
 pFieldAddr 3 x47 fun x48 =>
 pStoreN H_15 5 x48 x46 fun _ H_16 =>
 J_5 H_16))
 (J_5 H_12))))
set_option maxRecDepth 100000 in
theorem keep_Open.vc (d0 : Value) (H0 : Heap) (R : Value → Heap → Prop) (h : keep_Open.res d0 H0 R) : CallsH Try.prog 8 #[d0] H0 R := by
  have e : vcFn Try.prog Try.C Try.f8 keep_Open.an [d0] H0 R = keep_Open.res d0 H0 R := by kernel_rfl
  exact vcFn_sound Try.callable Try.mixed Try.func8 (by kernel_rfl) (e.mpr h)

def keep_Keep_Append.an : Ann := (.seq (.reg (.op 0 [] .nil)) (.seq (.seq (.reg (.op 0 [] (.op 1 [] (.op 2 [] .nil)))) (.seq (.reg (.op 0 [] (.op 1 [] .nil))) (.cond (.seq (.reg (.op 0 [] (.op 1 [] .nil))) .leaf) .leaf))) (.seq (.seq (.reg (.op 0 [] (.op 1 [] (.op 2 [] (.op 3 [] (.op 4 [] .nil)))))) (.cond (.seq (.reg (.op 0 [] .nil)) .leaf) .leaf)) (.seq (.seq (.reg (.op 0 [] (.op 1 [] (.op 2 [] (.op 3 [] (.op 4 [] (.op 5 [] (.op 6 [] .nil)))))))) (.seq (.reg (.op 0 [] (.op 1 [] .nil))) (.cond (.seq (.reg (.op 0 [] (.op 1 [] (.op 2 [] (.op 3 [] .nil))))) .leaf) .leaf))) (.seq (.seq (.reg (.op 0 [] (.op 1 [] (.op 2 [] (.op 3 [] (.op 4 [] (.op 5 [] .nil))))))) (.seq (.reg (.op 0 [] (.op 1 [] .nil))) (.cond (.seq (.reg (.op 0 [] (.op 1 [] (.op 2 [] (.op 3 [] .nil))))) .leaf) .leaf))) (.seq (.reg (.op 0 [] (.op 1 [] (.op 2 [] (.op 3 [] (.op 4 [] (.op 5 [] .nil))))))) (.seq (.drw [0, 1, 0, 4, 15, 0, 32, 96, 224, 0, 512, 0, 4064, 1567, 16383, 32767, 65535] (.op 0 [] (.op 1 [] (.op 2 [] (.op 3 [] (.op 4 [] (.op 5 [] (.op 6 [] (.op 7 [] (.op 8 [] (.op 9 [] (.op 10 [] (.op 11 [] (.op 13 [] (.op 12 [1] (.op 14 [] (.op 15 [] (.op 16 [] .nil)))))))))))))))))) (.seq (.reg (.op 0 [] (.op 1 [] (.op 2 [] (.op 3 [] .nil))))) .leaf))))))))
/-- (*lighter/keep.Keep).Append -/
def keep_Keep_Append.res (k0 : Value) (s1 : Value) (H0 : Heap) (R : Value → Heap → Prop) : Prop :=
 CallsH Try.prog 27 #[k0, (.bool false)] H0 fun x10 H_1 =>
 pNe 0 x10 (.int .i64 0) fun x12 =>
 pCond x12
 (R x10 H_1)
 (pLenS s1 fun x15 =>
 CallsH Try.prog 17 #[k0] H_1 fun x17 H_2 =>
 pGt x15 x17 fun x18 =>
 pCond x18
 (R (.int .i64 15) H_2)
 (pNil k0 fun x20 =>
 pFieldAddr 1 x20 fun x21 =>
 pLoad H_2 x21 fun x22 =>
 CallsH Try.prog 28 #[x22, s1] H_2 fun x24 H_3 =>
 pNe 0 x24 (.int .i64 0) fun x26 =>
 pCond x26
 (CallsH Try.prog 29 #[k0, x24] H_3 fun x29 H_4 =>
 R x29 H_4)
 (pNil k0 fun x31 =>
 pFieldAddr 1 x31 fun x32 =>
 pLoad H_3 x32 fun x33 =>
 CallsH Try.prog 30 #[x33] H_3 fun x34 H_5 =>
 pNe 0 x34 (.int .i64 0) fun x36 =>
 pCond x36
 (CallsH Try.prog 29 #[k0, x34] H_5 fun x39 H_6 =>
 R x39 H_6)
 (pNil k0 fun x41 =>
 pFieldAddr 3 x41 fun x42 =>
 pLoadN H_5 5 x42 fun x43 =>
 pBox H_5 40 (.agg #[(.int .u32 0), (.int .u32 0), (.int .i64 0), (.int .u32 0), (.bool false)]) fun n8 H_7 =>
 pStoreN H_7 5 n8 x43 fun _ H_8 =>
 pFieldAddr 2 n8 fun x44 =>
 pLoad H_8 x44 fun x45 =>
 pLenS s1 fun x47 =>
 pAdd x45 x47 fun x48 =>
 pNil k0 fun x50 =>
 pFieldAddr 2 x50 fun x51 =>
 pLoad H_8 x51 fun x52 =>
 pFieldAddr 3 n8 fun x53 =>
 pLoad H_8 x53 fun x54 =>
 pFieldAddr 2 n8 fun x57 =>
 CallsH Try.prog 31 #[x52, x54, s1] H_8 fun x56 H_9 =>
 (pLoad H_9 x44 fun r_ =>
 r_ = x45) ∧
 pStore H_9 x57 x48 fun _ H_10 =>
 pFieldAddr 3 n8 fun x58 =>
 pStore H_10 x58 x56 fun _ H_11 =>
 pLoadN H_11 5 n8 fun x60 =>
 CallsH Try.prog 32 #[k0, x60] H_11 fun x61 H_12 =>
 R x61 H_12))))
set_option maxRecDepth 100000 in
theorem keep_Keep_Append.vc (k0 : Value) (s1 : Value) (H0 : Heap) (R : Value → Heap → Prop) (h : keep_Keep_Append.res k0 s1 H0 R) : CallsH Try.prog 9 #[k0, s1] H0 R := by
  have e : vcFn Try.prog Try.C Try.f9 keep_Keep_Append.an [k0, s1] H0 R = keep_Keep_Append.res k0 s1 H0 R := by kernel_rfl
  exact vcFn_sound Try.callable Try.mixed Try.func9 (by kernel_rfl) (e.mpr h)

def keep_Keep_Start.an : Ann := (.seq (.reg (.op 0 [] .nil)) (.seq (.reg (.op 0 [] (.op 1 [] (.op 2 [] .nil)))) .leaf))
/-- (*lighter/keep.Keep).Start -/
def keep_Keep_Start.res (k0 : Value) (H0 : Heap) (R : Value → Heap → Prop) : Prop :=
 CallsH Try.prog 37 #[k0, (.bool true), (.func (.func 38) #[] #[])] H0 fun x4 H_1 =>
 R x4 H_1
set_option maxRecDepth 100000 in
theorem keep_Keep_Start.vc (k0 : Value) (H0 : Heap) (R : Value → Heap → Prop) (h : keep_Keep_Start.res k0 H0 R) : CallsH Try.prog 12 #[k0] H0 R := by
  have e : vcFn Try.prog Try.C Try.f12 keep_Keep_Start.an [k0] H0 R = keep_Keep_Start.res k0 H0 R := by kernel_rfl
  exact vcFn_sound Try.callable Try.mixed Try.func12 (by kernel_rfl) (e.mpr h)

def keep_Keep_State.an : Ann := (.seq (.reg (.op 0 [] .nil)) (.seq (.seq (.reg (.op 0 [] (.op 1 [] .nil))) (.cond (.seq (.reg (.op 0 [] (.op 1 [] .nil))) .leaf) .leaf)) (.seq (.reg (.op 0 [] (.op 1 [] (.op 2 [] (.op 3 [] (.op 4 [] .nil)))))) .leaf)))
/-- (*lighter/keep.Keep).State -/
def keep_Keep_State.res (k0 : Value) (H0 : Heap) (R : Value → Heap → Prop) : Prop :=
 pBox H0 40 (.agg #[(.int .u32 0), (.int .u32 0), (.int .i64 0), (.int .u32 0), (.bool false)]) fun x2 H_1 =>
 pEq 3 k0 (.pointer none) fun x4 =>
 pCond x4
 (pBuild [(.int .u32 0), (.int .u32 0), (.int .i64 0), (.int .u32 0), (.bool false)] [] fun x5 =>
 pStoreN H_1 5 x2 x5 fun _ H_2 =>
 pLoadN H_2 5 x2 fun r_3 =>
 R r_3 H_2)
 (pNil k0 fun x7 =>
 pFieldAddr 3 x7 fun x8 =>
 pLoadN H_1 5 x8 fun x9 =>
 pStoreN H_1 5 x2 x9 fun _ H_4 =>
 pLoadN H_4 5 x2 fun r_5 =>
 R r_5 H_4)
set_option maxRecDepth 100000 in
theorem keep_Keep_State.vc (k0 : Value) (H0 : Heap) (R : Value → Heap → Prop) (h : keep_Keep_State.res k0 H0 R) : CallsH Try.prog 13 #[k0] H0 R := by
  have e : vcFn Try.prog Try.C Try.f13 keep_Keep_State.an [k0] H0 R = keep_Keep_State.res k0 H0 R := by kernel_rfl
  exact vcFn_sound Try.callable Try.mixed Try.func13 (by kernel_rfl) (e.mpr h)

def keep_Keep_Begin.an : Ann := (.seq (.reg (.op 0 [] (.op 1 [] .nil))) (.seq (.reg (.op 0 [] (.op 1 [] (.op 2 [] (.op 3 [] .nil))))) (.seq (.seq (.reg (.op 0 [] (.op 1 [] .nil))) (.cond (.seq (.reg (.op 0 [] (.op 1 [] .nil))) .leaf) .leaf)) (.seq (.reg (.op 0 [] (.op 1 [] (.op 2 [] (.op 3 [] (.op 4 [] (.op 5 [] .nil))))))) .leaf))))
/-- (*lighter/keep.Keep).Begin -/
def keep_Keep_Begin.res (k0 : Value) (session1 : Value) (H0 : Heap) (R : Value → Heap → Prop) : Prop :=
 pBox H0 38 session1 fun session3 H_1 =>
 CallsH Try.prog 37 #[k0, (.bool false), (.func (.func 39) #[] #[session3])] H_1 fun x8 H_2 =>
 pNe 0 x8 (.int .i64 0) fun x10 =>
 pCond x10
 (R x8 H_2)
 (pNil k0 fun x13 =>
 pFieldAddr 1 x13 fun x14 =>
 pLoad H_2 x14 fun x15 =>
 CallsH Try.prog 40 #[x15, (.int .i64 0)] H_2 fun x16 H_3 =>
 R x16 H_3)
set_option maxRecDepth 100000 in
theorem keep_Keep_Begin.vc (k0 : Value) (session1 : Value) (H0 : Heap) (R : Value → Heap → Prop) (h : keep_Keep_Begin.res k0 session1 H0 R) : CallsH Try.prog 14 #[k0, session1] H0 R := by
  have e : vcFn Try.prog Try.C Try.f14 keep_Keep_Begin.an [k0, session1] H0 R = keep_Keep_Begin.res k0 session1 H0 R := by kernel_rfl
  exact vcFn_sound Try.callable Try.mixed Try.func14 (by kernel_rfl) (e.mpr h)

def keep_Keep_Read.an : Ann := (.seq (.reg (.op 0 [] (.op 1 [] .nil))) (.seq (.seq (.reg (.op 0 [] (.op 1 [] .nil))) (.cond (.seq (.reg (.op 0 [] (.op 1 [] .nil))) .leaf) .leaf)) (.seq (.reg (.op 0 [] (.op 1 [] (.op 2 [] (.op 3 [] (.op 4 [] (.op 5 [] (.op 6 [] (.op 7 [] (.op 8 [] (.op 9 [] (.op 10 [] .nil)))))))))))) .leaf)))
/-- (*lighter/keep.Keep).Read -/
def keep_Keep_Read.res (k0 : Value) (at1 : Value) (n2 : Value) (H0 : Heap) (R : Value → Heap → Prop) : Prop :=
 pEq 3 k0 (.pointer none) fun x9 =>
 pCond x9
 (R (.tuple #[(str []), (.int .i64 1)]) H0)
 (pNil k0 fun x11 =>
 pFieldAddr 1 x11 fun x12 =>
 pLoad H0 x12 fun x13 =>
 CallsH Try.prog 25 #[x13, at1, n2] H0 fun x16 H_1 =>
 pExtract 0 x16 fun x17 =>
 pExtract 1 x16 fun x18 =>
 R (.tuple #[x17, x18]) H_1)
set_option maxRecDepth 100000 in
theorem keep_Keep_Read.vc (k0 : Value) (at1 : Value) (n2 : Value) (H0 : Heap) (R : Value → Heap → Prop) (h : keep_Keep_Read.res k0 at1 n2 H0 R) : CallsH Try.prog 15 #[k0, at1, n2] H0 R := by
  have e : vcFn Try.prog Try.C Try.f15 keep_Keep_Read.an [k0, at1, n2] H0 R = keep_Keep_Read.res k0 at1 n2 H0 R := by kernel_rfl
  exact vcFn_sound Try.callable Try.mixed Try.func15 (by kernel_rfl) (e.mpr h)

def keep_Keep_Commit.an : Ann := (.seq (.reg (.op 0 [] .nil)) (.seq (.reg (.op 0 [] (.op 1 [] (.op 2 [] .nil)))) .leaf))
/-- (*lighter/keep.Keep).Commit -/
def keep_Keep_Commit.res (k0 : Value) (H0 : Heap) (R : Value → Heap → Prop) : Prop :=
 CallsH Try.prog 37 #[k0, (.bool false), (.func (.func 41) #[] #[])] H0 fun x4 H_1 =>
 R x4 H_1
set_option maxRecDepth 100000 in
theorem keep_Keep_Commit.vc (k0 : Value) (H0 : Heap) (R : Value → Heap → Prop) (h : keep_Keep_Commit.res k0 H0 R) : CallsH Try.prog 16 #[k0] H0 R := by
  have e : vcFn Try.prog Try.C Try.f16 keep_Keep_Commit.an [k0] H0 R = keep_Keep_Commit.res k0 H0 R := by kernel_rfl
  exact vcFn_sound Try.callable Try.mixed Try.func16 (by kernel_rfl) (e.mpr h)

def keep_Keep_Room.an : Ann := (.seq (.reg (.op 0 [] .nil)) (.seq (.seq (.reg (.op 0 [] (.op 1 [] (.op 2 [] (.grp 2 (.op 3 [] (.op 4 [] (.op 5 [] (.op 6 [] (.op 7 [] .nil))))) 8 .nil))))) (.cond (.seq (.reg (.op 0 [] .nil)) .leaf) .leaf)) (.seq (.reg (.op 0 [] (.op 1 [] (.op 2 [] (.op 3 [] (.op 4 [] (.op 5 [] .nil))))))) .leaf)))
/-- (*lighter/keep.Keep).Room -/
def keep_Keep_Room.res (k0 : Value) (H0 : Heap) (R : Value → Heap → Prop) : Prop :=
 pEq 3 k0 (.pointer none) fun x4 =>
 pOr x4 (fun J_1 =>
 pNil k0 fun x7 =>
 pFieldAddr 3 x7 fun x8 =>
 pFieldAddr 4 x8 fun x9 =>
 pLoad H0 x9 fun x10 =>
 J_1 x10 H0) H0 fun x11 H_2 => ∀ _ : Env,
 pCond x11
 (R (.int .i64 0) H_2)
 (pNil k0 fun x13 =>
 pFieldAddr 1 x13 fun x14 =>
 pLoad H_2 x14 fun x15 =>
 CallsH Try.prog 42 #[x15] H_2 fun x16 H_3 =>
 R x16 H_3)
set_option maxRecDepth 100000 in
theorem keep_Keep_Room.vc (k0 : Value) (H0 : Heap) (R : Value → Heap → Prop) (h : keep_Keep_Room.res k0 H0 R) : CallsH Try.prog 17 #[k0] H0 R := by
  have e : vcFn Try.prog Try.C Try.f17 keep_Keep_Room.an [k0] H0 R = keep_Keep_Room.res k0 H0 R := by kernel_rfl
  exact vcFn_sound Try.callable Try.mixed Try.func17 (by kernel_rfl) (e.mpr h)

def keep_parse.an : Ann := (.seq (.reg (.op 0 [] (.op 1 [] .nil))) (.seq (.seq (.reg (.op 0 [] (.op 1 [] (.op 2 [] .nil)))) (.cond (.seq (.reg (.op 0 [] (.op 1 [] (.op 2 [] .nil)))) .leaf) .leaf)) (.seq (.reg (.op 0 [] (.op 1 [] (.op 2 [] (.op 3 [] .nil))))) (.cut [5] [5, 13, 14, 15, 16, 17, 18, 19, 20, 21, 22, 23, 24, 25, 26, 27, 28, 29, 30, 31] (.drw [0, 1, 3, 7, 0, 16, 55, 119, 0, 256, 768, 0, 2048, 6263, 14455, 0, 32768, 98304, 262143, 0, 1048575] (.op 0 [] (.op 1 [] (.op 4 [] (.op 5 [] (.op 8 [] (.op 9 [] (.op 10 [] (.op 11 [] (.op 12 [] (.op 15 [] (.op 16 [] (.op 17 [] (.fork (.op 2 [] (.op 3 [] (.fork (.op 6 [] (.op 7 [] (.fork (.op 13 [] (.op 14 [] (.op 18 [] (.op 19 [] (.op 20 [] .nil))))) (.op 19 [] (.op 13 [] (.op 14 [] (.op 18 [] (.op 20 [] .nil)))))))) (.op 19 [] (.op 6 [] (.op 7 [] (.op 13 [] (.op 14 [] (.op 18 [] (.op 20 [] .nil)))))))))) (.op 19 [] (.op 2 [] (.op 3 [] (.op 6 [] (.op 7 [] (.op 13 [] (.op 14 [] (.op 18 [] (.op 20 [] .nil))))))))))))))))))))))) (.seq (.drw [0, 0, 2, 0, 14, 7, 63] (.op 0 [] (.op 1 [] (.op 3 [] (.op 2 [0] (.op 4 [] (.op 5 [] (.op 6 [] .nil)))))))) .leaf)))))
/-- lighter/keep.parse -/
def keep_parse.res (b0 : Value) (H0 : Heap) (R : Value → Heap → Prop) : Prop :=
 pBox H0 40 (.agg #[(.int .u32 0), (.int .u32 0), (.int .i64 0), (.int .u32 0), (.bool false)]) fun x2 H_1 =>
 pLenS b0 fun x7 =>
 pNe 0 x7 (.int .i64 21) fun x8 =>
 pCond x8
 (pBuild [(.int .u32 0), (.int .u32 0), (.int .i64 0), (.int .u32 0), (.bool false)] [] fun x9 =>
 pStoreN H_1 5 x2 x9 fun _ H_2 =>
 pLoadN H_2 5 x2 fun r_3 =>
 R (.tuple #[r_3, (.bool false)]) H_2)
 (pSlStr b0 (some (.int .i64 8)) (some (.int .i64 16)) fun x11 =>
 CallsH Try.prog 50 #[x11] H_1 fun x12 H_4 =>
 ∃ J_5 : Value → Heap → Prop, (∀ _ : Env, ∀ s5 : Value, ∀ H_6 : Heap, J_5 s5 H_6 →
 pLoadN H_6 5 s5 fun x32 =>
 pLoadN H_6 5 s5 fun x33 =>
 CallsH Try.prog 51 #[x33] H_6 fun x34 H_7 =>
 (pLoadN H_7 5 s5 fun r_ =>
 r_ = x32) ∧
 pEq 1 x34 b0 fun x36 =>
 pStoreN H_7 5 x2 x32 fun _ H_8 =>
 pLoadN H_8 5 x2 fun r_9 =>
 R (.tuple #[r_9, x36]) H_8) ∧
 pSlStr b0 none (some (.int .i64 4)) fun x14 =>
 pSlStr b0 (some (.int .i64 4)) (some (.int .i64 8)) fun x18 =>
 pMin x12 (.int .u64 4194304) fun x22 =>
 pConv .i64 x22 fun x23 =>
 pSlStr b0 (some (.int .i64 16)) (some (.int .i64 20)) fun x25 =>
 pIdxStr b0 (.int .i64 20) fun x29 =>
 pEq 0 x29 (.int .u8 1) fun x30 =>
 (CallsH Try.prog 50 #[x14] H_4 fun x15 H_10 =>
 pConv .u32 x15 fun x16 =>
 (CallsH Try.prog 50 #[x18] H_10 fun x19 H_11 =>
 pConv .u32 x19 fun x20 =>
 (CallsH Try.prog 50 #[x25] H_11 fun x26 H_12 =>
 pConv .u32 x26 fun x27 =>
 pBuild [(.int .u32 0), (.int .u32 0), (.int .i64 0), (.int .u32 0), (.bool false)] [(0, 1, x16), (1, 1, x20), (2, 1, x23), (3, 1, x27), (4, 1, x30)] fun x31 =>
 pBox H_12 40 (.agg #[(.int .u32 0), (.int .u32 0), (.int .i64 0), (.int .u32 0), (.bool false)]) fun s5 H_13 =>
 pStoreN H_13 5 s5 x31 fun _ H_14 =>
 J_5 s5 H_14) ∧
 (pBox H_11 40 (.agg #[(.int .u32 0), (.int .u32 0), (.int .i64 0), (.int .u32 0), (.bool false)]) fun s5 H_15 =>
 CallsH Try.prog 50 #[x25] H_15 fun x26 H_16 =>
 pConv .u32 x26 fun x27 =>
 pBuild [(.int .u32 0), (.int .u32 0), (.int .i64 0), (.int .u32 0), (.bool false)] [(0, 1, x16), (1, 1, x20), (2, 1, x23), (3, 1, x27), (4, 1, x30)] fun x31 =>
 pStoreN H_16 5 s5 x31 fun _ H_17 =>
 J_5 s5 H_17)) ∧
 (pBox H_10 40 (.agg #[(.int .u32 0), (.int .u32 0), (.int .i64 0), (.int .u32 0), (.bool false)]) fun s5 H_18 =>
 CallsH Try.prog 50 #[x18] H_18 fun x19 H_19 =>
 pConv .u32 x19 fun x20 =>
 CallsH Try.prog 50 #[x25] H_19 fun x26 H_20 =>
 pConv .u32 x26 fun x27 =>
 pBuild [(.int .u32 0), (.int .u32 0), (.int .i64 0), (.int .u32 0), (.bool false)] [(0, 1, x16), (1, 1, x20), (2, 1, x23), (3, 1, x27), (4, 1, x30)] fun x31 =>
 pStoreN H_20 5 s5 x31 fun _ H_21 =>
 J_5 s5 H_21)) ∧
 (pBox H_4 40 (.agg #[(.int .u32 0), (.int .u32 0), (.int .i64 0), (.int .u32 0), (.bool false)]) fun s5 H_22 =>
 CallsH Try.prog 50 #[x14] H_22 fun x15 H_23 =>
 pConv .u32 x15 fun x16 =>
 CallsH Try.prog 50 #[x18] H_23 fun x19 H_24 =>
 pConv .u32 x19 fun x20 =>
 CallsH Try.prog 50 #[x25] H_24 fun x26 H_25 =>
 pConv .u32 x26 fun x27 =>
 pBuild [(.int .u32 0), (.int .u32 0), (.int .i64 0), (.int .u32 0), (.bool false)] [(0, 1, x16), (1, 1, x20), (2, 1, x23), (3, 1, x27), (4, 1, x30)] fun x31 =>
 pStoreN H_25 5 s5 x31 fun _ H_26 =>
 J_5 s5 H_26))
set_option maxRecDepth 100000 in
theorem keep_parse.vc (b0 : Value) (H0 : Heap) (R : Value → Heap → Prop) (h : keep_parse.res b0 H0 R) : CallsH Try.prog 23 #[b0] H0 R := by
  have e : vcFn Try.prog Try.C Try.f23 keep_parse.an [b0] H0 R = keep_parse.res b0 H0 R := by kernel_rfl
  exact vcFn_sound Try.callable Try.mixed Try.func23 (by kernel_rfl) (e.mpr h)

def keep_Keep_ready.an : Ann := (.seq (.reg (.op 0 [] .nil)) (.seq (.block (.seq (.reg (.op 0 [] (.op 1 [] (.op 2 [] .nil)))) (.cond (.seq (.reg (.op 0 [] .nil)) .leaf) (.seq (.reg (.op 0 [] (.op 1 [] (.op 2 [] (.op 3 [] (.op 4 [] (.grp 4 (.op 5 [] (.op 6 [] (.op 7 [] (.grp 7 (.op 8 [] (.op 9 [] (.op 10 [] (.op 11 [] (.op 12 [] .nil))))) 13 .nil)))) 14 (.op 15 [] .nil)))))))) (.cond (.seq (.reg (.op 0 [] .nil)) .leaf) .leaf))))) (.seq (.reg (.op 0 [] .nil)) .leaf)))
/-- (*lighter/keep.Keep).ready -/
def keep_Keep_ready.res (k0 : Value) (done1 : Value) (H0 : Heap) (R : Value → Heap → Prop) : Prop :=
 pEq 3 k0 (.pointer none) fun x7 =>
 pCond x7
 (R (.int .i64 1) H0)
 (pNil k0 fun x10 =>
 pFieldAddr 8 x10 fun x11 =>
 pLoad H0 x11 fun x12 =>
 pOr x12 (fun J_1 =>
 pNot done1 fun x15 =>
 pAnd x15 (fun J_3 =>
 pNil k0 fun x18 =>
 pFieldAddr 3 x18 fun x19 =>
 pFieldAddr 4 x19 fun x20 =>
 pLoad H0 x20 fun x21 =>
 J_3 x21 H0) H0 fun x22 H_4 => ∀ _ : Env,
 J_1 x22 H_4) H0 fun x23 H_2 => ∀ _ : Env,
 pCond x23
 (R (.int .i64 16) H_2)
 (R (.int .i64 0) H_2))
set_option maxRecDepth 100000 in
theorem keep_Keep_ready.vc (k0 : Value) (done1 : Value) (H0 : Heap) (R : Value → Heap → Prop) (h : keep_Keep_ready.res k0 done1 H0 R) : CallsH Try.prog 27 #[k0, done1] H0 R := by
  have e : vcFn Try.prog Try.C Try.f27 keep_Keep_ready.an [k0, done1] H0 R = keep_Keep_ready.res k0 done1 H0 R := by kernel_rfl
  exact vcFn_sound Try.callable Try.mixed Try.func27 (by kernel_rfl) (e.mpr h)

def keep_Keep_done.an : Ann := (.seq (.reg (.op 0 [] .nil)) (.seq (.seq (.reg (.op 0 [] (.op 1 [] .nil))) (.cond (.reg (.op 0 [] (.op 1 [] (.op 2 [] (.op 3 [] .nil))))) .leaf)) (.seq (.reg (.op 0 [] (.op 1 [] .nil))) .leaf)))
/-- (*lighter/keep.Keep).done -/
def keep_Keep_done.res (k0 : Value) (e1 : Value) (H0 : Heap) (R : Value → Heap → Prop) : Prop :=
 pNe 0 e1 (.int .i64 0) fun x6 =>
 pCond x6
 (pNil k0 fun x8 =>
 pFieldAddr 8 x8 fun x9 =>
 pStore H0 x9 (.bool true) fun _ H_1 =>
 R e1 H_1)
 (R e1 H0)
set_option maxRecDepth 100000 in
theorem keep_Keep_done.vc (k0 : Value) (e1 : Value) (H0 : Heap) (R : Value → Heap → Prop) (h : keep_Keep_done.res k0 e1 H0 R) : CallsH Try.prog 29 #[k0, e1] H0 R := by
  have e : vcFn Try.prog Try.C Try.f29 keep_Keep_done.an [k0, e1] H0 R = keep_Keep_done.res k0 e1 H0 R := by kernel_rfl
  exact vcFn_sound Try.callable Try.mixed Try.func29 (by kernel_rfl) (e.mpr h)

def keep_Keep_put.an : Ann := (.seq (.reg (.op 0 [] (.op 1 [] .nil))) (.seq (.drw [0, 1, 3, 7, 0, 16, 63, 127] (.op 0 [] (.op 1 [] (.op 2 [] (.op 3 [] (.op 4 [] (.op 5 [3] (.op 6 [] (.op 7 [] .nil))))))))) (.cut [] [13, 14, 15, 16, 17, 18] (.seq (.reg (.op 0 [] (.op 1 [] .nil))) (.cond (.reg (.op 0 [] (.op 1 [] (.op 2 [] (.op 3 [] (.op 4 [] .nil)))))) .leaf)) (.seq (.reg (.op 0 [] (.op 1 [] (.op 2 [] (.op 3 [] .nil))))) .leaf))))
/-- (*lighter/keep.Keep).put -/
def keep_Keep_put.res (k0 : Value) (s1 : Value) (H0 : Heap) (R : Value → Heap → Prop) : Prop :=
 pBox H0 40 s1 fun s3 H_1 =>
 pNil k0 fun x7 =>
 pFieldAddr 0 x7 fun x8 =>
 pLoad H_1 x8 fun x9 =>
 pLoadN H_1 5 s3 fun x10 =>
 CallsH Try.prog 51 #[x10] H_1 fun x11 H_2 =>
 (pLoad H_2 x8 fun r_ =>
 r_ = x9) ∧
 CallsH Try.prog 54 #[x9, x11] H_2 fun x12 H_3 =>
 ∃ J_4 : Heap → Prop, (∀ _ : Env, ∀ H_5 : Heap, J_4 H_5 →
 CallsH Try.prog 29 #[k0, x12] H_5 fun x21 H_6 =>
 R x21 H_6) ∧
 pEq 0 x12 (.int .i64 0) fun x14 =>
 pCond x14
 (pLoadN H_3 5 s3 fun x16 =>
 pNil k0 fun x17 =>
 pFieldAddr 3 x17 fun x18 =>
 pStoreN H_3 5 x18 x16 fun _ H_7 =>
 J_4 H_7)
 (J_4 H_3)
set_option maxRecDepth 100000 in
theorem keep_Keep_put.vc (k0 : Value) (s1 : Value) (H0 : Heap) (R : Value → Heap → Prop) (h : keep_Keep_put.res k0 s1 H0 R) : CallsH Try.prog 32 #[k0, s1] H0 R := by
  have e : vcFn Try.prog Try.C Try.f32 keep_Keep_put.an [k0, s1] H0 R = keep_Keep_put.res k0 s1 H0 R := by kernel_rfl
  exact vcFn_sound Try.callable Try.mixed Try.func32 (by kernel_rfl) (e.mpr h)

def keep_Keep_change.an : Ann := (.seq (.reg (.op 0 [] .nil)) (.seq (.seq (.reg (.op 0 [] (.op 1 [] (.op 2 [] (.op 3 [] .nil))))) (.seq (.reg (.op 0 [] (.op 1 [] .nil))) (.cond (.seq (.reg (.op 0 [] (.op 1 [] .nil))) .leaf) .leaf))) (.seq (.reg (.op 0 [] (.op 1 [] (.op 2 [] (.op 3 [] (.op 4 [] (.op 5 [] .nil))))))) (.seq (.reg (.op 0 [] (.op 1 [] .nil))) (.seq (.reg (.op 0 [] (.op 1 [] (.op 2 [] (.op 3 [] .nil))))) .leaf)))))
/-- (*lighter/keep.Keep).change -/
def keep_Keep_change.res (k0 : Value) (done1 : Value) (f2 : Value) (H0 : Heap) (R : Value → Heap → Prop) : Prop :=
 CallsH Try.prog 27 #[k0, done1] H0 fun x11 H_1 =>
 pNe 0 x11 (.int .i64 0) fun x13 =>
 pCond x13
 (R x11 H_1)
 (pNil k0 fun x16 =>
 pFieldAddr 3 x16 fun x17 =>
 pLoadN H_1 5 x17 fun x18 =>
 pBox H_1 40 (.agg #[(.int .u32 0), (.int .u32 0), (.int .i64 0), (.int .u32 0), (.bool false)]) fun s8 H_2 =>
 pStoreN H_2 5 s8 x18 fun _ H_3 =>
 callH Try.prog Try.C f2 [s8] H_3 fun x20 H_4 =>
 pLoadN H_4 5 s8 fun x22 =>
 CallsH Try.prog 32 #[k0, x22] H_4 fun x23 H_5 =>
 R x23 H_5)
set_option maxRecDepth 100000 in
theorem keep_Keep_change.vc (k0 : Value) (done1 : Value) (f2 : Value) (H0 : Heap) (R : Value → Heap → Prop) (h : keep_Keep_change.res k0 done1 f2 H0 R) : CallsH Try.prog 37 #[k0, done1, f2] H0 R := by
  have e : vcFn Try.prog Try.C Try.f37 keep_Keep_change.an [k0, done1, f2] H0 R = keep_Keep_change.res k0 done1 f2 H0 R := by kernel_rfl
  exact vcFn_sound Try.callable Try.mixed Try.func37 (by kernel_rfl) (e.mpr h)

def keep_Keep_Start_f1.an : Ann := (.reg (.op 0 [] (.op 1 [] (.op 2 [] (.op 3 [] (.op 4 [] (.op 5 [] (.op 6 [] (.op 7 [] .nil)))))))))
/-- (*lighter/keep.Keep).Start$1 -/
def keep_Keep_Start_f1.res (s0 : Value) (H0 : Heap) (R : Value → Heap → Prop) : Prop :=
 pNil s0 fun x3 =>
 pFieldAddr 1 x3 fun x4 =>
 pLoad H0 x4 fun x5 =>
 pAdd x5 (.int .u32 1) fun x6 =>
 pNil s0 fun x7 =>
 pFieldAddr 1 x7 fun x8 =>
 pStore H0 x8 x6 fun _ H_1 =>
 R (.tuple #[]) H_1
set_option maxRecDepth 100000 in
theorem keep_Keep_Start_f1.vc (s0 : Value) (H0 : Heap) (R : Value → Heap → Prop) (h : keep_Keep_Start_f1.res s0 H0 R) : CallsH Try.prog 38 #[s0] H0 R := by
  have e : vcFn Try.prog Try.C Try.f38 keep_Keep_Start_f1.an [s0] H0 R = keep_Keep_Start_f1.res s0 H0 R := by kernel_rfl
  exact vcFn_sound Try.callable Try.mixed Try.func38 (by kernel_rfl) (e.mpr h)

def keep_Keep_Begin_f1.an : Ann := (.drw [0, 0, 0, 4, 12, 28, 62, 127, 255] (.op 0 [] (.op 1 [] (.op 2 [] (.op 3 [] (.op 4 [] (.op 5 [] (.op 6 [] (.op 7 [] (.op 8 [] .nil))))))))))
/-- (*lighter/keep.Keep).Begin$1 -/
def keep_Keep_Begin_f1.res (s0 : Value) (a1 : Value) (H0 : Heap) (R : Value → Heap → Prop) : Prop :=
 pLoad H0 a1 fun x4 =>
 pNil s0 fun x6 =>
 pFieldAddr 1 x6 fun x7 =>
 pLoad H0 x7 fun x8 =>
 pBuild [(.int .u32 0), (.int .u32 0), (.int .i64 0), (.int .u32 0), (.bool false)] [(0, 1, x4), (1, 1, x8)] fun x9 =>
 pNil s0 fun x10 =>
 pStoreN H0 5 x10 x9 fun _ H_1 =>
 R (.tuple #[]) H_1
set_option maxRecDepth 100000 in
theorem keep_Keep_Begin_f1.vc (s0 : Value) (a1 : Value) (H0 : Heap) (R : Value → Heap → Prop) (h : keep_Keep_Begin_f1.res s0 a1 H0 R) : CallsH Try.prog 39 #[s0, a1] H0 R := by
  have e : vcFn Try.prog Try.C Try.f39 keep_Keep_Begin_f1.an [s0, a1] H0 R = keep_Keep_Begin_f1.res s0 a1 H0 R := by kernel_rfl
  exact vcFn_sound Try.callable Try.mixed Try.func39 (by kernel_rfl) (e.mpr h)

def keep_Keep_Commit_f1.an : Ann := (.reg (.op 0 [] (.op 1 [] (.op 2 [] (.op 3 [] .nil)))))
/-- (*lighter/keep.Keep).Commit$1 -/
def keep_Keep_Commit_f1.res (s0 : Value) (H0 : Heap) (R : Value → Heap → Prop) : Prop :=
 pNil s0 fun x3 =>
 pFieldAddr 4 x3 fun x4 =>
 pStore H0 x4 (.bool true) fun _ H_1 =>
 R (.tuple #[]) H_1
set_option maxRecDepth 100000 in
theorem keep_Keep_Commit_f1.vc (s0 : Value) (H0 : Heap) (R : Value → Heap → Prop) (h : keep_Keep_Commit_f1.res s0 H0 R) : CallsH Try.prog 41 #[s0] H0 R := by
  have e : vcFn Try.prog Try.C Try.f41 keep_Keep_Commit_f1.an [s0] H0 R = keep_Keep_Commit_f1.res s0 H0 R := by kernel_rfl
  exact vcFn_sound Try.callable Try.mixed Try.func41 (by kernel_rfl) (e.mpr h)

def keep_State_note.an : Ann := (.seq (.reg (.op 0 [] (.op 1 [] .nil))) (.seq (.reg (.op 0 [] .nil)) (.cut [3] [3, 4, 5] (.seq (.reg (.op 0 [] (.op 1 [] .nil))) (.cond (.reg (.op 0 [] .nil)) .leaf)) (.seq (.drw [0, 1, 3, 7, 0, 16, 48, 127, 255, 0, 512, 1536, 3839, 8191, 0, 16384, 49152, 122623, 262143, 0, 777983, 2097151, 4194303] (.op 0 [] (.op 1 [] (.op 2 [] (.op 4 [] (.op 5 [] (.op 6 [] (.op 9 [] (.op 10 [] (.op 11 [] (.op 14 [] (.op 15 [] (.op 16 [] (.op 19 [] (.op 3 [5, 10, 15] (.op 7 [10, 15] (.op 8 [] (.op 12 [15] (.op 13 [] (.op 17 [] (.op 18 [] (.op 20 [] (.op 21 [] (.op 22 [] .nil)))))))))))))))))))))))) .leaf))))
/-- (lighter/keep.State).note -/
def keep_State_note.res (s0 : Value) (H0 : Heap) (R : Value → Heap → Prop) : Prop :=
 pBox H0 40 s0 fun s1 H_1 =>
 ∃ J_2 : Value → Heap → Prop, (∀ _ : Env, ∀ done3 : Value, ∀ H_3 : Heap, J_2 done3 H_3 →
 pFieldAddr 0 s1 fun x6 =>
 pLoad H_3 x6 fun x7 =>
 pConv .u64 x7 fun x8 =>
 pFieldAddr 1 s1 fun x10 =>
 pLoad H_3 x10 fun x11 =>
 pConv .u64 x11 fun x12 =>
 pFieldAddr 2 s1 fun x15 =>
 pLoad H_3 x15 fun x16 =>
 pConv .u64 x16 fun x17 =>
 pFieldAddr 3 s1 fun x20 =>
 pLoad H_3 x20 fun x21 =>
 pConv .u64 x21 fun x22 =>
 CallsH Try.prog 63 #[x8, (.int .i64 4)] H_3 fun x9 H_4 =>
 (pLoad H_4 x10 fun r_ =>
 r_ = x11) ∧
 (pLoad H_4 x15 fun r_ =>
 r_ = x16) ∧
 (pLoad H_4 x20 fun r_ =>
 r_ = x21) ∧
 CallsH Try.prog 63 #[x12, (.int .i64 4)] H_4 fun x13 H_5 =>
 (pLoad H_5 x15 fun r_ =>
 r_ = x16) ∧
 (pLoad H_5 x20 fun r_ =>
 r_ = x21) ∧
 pAdd x9 x13 fun x14 =>
 CallsH Try.prog 63 #[x17, (.int .i64 8)] H_5 fun x18 H_6 =>
 (pLoad H_6 x20 fun r_ =>
 r_ = x21) ∧
 pAdd x14 x18 fun x19 =>
 CallsH Try.prog 63 #[x22, (.int .i64 4)] H_6 fun x23 H_7 =>
 pAdd x19 x23 fun x24 =>
 CallsH Try.prog 63 #[done3, (.int .i64 1)] H_7 fun x26 H_8 =>
 pAdd x24 x26 fun x27 =>
 R x27 H_8) ∧
 pFieldAddr 4 s1 fun x4 =>
 pLoad H_1 x4 fun x5 =>
 pCond x5
 (J_2 (.int .u64 1) H_1)
 (J_2 (.int .u64 0) H_1)
set_option maxRecDepth 100000 in
theorem keep_State_note.vc (s0 : Value) (H0 : Heap) (R : Value → Heap → Prop) (h : keep_State_note.res s0 H0 R) : CallsH Try.prog 51 #[s0] H0 R := by
  have e : vcFn Try.prog Try.C Try.f51 keep_State_note.an [s0] H0 R = keep_State_note.res s0 H0 R := by kernel_rfl
  exact vcFn_sound Try.callable Try.mixed Try.func51 (by kernel_rfl) (e.mpr h)

end Go.Proofs.Ytdaolhlfngfmgaa
